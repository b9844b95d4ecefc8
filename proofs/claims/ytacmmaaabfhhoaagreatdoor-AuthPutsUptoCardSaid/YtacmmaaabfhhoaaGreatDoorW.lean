/- The words that the program asks for. -/
import Derived.Test.YtacmmaaabfhhoaaGreatDoorM
import Derived.Laws.Cover3
import Derived.KernelRfl
set_option linter.unusedVariables false
set_option linter.unusedSimpArgs false
namespace Go.Proofs.YtacmmaaabfhhoaaGreatDoor.live
open Go Go.Abs Go.RowKit
set_option maxRecDepth 100000
theorem w1 (m:Int):vK QL (rM (cfg m) (Ko m) 300 184 [.t (.str XW)] [])=true:=by kernel_rfl
theorem w2 (m:Int):vK uL (rM (cfg m) (Ko m) 300 184 [.t (.str QO)] [])=true:=by kernel_rfl
theorem w3 (m:Int):vK QM (rM (cfg m) (Ko m) 300 184 [.t (.str XX)] [])=true:=by kernel_rfl
theorem w4 (m:Int):vK QN (rM (cfg m) (Ko m) 300 184 [.t (.str XY)] [])=true:=by kernel_rfl
theorem I2 (m:Int):jF (cfg m) 184 (zI uM):=
 NX (rH (ah m) (Mq m) 300) (by
  rw[← rN];intro p hp;simp only[uM,List.mem_cons,List.not_mem_nil,or_false] at hp;rcases hp with rfl|rfl|rfl|rfl
  ·exact sX (w1 m)
  ·exact sX (w2 m)
  ·exact sX (w3 m)
  ·exact sX (w4 m))
end Go.Proofs.YtacmmaaabfhhoaaGreatDoor.live
