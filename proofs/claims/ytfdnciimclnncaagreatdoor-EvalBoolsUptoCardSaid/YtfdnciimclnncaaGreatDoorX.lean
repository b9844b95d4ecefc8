/- The words that the program asks for. -/
import Derived.Test.YtfdnciimclnncaaGreatDoorM
import Derived.Laws.Cover3
import Derived.KernelRfl
set_option linter.unusedVariables false
set_option linter.unusedSimpArgs false
namespace Go.Proofs.YtfdnciimclnncaaGreatDoor.live
open Go Go.Abs Go.RowKit
set_option maxRecDepth 100000
theorem w1 (m:Int):Ar Zm (A3 (cfg m) (P8 m) 300 128 [.t (.str ag6)] [])=true:=by kernel_rfl
theorem w2 (m:Int):Ar zg (A3 (cfg m) (P8 m) 300 128 [.t (.str Zp)] [])=true:=by kernel_rfl
theorem w3 (m:Int):Ar Zn (A3 (cfg m) (P8 m) 300 128 [.t (.str ag7)] [])=true:=by kernel_rfl
theorem w4 (m:Int):Ar Zo (A3 (cfg m) (P8 m) 300 128 [.t (.str ag8)] [])=true:=by kernel_rfl
theorem Qx (m:Int):q3 (cfg m) 128 (vF zh):=
 W7 (CJ (ah m) (NF m) 300) (by
  rw[← CU];intro p hp;simp only[zh,List.mem_cons,List.not_mem_nil,or_false] at hp;rcases hp with rfl|rfl|rfl|rfl
  ·exact xE (w1 m)
  ·exact xE (w2 m)
  ·exact xE (w3 m)
  ·exact xE (w4 m))
end Go.Proofs.YtfdnciimclnncaaGreatDoor.live
