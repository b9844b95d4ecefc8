/- The words that the program asks for. -/
import Derived.Test.YtfdnciimclnncaaGreatDoorM
import Derived.Laws.Cover3
import Derived.KernelRfl
set_option linter.unusedVariables false
set_option linter.unusedSimpArgs false
namespace Go.Proofs.YtfdnciimclnncaaGreatDoor.live
open Go Go.Abs Go.RowKit
set_option maxRecDepth 100000
theorem w1 (m:Int):Ax Zz (A7 (cfg m) (Qn m) 300 128 [.t (.str ahk)] [])=true:=by kernel_rfl
theorem w2 (m:Int):Ax zn (A7 (cfg m) (Qn m) 300 128 [.t (.str ZC)] [])=true:=by kernel_rfl
theorem w3 (m:Int):Ax ZA (A7 (cfg m) (Qn m) 300 128 [.t (.str ahl)] [])=true:=by kernel_rfl
theorem w4 (m:Int):Ax ZB (A7 (cfg m) (Qn m) 300 128 [.t (.str ahm)] [])=true:=by kernel_rfl
theorem QL (m:Int):rz (cfg m) 128 (vQ zo):=
 Xi (CO (ah m) (NW m) 300) (by
  rw[← CZ];intro p hp;simp only[zo,List.mem_cons,List.not_mem_nil,or_false] at hp;rcases hp with rfl|rfl|rfl|rfl
  ·exact xQ (w1 m)
  ·exact xQ (w2 m)
  ·exact xQ (w3 m)
  ·exact xQ (w4 m))
end Go.Proofs.YtfdnciimclnncaaGreatDoor.live
