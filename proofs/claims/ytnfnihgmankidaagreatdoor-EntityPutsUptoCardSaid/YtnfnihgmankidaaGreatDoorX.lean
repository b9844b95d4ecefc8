/- The words that the program asks for. -/
import Derived.Test.YtnfnihgmankidaaGreatDoorM
import Derived.Laws.Cover3
import Derived.KernelRfl
set_option linter.unusedVariables false
set_option linter.unusedSimpArgs false
namespace Go.Proofs.YtnfnihgmankidaaGreatDoor.live
open Go Go.Abs Go.RowKit
set_option maxRecDepth 100000
theorem w1 (m:Int):xw Tq (vp (cfg m) (QT m) 300 164 [.t (.str Z4)] [])=true:=by kernel_rfl
theorem w2 (m:Int):xw wm (vp (cfg m) (QT m) 300 164 [.t (.str Tv)] [])=true:=by kernel_rfl
theorem w3 (m:Int):xw Tr (vp (cfg m) (QT m) 300 164 [.t (.str Z5)] [])=true:=by kernel_rfl
theorem w4 (m:Int):xw Tt (vp (cfg m) (QT m) 300 164 [.t (.str Z6)] [])=true:=by kernel_rfl
theorem K5 (m:Int):gu (cfg m) 164 (Bb wo):=
 QM (vZ (ai m) (XY m) 300) (by
  rw[← wq];intro p hp;simp only[wo,List.mem_cons,List.not_mem_nil,or_false] at hp;rcases hp with rfl|rfl|rfl|rfl
  ·exact ux (w1 m)
  ·exact ux (w2 m)
  ·exact ux (w3 m)
  ·exact ux (w4 m))
end Go.Proofs.YtnfnihgmankidaaGreatDoor.live
