/- The words that the program asks for. -/
import Derived.Test.YtnfnihgmankidaaGreatDoorM
import Derived.Laws.Cover3
import Derived.KernelRfl
set_option linter.unusedVariables false
set_option linter.unusedSimpArgs false
namespace Go.Proofs.YtnfnihgmankidaaGreatDoor.live
open Go Go.Abs Go.RowKit
set_option maxRecDepth 100000
theorem w1 (m:Int):wB Tk (xw (cfg m) (QS m) 300 164 [.t (.str ZC)] [])=true:=by kernel_rfl
theorem w2 (m:Int):wB vr (xw (cfg m) (QS m) 300 164 [.t (.str Tn)] [])=true:=by kernel_rfl
theorem w3 (m:Int):wB Tl (xw (cfg m) (QS m) 300 164 [.t (.str ZD)] [])=true:=by kernel_rfl
theorem w4 (m:Int):wB Tm (xw (cfg m) (QS m) 300 164 [.t (.str ZE)] [])=true:=by kernel_rfl
theorem KG (m:Int):fZ (cfg m) 164 (Az vt):=
 QM (yV (ah m) (XK m) 300) (by
  rw[← y8];intro p hp;simp only[vt,List.mem_cons,List.not_mem_nil,or_false] at hp;rcases hp with rfl|rfl|rfl|rfl
  ·exact s8 (w1 m)
  ·exact s8 (w2 m)
  ·exact s8 (w3 m)
  ·exact s8 (w4 m))
end Go.Proofs.YtnfnihgmankidaaGreatDoor.live
