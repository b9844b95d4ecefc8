/- The words that the program asks for. -/
import Derived.Test.YtfdnciimclnncaaGreatDoorM
import Derived.Laws.Cover3
import Derived.KernelRfl
set_option linter.unusedVariables false
set_option linter.unusedSimpArgs false
namespace Go.Proofs.YtfdnciimclnncaaGreatDoor.live
open Go Go.Abs Go.RowKit
set_option maxRecDepth 100000
theorem w1 (m:Int):AK Zw (Bn (cfg m) (Qk m) 300 128 [.t (.str ahh)] [])=true:=by kernel_rfl
theorem w2 (m:Int):AK zC (Bn (cfg m) (Qk m) 300 128 [.t (.str Zz)] [])=true:=by kernel_rfl
theorem w3 (m:Int):AK Zx (Bn (cfg m) (Qk m) 300 128 [.t (.str ahi)] [])=true:=by kernel_rfl
theorem w4 (m:Int):AK Zy (Bn (cfg m) (Qk m) 300 128 [.t (.str ahj)] [])=true:=by kernel_rfl
theorem QJ (m:Int):rE (cfg m) 128 (vJ zD):=
 Xi (C7 (ah m) (NL m) 300) (by
  rw[← Df];intro p hp;simp only[zD,List.mem_cons,List.not_mem_nil,or_false] at hp;rcases hp with rfl|rfl|rfl|rfl
  ·exact xW (w1 m)
  ·exact xW (w2 m)
  ·exact xW (w3 m)
  ·exact xW (w4 m))
end Go.Proofs.YtfdnciimclnncaaGreatDoor.live
