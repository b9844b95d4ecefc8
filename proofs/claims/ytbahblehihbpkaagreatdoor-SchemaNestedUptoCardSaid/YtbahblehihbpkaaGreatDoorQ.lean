/- Seat r3: the words, and the call 'lives()'. -/
import Derived.Test.YtbahblehihbpkaaGreatDoorJ
import Derived.KernelRfl
namespace Go.Proofs.YtbahblehihbpkaaGreatDoor.live
open Go Go.Abs Go.RowKit

theorem w1 (m : Int) : isWords words1 (evalF (cfg m) (ext0 m) 300 120 [.t (.str text1)] []) = true := by kernel_rfl
theorem w2 (m : Int) : isWords words2 (evalF (cfg m) (ext0 m) 300 120 [.t (.str text2)] []) = true := by kernel_rfl
theorem w3 (m : Int) : isWords words3 (evalF (cfg m) (ext0 m) 300 120 [.t (.str text3)] []) = true := by kernel_rfl
theorem w4 (m : Int) : isWords words4 (evalF (cfg m) (ext0 m) 300 120 [.t (.str text4)] []) = true := by kernel_rfl

theorem words120 (m : Int) : SumOk (cfg m) 120 (extTab wordsTab) :=
  extTab_ok (evalN_ok (orders m) (ext0_ok m) 300) (by
    rw [← evalF_eq]
    intro p hp
    simp only [wordsTab, List.mem_cons, List.not_mem_nil, or_false] at hp
    rcases hp with rfl | rfl | rfl | rfl
    · exact isWords_eq (w1 m)
    · exact isWords_eq (w2 m)
    · exact isWords_eq (w3 m)
    · exact isWords_eq (w4 m))

theorem ext_ok (m : Int) : ExtOk (cfg m) (ext m) := extOk_of (by
  intro g s h
  unfold ext at h
  split at h <;> first
    | (obtain rfl := Option.some.inj h; first | exact copy76 m | exact str5 m | exact index160 m | exact indexByte146 m | exact try20 m | exact words120 m)
    | cases h)

theorem yes5 (m : Int) : isYes (evalF (cfg m) (ext m) 300 5 [] []) = true := by kernel_rfl

end Go.Proofs.YtbahblehihbpkaaGreatDoor.live
