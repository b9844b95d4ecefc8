/- Seat r5: words, tables, and the call 'lives()'. -/
import Derived.Test.YtijfhoelihclbaaGreatDoorJ
import Derived.Laws.Cover3
import Derived.KernelRfl
namespace Go.Proofs.YtijfhoelihclbaaGreatDoor.live
open Go Go.Abs Go.RowKit
set_option maxRecDepth 100000

theorem clone52 (a : Option Addr) (cap : Nat) (w : World) : Calls Tryz.prog 52 #[.slice a 0 cap] w fun e w' => (∃ a' c', e = .returned (.slice a' 0 c')) ∧ Below w.heap.size w w' := by
  have he : ∀ (b : Option Addr) (n c : Nat) (w : World), (binOp .eql 23 (.slice b n c) (.slice none 0 0)).run Tryz.prog w = .ok (.bool b.isNone) w := fun b n c w => by
    have := run_equal_slice_nil (P := Tryz.prog) (w := w) 23 _ b n c Tryz.underlying23
    simp [binOp, this]
  cases a with
  | none =>
    go_enter Tryz.func52, Tryz.ntmps52
    go_wp2
    go_ret
    exact ⟨⟨_, _, rfl⟩, Below.refl _ _⟩
  | some a =>
    go_enter Tryz.func52, Tryz.ntmps52
    go_wp2
    go_ret
    exact ⟨⟨_, _, rfl⟩, by repeat (first | exact Below.refl _ _ | refine Below.drew ?_ | refine Below.alloc ?_ (Nat.le_refl _) _)⟩

theorem sumClone52 (m : Int) : SumOk (cfg m) 52 (extClone (cfg m) 300 52) :=
  extClone_ok (C := cfg m) (orders m) (fun args w => en 52 Tryz.f52 Tryz.func52 (by kernel_rfl) _ rfl args w) (fun a cap w => clone52 a cap w)

theorem clone64 (a : Option Addr) (cap : Nat) (w : World) : Calls Tryz.prog 64 #[.slice a 0 cap] w fun e w' => (∃ a' c', e = .returned (.slice a' 0 c')) ∧ Below w.heap.size w w' := by
  have he : ∀ (b : Option Addr) (n c : Nat) (w : World), (binOp .eql 36 (.slice b n c) (.slice none 0 0)).run Tryz.prog w = .ok (.bool b.isNone) w := fun b n c w => by
    have := run_equal_slice_nil (P := Tryz.prog) (w := w) 36 _ b n c Tryz.underlying36
    simp [binOp, this]
  cases a with
  | none =>
    go_enter Tryz.func64, Tryz.ntmps64
    go_wp2
    go_ret
    exact ⟨⟨_, _, rfl⟩, Below.refl _ _⟩
  | some a =>
    go_enter Tryz.func64, Tryz.ntmps64
    go_wp2
    go_ret
    exact ⟨⟨_, _, rfl⟩, by repeat (first | exact Below.refl _ _ | refine Below.drew ?_ | refine Below.alloc ?_ (Nat.le_refl _) _)⟩

theorem sumClone64 (m : Int) : SumOk (cfg m) 64 (extClone (cfg m) 300 64) :=
  extClone_ok (C := cfg m) (orders m) (fun args w => en 64 Tryz.f64 Tryz.func64 (by kernel_rfl) _ rfl args w) (fun a cap w => clone64 a cap w)

theorem clone65 (a : Option Addr) (cap : Nat) (w : World) : Calls Tryz.prog 65 #[.slice a 0 cap] w fun e w' => (∃ a' c', e = .returned (.slice a' 0 c')) ∧ Below w.heap.size w w' := by
  have he : ∀ (b : Option Addr) (n c : Nat) (w : World), (binOp .eql 31 (.slice b n c) (.slice none 0 0)).run Tryz.prog w = .ok (.bool b.isNone) w := fun b n c w => by
    have := run_equal_slice_nil (P := Tryz.prog) (w := w) 31 _ b n c Tryz.underlying31
    simp [binOp, this]
  cases a with
  | none =>
    go_enter Tryz.func65, Tryz.ntmps65
    go_wp2
    go_ret
    exact ⟨⟨_, _, rfl⟩, Below.refl _ _⟩
  | some a =>
    go_enter Tryz.func65, Tryz.ntmps65
    go_wp2
    go_ret
    exact ⟨⟨_, _, rfl⟩, by repeat (first | exact Below.refl _ _ | refine Below.drew ?_ | refine Below.alloc ?_ (Nat.le_refl _) _)⟩

theorem sumClone65 (m : Int) : SumOk (cfg m) 65 (extClone (cfg m) 300 65) :=
  extClone_ok (C := cfg m) (orders m) (fun args w => en 65 Tryz.f65 Tryz.func65 (by kernel_rfl) _ rfl args w) (fun a cap w => clone65 a cap w)

theorem w1 (m : Int) : isWords words1 (evalF (cfg m) (ext0 m) 300 70 [.t (.str text1)] []) = true := by kernel_rfl
theorem w2 (m : Int) : isWords words2 (evalF (cfg m) (ext0 m) 300 70 [.t (.str text2)] []) = true := by kernel_rfl
theorem w3 (m : Int) : isWords words3 (evalF (cfg m) (ext0 m) 300 70 [.t (.str text3)] []) = true := by kernel_rfl
theorem w4 (m : Int) : isWords words4 (evalF (cfg m) (ext0 m) 300 70 [.t (.str text4)] []) = true := by kernel_rfl

theorem sumWords (m : Int) : SumOk (cfg m) 70 (extTab wordsTab) :=
  extTab_ok (evalN_ok (orders m) (ext0_ok m) 300) (by
    rw [← evalF_eq]
    intro p hp
    simp only [wordsTab, List.mem_cons, List.not_mem_nil, or_false] at hp
    rcases hp with rfl | rfl | rfl | rfl
    · exact isWords_eq (w1 m)
    · exact isWords_eq (w2 m)
    · exact isWords_eq (w3 m)
    · exact isWords_eq (w4 m))

noncomputable def ext1 (m : Int) : Ext := fun | 70 => some (extTab wordsTab) | 52 => some (extClone (cfg m) 300 52) | 64 => some (extClone (cfg m) 300 64) | 65 => some (extClone (cfg m) 300 65) | g => ext0 m g

theorem ext1_ok (m : Int) : ExtOk (cfg m) (ext1 m) := extOk_of (by
  intro g s h
  unfold ext1 at h
  split at h
  · obtain rfl := Option.some.inj h; exact sumWords m
  · obtain rfl := Option.some.inj h; exact sumClone52 m
  · obtain rfl := Option.some.inj h; exact sumClone64 m
  · obtain rfl := Option.some.inj h; exact sumClone65 m
  · exact ext0_ok m _ _ h)

def pText : List UInt8 := [101, 110, 116, 105, 116, 121, 32, 85, 115, 101, 114, 32, 123, 97, 103, 101, 58, 32, 76, 111, 110, 103, 125, 59, 32, 101, 110, 116, 105, 116, 121, 32, 68, 111, 99, 32, 123, 125, 59]
def pTree : Tree := .tup [.agg [.sl [.agg [.str [85, 115, 101, 114], .sl [], .sl [.agg [.str [97, 103, 101], .int .u8 2, .str [], .sl [], .sl []]]], .agg [.str [68, 111, 99], .sl [], .sl []]], .sl []], .int .i64 0, .int .i64 0]
theorem pIs (m : Int) : isTree pTree (evalF (cfg m) (ext1 m) 300 50 [.t (.str pText)] []) = true := by kernel_rfl

theorem sumParse (m : Int) : SumOk (cfg m) 50 (extTab [(pText, .t pTree)]) :=
  extTab_ok (evalN_ok (orders m) (ext1_ok m) 300) (by
    rw [← evalF_eq]
    intro p hp
    simp only [List.mem_cons, List.not_mem_nil, or_false] at hp
    subst hp
    exact isTree_eq (pIs m))

noncomputable def ext2 (m : Int) : Ext := fun | 50 => some (extTab [(pText, .t pTree)]) | g => ext1 m g

theorem ext2_ok (m : Int) : ExtOk (cfg m) (ext2 m) := extOk_of (by
  intro g s h
  unfold ext2 at h
  split at h
  · obtain rfl := Option.some.inj h; exact sumParse m
  · exact ext1_ok m _ _ h)

end Go.Proofs.YtijfhoelihclbaaGreatDoor.live
