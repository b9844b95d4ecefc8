/- EvalPatterns: the walk. -/
import Derived.Test.YtiogblipfcmpeaaC
namespace Go.Proofs.Ytiogblipfcmpeaa.pat
open Go Go.RowKit
set_option linter.unusedVariables false

theorem MaxOk.below {w w' : World} (h : MaxOk w) (hb : Below w.heap.size w w') : MaxOk w' := by
  obtain ⟨m, hm⟩ := h
  exact ⟨m, by rw [hb.cell (p := ⟨0, 0, none⟩) (h00 w hm)]; exact hm⟩

theorem chain (w : World) {w1 w2 : World} (h : Below w.heap.size w w1) (h2 : Below w1.heap.size w1 w2) : Below w.heap.size w w2 :=
  h.trans (h2.mono h.size)

theorem pieces_of {p : ByteArray} {o : List ByteArray} (h : Cut p.data.toList [] e0 o) : pieces p = o := h.eq

def Plain (p : ByteArray) : Prop := ∀ x ∈ p.data.toList, x ≠ 42 ∧ x ≠ 92

set_option maxHeartbeats 8000000 in
set_option maxRecDepth 100000 in
theorem walk (a b c : ByteArray) (ha : a.size ≤ 1048576) (hb : b.size ≤ 1048576) (hc : c.size ≤ 1048576) (w : World) (hm : MaxOk w) :
    Calls Try.prog 4 #[.string a, .string b, .string c] w fun e w' => e = .returned (.bool true) ∧ Below w.heap.size w w' := by
  have F1 : likeB ⟨#[97, 98]⟩ (pieces ⟨#[97, 42]⟩) = true := by rw [pieces_of cut_a1]; exact like_ab1
  have F2 : likeB ⟨#[97, 98]⟩ (pieces ⟨#[97, 92, 42]⟩) = false := by rw [pieces_of cut_a2]; exact like_ab2
  have h0 := Below.refl w.heap.size w
  go_enter Try.func4, Try.ntmps4
  go_wp2_with (go_at_call 6; refine (like_walk _ _ (by decide) (by decide) _ (by assumption)).mono ?_; rintro e w' ⟨rfl, hbl⟩; have hm' := MaxOk.below (by assumption) hbl; replace hbl := chain w (by assumption) hbl)
  clear F1 F2
  go_loopw [7, 8] (fun t j w2 => ∃ (k : Nat) (P : ByteArray), k ≤ b.size ∧ j = .int .i64 k ∧ t = .string P ∧ P.size ≤ k ∧ Plain P ∧ w2 = w')
    (fun _ j _ => b.size - (intOf j).toNat)
  case atStart => exact ⟨0, ByteArray.empty, Nat.zero_le _, rfl, rfl, Nat.le_refl _, by intro x hx; simp at hx, rfl⟩
  case round =>
    obtain ⟨k, P, hk, rfl, rfl, hPs, hP, rfl⟩ := hrel
    replace hP : Hid _ := hP
    by_cases hkb : k < b.size
    · have b0 : (0 : Int) ≤ (k : Int) := by omega
      have b1 : (k : Int) ≤ (k : Int) + 1 := by omega
      have b2 : (k : Int) + 1 ≤ (b.size : Int) := by omega
      have hbs : k < b.data.toList.length := by simpa using hkb
      have hex : b.extract k (k + 1) = ⟨#[b[k]]⟩ := by
        apply ba_ext
        rw [ByteArray.data_extract, Array.toList_extract, List.extract_eq_take_drop, List.drop_eq_getElem_cons hbs, show k + 1 - k = 0 + 1 from by omega]
        rfl
      by_cases h1 : b[k] = 42
      · have h1' : ((b[k].toNat : Int) != 42) = false := by rw [h1]; rfl
        go_wp2
        go_roundw
        case rel => exact ⟨k + 1, P, by omega, by go_num, rfl, by omega, hP, by first | rfl | trivial⟩
        case measure => simp [intOf]; omega
      by_cases h2 : b[k] = 92
      · have h1' : ((b[k].toNat : Int) != 42) = true := by rw [h2]; rfl
        have h2' : ((b[k].toNat : Int) != 92) = false := by rw [h2]; rfl
        go_wp2
        go_roundw
        case rel => exact ⟨k + 1, P, by omega, by go_num, rfl, by omega, hP, by first | rfl | trivial⟩
        case measure => simp [intOf]; omega
      have h1' : ((b[k].toNat : Int) != 42) = true := by
        have h3 : (b[k].toNat : Int) ≠ 42 := by
          intro he
          exact h1 (UInt8.toNat_inj.1 (show b[k].toNat = (42 : UInt8).toNat from by simpa using (by omega : b[k].toNat = 42)))
        simpa using h3
      have h2' : ((b[k].toNat : Int) != 92) = true := by
        have h3 : (b[k].toNat : Int) ≠ 92 := by
          intro he
          exact h2 (UInt8.toNat_inj.1 (show b[k].toNat = (92 : UInt8).toNat from by simpa using (by omega : b[k].toNat = 92)))
        simpa using h3
      go_wp2
      go_roundw
      case rel =>
        refine ⟨k + 1, P ++ ⟨#[b[k]]⟩, by omega, by go_num, by rw [← hex], ?_, ?_, by first | rfl | trivial⟩
        · have e1 : (P ++ (⟨#[b[k]]⟩ : ByteArray)).size = P.size + 1 := (ByteArray.size_append).trans rfl
          omega
        · intro x hx
          rw [ba_append] at hx
          rcases List.mem_append.1 hx with h | h
          · exact hP x h
          · simp at h; subst h; exact ⟨h1, h2⟩
      case measure => simp [intOf]; omega
    · have hP' : Plain P := hP
      have F1 : likeB (a ++ P ++ c) (pieces (⟨#[42]⟩ ++ P ++ ⟨#[42]⟩)) = true := by rw [pieces_of (cut_within hP')]; exact like_within a P c
      have F2 : likeB P (pieces P) = true := by rw [pieces_of (cut_plain hP')]; exact like_self P
      have F3 : likeB a (pieces ⟨#[42]⟩) = true := by rw [pieces_of cut_star]; exact like_all a
      have F4 : likeB a (pieces P) = (a.toList == P.toList) := by rw [pieces_of (cut_plain hP'), like_one, beq_dec]
      have F5 : likeB (P ++ c) (pieces (P ++ ⟨#[42, 42]⟩)) = true := by rw [pieces_of (cut_two hP')]; exact like_two P c
      have F6 : likeB (⟨#[42]⟩ ++ a) (pieces ⟨#[92, 42, 42]⟩) = true := by rw [pieces_of cut_esc]; exact like_ahead ⟨#[42]⟩ a
      have s1 : (⟨#[42]⟩ : ByteArray).size = 1 := rfl
      have s2 : (⟨#[42, 42]⟩ : ByteArray).size = 2 := rfl
      have s3 : (⟨#[92, 42, 42]⟩ : ByteArray).size = 3 := rfl
      clear hP'
      go_wp2_with (go_at_call 6; refine (like_walk _ _ (by (try simp only [ByteArray.size_append]); omega) (by (try simp only [ByteArray.size_append]); omega) _ (by assumption)).mono ?_; rintro e w' ⟨rfl, hbl⟩; have hm' := MaxOk.below (by assumption) hbl; replace hbl := chain w (by assumption) hbl)
      go_ret
      exact ⟨rfl, hbl⟩
end Go.Proofs.Ytiogblipfcmpeaa.pat
