/- Patterns: what a pattern is cut into, and what a text is to it. Plain Lean, no program. -/
import Derived.Lib.Strings
import Derived.Lib.IndexMore
import Derived.Lib.IndexLaws
namespace Go.Proofs.Ytiogblipfcmpeaa.pat
open Go

/-- a pattern's rest, the pieces done, the piece at hand, all pieces -/
inductive Cut : List UInt8 → List ByteArray → ByteArray → List ByteArray → Prop
  | nil {d c} : Cut [] d c (d ++ [c])
  | esc {r d c o} : Cut r d (c ++ ⟨#[42]⟩) o → Cut (92 :: 42 :: r) d c o
  | star {r d c o} : Cut r (d ++ [c]) ByteArray.empty o → Cut (42 :: r) d c o
  | lit {x r d c o} : x ≠ 42 → ¬ (x = 92 ∧ r.head? = some 42) → Cut r d (c ++ ⟨#[x]⟩) o → Cut (x :: r) d c o

theorem ba_ext {a b : ByteArray} (h : a.data.toList = b.data.toList) : a = b := by
  cases a; cases b; simp at h; simp [h]

theorem ba_append (a b : ByteArray) : (a ++ b).data.toList = a.data.toList ++ b.data.toList := by
  simp

theorem Cut.run {rest : List UInt8} {d : List ByteArray} {o : List ByteArray} : ∀ (xs : List UInt8) (c : ByteArray), (∀ x ∈ xs, x ≠ 42 ∧ x ≠ 92) →
    Cut rest d (c ++ ⟨xs.toArray⟩) o → Cut (xs ++ rest) d c o
  | [], c, _, h => by
      have e : c ++ (⟨([] : List UInt8).toArray⟩ : ByteArray) = c := ba_ext (by simp)
      rw [e] at h
      exact h
  | x :: xs, c, hx, h => by
      have hh := hx x (by simp)
      refine Cut.lit hh.1 (fun he => hh.2 he.1) (Cut.run xs (c ++ ⟨#[x]⟩) (fun y hy => hx y (by simp [hy])) ?_)
      have e : (c ++ (⟨#[x]⟩ : ByteArray)) ++ (⟨xs.toArray⟩ : ByteArray) = c ++ ⟨(x :: xs).toArray⟩ := ba_ext (by simp)
      rw [e]
      exact h

/-- the same as a function: does a star that was told stand next? -/
def cutG : List UInt8 → Bool → List ByteArray → ByteArray → List ByteArray
  | [], _, d, c => d ++ [c]
  | _ :: r, true, d, c => cutG r false d c
  | x :: r, false, d, c =>
    if x = 42 then cutG r false (d ++ [c]) ByteArray.empty
    else if x = 92 ∧ r.head? = some 42 then cutG r true d (c ++ ⟨#[42]⟩)
    else cutG r false d (c ++ ⟨#[x]⟩)

theorem Cut.eq {l : List UInt8} {d : List ByteArray} {c : ByteArray} {o : List ByteArray} (h : Cut l d c o) : cutG l false d c = o := by
  induction h with
  | nil => rfl
  | esc _ ih => simpa [cutG] using ih
  | star _ ih => simpa [cutG] using ih
  | lit h1 h2 _ ih => rw [cutG, if_neg h1, if_neg h2]; exact ih

theorem Cut.of_fn : ∀ (n : Nat) (l : List UInt8) (d : List ByteArray) (c : ByteArray), l.length ≤ n → Cut l d c (cutG l false d c)
  | _, [], d, c, _ => Cut.nil
  | 0, x :: r, d, c, h => by simp at h
  | n + 1, x :: r, d, c, h => by
      have hl : r.length ≤ n := by simpa using h
      rw [cutG]
      by_cases h1 : x = 42
      · rw [if_pos h1, h1]
        exact Cut.star (Cut.of_fn n r _ _ hl)
      · rw [if_neg h1]
        by_cases h2 : x = 92 ∧ r.head? = some 42
        · rw [if_pos h2]
          obtain ⟨rfl, h3⟩ := h2
          cases r with
          | nil => simp at h3
          | cons y r =>
            simp at h3
            subst h3
            exact Cut.esc (Cut.of_fn n r _ _ (by simp at hl; omega))
        · rw [if_neg h2]
          exact Cut.lit h1 h2 (Cut.of_fn n r _ _ hl)

/-- the pieces of a pattern -/
def pieces (p : ByteArray) : List ByteArray := cutG p.data.toList false [] ByteArray.empty

/-- pieces looked for, one behind the other -/
def thread : List ByteArray → ByteArray → Bool
  | [], _ => true
  | p :: r, s =>
    if Lib.index s.data.toList p.data.toList < 0 then false
    else thread r (s.extract ((Lib.index s.data.toList p.data.toList).toNat + p.size) s.size)

/-- is a text as pieces are? -/
def likeB (s : ByteArray) : List ByteArray → Bool
  | [] => true
  | [f] => decide (s = f)
  | f :: g :: r =>
    decide (f.size + ((g :: r).getLast (by simp)).size ≤ s.size) && Lib.hasPrefix s.data.toList f.data.toList
      && Lib.hasSuffix s.data.toList ((g :: r).getLast (by simp)).data.toList
      && thread (g :: r).dropLast (s.extract f.size (s.size - ((g :: r).getLast (by simp)).size))

abbrev e0 : ByteArray := ByteArray.empty
abbrev st : ByteArray := ⟨#[42]⟩

theorem e0_append (a : ByteArray) : e0 ++ a = a := ba_ext (by simp)
theorem append_e0 (a : ByteArray) : a ++ e0 = a := ba_ext (by simp)

theorem cut_plain {p : ByteArray} (h : ∀ x ∈ p.data.toList, x ≠ 42 ∧ x ≠ 92) : Cut p.data.toList [] e0 [p] := by
  have hr := Cut.run (rest := []) (d := []) (o := [p]) p.data.toList e0 h (by
    have e : e0 ++ (⟨p.data.toList.toArray⟩ : ByteArray) = p := ba_ext (by simp)
    rw [e]
    exact Cut.nil (d := []))
  simpa using hr

theorem cut_within {p : ByteArray} (h : ∀ x ∈ p.data.toList, x ≠ 42 ∧ x ≠ 92) : Cut (st ++ p ++ st).data.toList [] e0 [e0, p, e0] := by
  have e : (st ++ p ++ st).data.toList = 42 :: (p.data.toList ++ [42]) := by simp
  rw [e]
  refine Cut.star (Cut.run p.data.toList e0 h ?_)
  have e : e0 ++ (⟨p.data.toList.toArray⟩ : ByteArray) = p := ba_ext (by simp)
  rw [e]
  exact Cut.star Cut.nil

theorem cut_two {p : ByteArray} (h : ∀ x ∈ p.data.toList, x ≠ 42 ∧ x ≠ 92) : Cut (p ++ ⟨#[42, 42]⟩).data.toList [] e0 [p, e0, e0] := by
  have e : (p ++ (⟨#[42, 42]⟩ : ByteArray)).data.toList = p.data.toList ++ [42, 42] := by simp
  rw [e]
  refine Cut.run p.data.toList e0 h ?_
  have e : e0 ++ (⟨p.data.toList.toArray⟩ : ByteArray) = p := ba_ext (by simp)
  rw [e]
  exact Cut.star (Cut.star Cut.nil)

theorem cut_star : Cut (st).data.toList [] e0 [e0, e0] := Cut.star Cut.nil
theorem cut_esc : Cut (⟨#[92, 42, 42]⟩ : ByteArray).data.toList [] e0 [st, e0] := by
  refine Cut.esc (Cut.star ?_)
  have e : e0 ++ (⟨#[42]⟩ : ByteArray) = st := ba_ext (by simp)
  rw [e]
  exact Cut.nil
theorem cut_a1 : Cut (⟨#[97, 42]⟩ : ByteArray).data.toList [] e0 [⟨#[97]⟩, e0] := by
  refine Cut.lit (by decide) (by decide) (Cut.star ?_)
  have e : e0 ++ (⟨#[97]⟩ : ByteArray) = ⟨#[97]⟩ := ba_ext (by simp)
  rw [e]
  exact Cut.nil
theorem cut_a2 : Cut (⟨#[97, 92, 42]⟩ : ByteArray).data.toList [] e0 [⟨#[97, 42]⟩] := by
  refine Cut.lit (by decide) (by decide) (Cut.esc ?_)
  have e : (e0 ++ (⟨#[97]⟩ : ByteArray)) ++ (⟨#[42]⟩ : ByteArray) = ⟨#[97, 42]⟩ := ba_ext (by simp)
  rw [e]
  exact Cut.nil (d := [])

theorem hasPrefix_mk (a b : ByteArray) : Lib.hasPrefix (a ++ b).data.toList a.data.toList = true := by
  unfold Lib.hasPrefix; simp
theorem hasPrefix_nil (s : ByteArray) : Lib.hasPrefix s.data.toList e0.data.toList = true := by
  unfold Lib.hasPrefix; simp
theorem hasSuffix_nil (s : ByteArray) : Lib.hasSuffix s.data.toList e0.data.toList = true := by
  unfold Lib.hasSuffix; simp

theorem like_self (p : ByteArray) : likeB p [p] = true := by simp [likeB]
theorem like_one (a p : ByteArray) : likeB a [p] = decide (a = p) := rfl
theorem like_all (a : ByteArray) : likeB a [e0, e0] = true := by
  simp only [likeB, List.getLast, List.dropLast, thread, hasPrefix_nil, hasSuffix_nil]
  simp
theorem like_ahead (p a : ByteArray) : likeB (p ++ a) [p, e0] = true := by
  simp only [likeB, List.getLast, List.dropLast, thread, hasPrefix_mk, hasSuffix_nil]
  simp
theorem like_two (p c : ByteArray) : likeB (p ++ c) [p, e0, e0] = true := by
  simp only [likeB, List.getLast, List.dropLast, thread, hasPrefix_mk, hasSuffix_nil]
  have e : e0.data.toList = [] := rfl
  simp [e, Lib.index_empty]
theorem like_within (a p c : ByteArray) : likeB (a ++ p ++ c) [e0, p, e0] = true := by
  simp only [likeB, List.getLast, List.dropLast, thread, hasPrefix_nil, hasSuffix_nil]
  have e1 : (a ++ p ++ c).extract e0.size ((a ++ p ++ c).size - e0.size) = a ++ p ++ c := by
    apply ba_ext
    rw [ByteArray.data_extract, Array.toList_extract, List.extract_eq_take_drop]
    have hz : (a ++ p ++ c).data.toList.length = (a ++ p ++ c).size := by rw [Array.length_toList]; rfl
    show List.take ((a ++ p ++ c).size - 0 - 0) (List.drop 0 _) = _
    rw [Nat.sub_zero, Nat.sub_zero, List.drop_zero, ← hz, List.take_length]
  rw [e1]
  have h : ¬ Lib.index (a ++ p ++ c).data.toList p.data.toList < 0 := by
    intro hlt
    rcases Lib.index_spec (a ++ p ++ c).data.toList p.data.toList with ⟨h1, h2⟩ | ⟨i, hi, _⟩
    · have := h2 a.data.toList.length (by simp)
      have hp : p.data.toList.isPrefixOf (p.data.toList ++ c.data.toList) = true := by simp
      simp [Lib.occAt, ba_append] at this
      rw [hp] at this
      cases this
    · omega
  rw [if_neg h]
  simp

theorem like_ab1 : likeB ⟨#[97, 98]⟩ [⟨#[97]⟩, e0] = true := by
  have := like_ahead ⟨#[97]⟩ ⟨#[98]⟩
  have e : (⟨#[97]⟩ : ByteArray) ++ (⟨#[98]⟩ : ByteArray) = ⟨#[97, 98]⟩ := ba_ext (by simp)
  rw [e] at this
  exact this
theorem like_ab2 : likeB ⟨#[97, 98]⟩ [⟨#[97, 42]⟩] = false := by
  simp [likeB]

end Go.Proofs.Ytiogblipfcmpeaa.pat
