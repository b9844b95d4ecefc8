/- TypesJoined: any arguments. -/
import Derived.Test.YtijfhoelihclbaaGreatDoorX
import Derived.Test.YtijfhoelihclbaaGreatDoorE
import Derived.Test.YtijfhoelihclbaaGreatDoorShelf
namespace Go.Proofs.YtijfhoelihclbaaGreatDoor.w
open Go Go.Abs Go.Abs.Ty
set_option linter.unusedVariables false
set_option maxRecDepth 100000
set_option maxHeartbeats 2000000
noncomputable section


open Go.Proofs.YtijfhoelihclbaaGreatDoor.arg
noncomputable abbrev PP : Program := Tryz.prog
theorem shl52 {B n : Nat} {cs : List Tree} (h : ShN PP B n 52 cs) : ∃ k, cs = [.int .u8 k] := by
  cases n with
  | zero => exact h.elim
  | succ n =>
    simp only [ShN, PP, Tryz.underlying52] at h
    obtain ⟨x, h1, _⟩ := h
    exact ⟨x, h1⟩
theorem shl4 {B n : Nat} {cs : List Tree} (h : ShN PP B n 4 cs) : ∃ b, cs = [.bool b] := by
  cases n with
  | zero => exact h.elim
  | succ n =>
    simp only [ShN, PP, Tryz.underlying4] at h
    exact h
theorem shl2 {B n : Nat} {cs : List Tree} (h : ShN PP B n 2 cs) : ∃ k, cs = [.int .i64 k] := by
  cases n with
  | zero => exact h.elim
  | succ n =>
    simp only [ShN, PP, Tryz.underlying2] at h
    obtain ⟨x, h1, _⟩ := h
    exact ⟨x, h1⟩
theorem shl9 {B n : Nat} {cs : List Tree} (h : ShN PP B n 9 cs) : ∃ s, cs = [.str s] := by
  cases n with
  | zero => exact h.elim
  | succ n =>
    simp only [ShN, PP, Tryz.underlying9] at h
    obtain ⟨x, h1, _⟩ := h
    exact ⟨x, h1⟩
theorem shl23 {B n : Nat} {cs : List Tree} (h : ShN PP B n 23 cs) : ∃ l, cs = [.sl l] ∧ l.length ≤ B ∧ ∀ x ∈ l, ∃ m, m < n ∧ ∃ ds, ShN PP B m 9 ds ∧ x = mkT PP 9 ds := by
  cases n with
  | zero => exact h.elim
  | succ n =>
    simp only [ShN, PP, Tryz.underlying23] at h
    obtain ⟨l, h1, h2, h3⟩ := h
    exact ⟨l, h1, h2, fun x hx => by obtain ⟨ds, h4, h5⟩ := h3 x hx; exact ⟨n, Nat.lt_succ_self n, ds, h4, h5⟩⟩
theorem shl53 {B n : Nat} {cs : List Tree} (h : ShN PP B n 53 cs) : ∃ l, cs = [.sl l] ∧ l.length ≤ B ∧ ∀ x ∈ l, ∃ m, m < n ∧ ∃ ds, ShN PP B m 55 ds ∧ x = mkT PP 55 ds := by
  cases n with
  | zero => exact h.elim
  | succ n =>
    simp only [ShN, PP, Tryz.underlying53] at h
    obtain ⟨l, h1, h2, h3⟩ := h
    exact ⟨l, h1, h2, fun x hx => by obtain ⟨ds, h4, h5⟩ := h3 x hx; exact ⟨n, Nat.lt_succ_self n, ds, h4, h5⟩⟩
theorem mk55 (cs : List Tree) : mkT PP 55 cs = .agg cs := by simp only [mkT, PP, Tryz.underlying55]
theorem mk9 (cs : List Tree) : mkT PP 9 cs = cs.headD .nilptr := by simp only [mkT, PP, Tryz.underlying9]
theorem sh_all {B : Nat} (hB : B ≤ 4194304) : ∀ n, (∀ cs, ShN PP B n 55 cs → T .apiValue (mkT PP 55 cs)) ∧ (∀ cs, ShN PP B n 9 cs → T .string (mkT PP 9 cs)) := by
  intro n
  induction n using Nat.strongRecOn with
  | _ n ih =>
  refine ⟨fun cs h => ?_, fun cs h => ?_⟩
  · rw [mk55]
    rcases n with _ | n1
    · exact h.elim
    simp only [ShN, PP, Tryz.underlying55, ShFs] at h
    obtain ⟨a9, _, rfl, h2, a10, _, rfl, h3, a11, _, rfl, h4, a12, _, rfl, h5, a13, _, rfl, h6, a14, _, rfl, h7, a15, _, rfl, h8, rfl⟩ := h
    obtain ⟨v16, rfl⟩ := shl52 h2
    obtain ⟨v17, rfl⟩ := shl4 h3
    obtain ⟨v18, rfl⟩ := shl2 h4
    obtain ⟨v19, rfl⟩ := shl9 h5
    obtain ⟨v20, rfl⟩ := shl9 h6
    obtain ⟨l21, rfl, q22, x23⟩ := shl23 h7
    obtain ⟨l24, rfl, q25, x26⟩ := shl53 h8
    exact T.apiValue v16 v17 v18 v19 v20 l21 l24 (by omega) (fun y hy => by obtain ⟨m, hm, ds, hd, rfl⟩ := x23 y hy; exact (ih m (by omega)).2 _ hd) (by omega) (fun y hy => by obtain ⟨m, hm, ds, hd, rfl⟩ := x26 y hy; exact (ih m (by omega)).1 _ hd)
  · rw [mk9]
    obtain ⟨v27, rfl⟩ := shl9 h
    exact T.string v27 
theorem shT_apiValue {B : Nat} (hB : B ≤ 4194304) {x : Tree} (h : ShT PP B 55 x) : T .apiValue x := by
  obtain ⟨n, ds, _, h1, rfl⟩ := h
  exact (sh_all hB n).1 ds h1
theorem shT_string {B : Nat} (hB : B ≤ 4194304) {x : Tree} (h : ShT PP B 9 x) : T .string x := by
  obtain ⟨n, ds, _, h1, rfl⟩ := h
  exact (sh_all hB n).2 ds h1

theorem Dp.mono {n m : Nat} (hle : n ≤ m) {x : Tree} (h : Dp n x) : Dp m x := by
  induction hle with
  | refl => exact h
  | step _ ih => exact Dp.up _ _ ih
theorem mkAt (cs : List Tree) : mkT PP 45 cs = .agg cs := by simp only [mkT, PP, Tryz.underlying45]
theorem mkTt (cs : List Tree) : mkT PP 38 cs = .agg cs := by simp only [mkT, PP, Tryz.underlying38]
theorem sh_kind {B n : Nat} {cs : List Tree} (h : ShN PP B n 35 cs) : ∃ k, cs = [.int .u8 k] := by
  cases n with
  | zero => exact h.elim
  | succ n =>
    simp only [ShN, PP, Tryz.underlying35] at h
    obtain ⟨x, h1, _⟩ := h
    exact ⟨x, h1⟩
theorem sh_type {B : Nat} (hB : B ≤ 4194304) : ∀ (n : Nat) (cs : List Tree), ShN PP B n 38 cs → Dp n (.agg cs) := by
  intro n
  induction n using Nat.strongRecOn with
  | _ n ih =>
    intro cs h
    cases n with
    | zero => exact h.elim
    | succ n =>
      simp only [ShN, PP, Tryz.underlying38, ShFs] at h
      obtain ⟨a, _, rfl, h1, b, _, rfl, h2, c, _, rfl, h3, d, _, rfl, h4, rfl⟩ := h
      obtain ⟨k, rfl⟩ := sh_kind h1
      obtain ⟨s, rfl⟩ := shl9 h2
      cases n with
      | zero => exact h3.elim
      | succ n =>
        simp only [ShN, PP, Tryz.underlying36, Tryz.underlying31] at h3 h4
        obtain ⟨os, rfl, h3, h5⟩ := h3
        obtain ⟨bs, rfl, h4, h6⟩ := h4
        refine ⟨k, s, os, bs, rfl, by omega, by omega, fun x hx => ?_, fun x hx => ?_⟩
        · obtain ⟨ds, hd, rfl⟩ := h5 x hx
          exact (mkTt ds).symm ▸ (ih n (by omega) ds hd).up
        · obtain ⟨ds, hd, rfl⟩ := h6 x hx
          refine (mkAt ds).symm ▸ ?_
          cases n with
          | zero => exact hd.elim
          | succ n =>
            simp only [ShN, PP, Tryz.underlying45, ShFs] at hd
            obtain ⟨a, _, rfl, h7, b, _, rfl, h8, rfl⟩ := hd
            obtain ⟨nm, rfl⟩ := shl9 h7
            have ht := ih n (by omega) b h8
            exact ⟨nm, b, by simp, Dp.mono (by omega) ht⟩
theorem shT_type {B : Nat} (hB : B ≤ 4194304) {x : Tree} (h : ShT PP B 38 x) : ∃ n, Dp n x := by
  obtain ⟨n, ds, _, h1, rfl⟩ := h
  exact ⟨n, (mkTt ds).symm ▸ sh_type hB n ds h1⟩
theorem law_sh (m : Int) (Ts : List Tree) (h : ShAll PP 1048576 [38, 38, 55] Ts) : CallRel (cf m) 5 (Ts.map .t) [] (.ret (.t (.bool true)) [] []) := by
  match Ts, h with
  | [a, b, v], ⟨h1, h2, h3, _⟩ =>
    obtain ⟨n1, d1⟩ := shT_type (by decide) h1
    obtain ⟨n2, d2⟩ := shT_type (by decide) h2
    exact lawJ m (max n1 n2) a b v (Dp.mono (Nat.le_max_left _ _) d1) (Dp.mono (Nat.le_max_right _ _) d2) (shT_apiValue (by decide) h3)

end
end Go.Proofs.YtijfhoelihclbaaGreatDoor.w
