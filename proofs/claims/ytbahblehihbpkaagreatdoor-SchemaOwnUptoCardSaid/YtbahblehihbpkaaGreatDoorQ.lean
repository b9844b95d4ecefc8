/- More of it. -/
import Derived.Test.YtbahblehihbpkaaGreatDoorN
import Derived.Test.YtbahblehihbpkaaGreatDoorE
import Derived.Test.YtbahblehihbpkaaGreatDoorShelf
namespace Go.Proofs.YtbahblehihbpkaaGreatDoor.w
open Go Go.Abs
set_option linter.unusedVariables false
set_option maxRecDepth 100000
set_option maxHeartbeats 1000000
noncomputable section



/-! ### Arguments of the schema's types -/
open Go.Proofs.YtbahblehihbpkaaGreatDoor.arg
theorem AttE.mono {P Q : Tree → Prop} (h : ∀ x, P x → Q x) {e : Tree} : AttE P e → AttE Q e := fun ⟨nm, k, s, o, a, h1, h2⟩ => ⟨nm, k, s, o, a, h1, h _ h2⟩
theorem TyN.up : ∀ {n : Nat} {T : Tree}, TyN n T → TyN (n + 1) T
  | 0, _, h => h.elim
  | n + 1, T, ⟨k, s, os, bs, h1, h2, h3, h4, h5⟩ => ⟨k, s, os, bs, h1, h2, h3, fun x hx => TyN.up (h4 x hx), fun e he => (h5 e he).mono fun x hx => TyN.up hx⟩
theorem TyN.mono {n m : Nat} (hle : n ≤ m) {T : Tree} (h : TyN n T) : TyN m T := by
  induction hle with
  | refl => exact h
  | step _ ih => exact ih.up

noncomputable abbrev PP : Program := Tryz.prog
theorem sh_str {B n : Nat} {cs : List Tree} (h : ShN PP B n 9 cs) : ∃ s, cs = [.str s] ∧ s.length ≤ B := by
  cases n with
  | zero => exact h.elim
  | succ n => simpa only [ShN, PP, Tryz.underlying9] using h
theorem sh_kind {B n : Nat} {cs : List Tree} (h : ShN PP B n 22 cs) : ∃ k, cs = [.int .u8 k] ∧ (Lit.int .u8 k).wf = true := by
  cases n with
  | zero => exact h.elim
  | succ n => simpa only [ShN, PP, Tryz.underlying22] using h
theorem mk_str (cs : List Tree) : mkT PP 9 cs = cs.headD .nilptr := by simp only [mkT, PP, Tryz.underlying9]
theorem mk_T (cs : List Tree) : mkT PP 26 cs = .agg cs := by simp only [mkT, PP, Tryz.underlying26]
theorem mk_A (cs : List Tree) : mkT PP 31 cs = .agg cs := by simp only [mkT, PP, Tryz.underlying31]
theorem mk_En (cs : List Tree) : mkT PP 40 cs = .agg cs := by simp only [mkT, PP, Tryz.underlying40]
theorem mk_Ac (cs : List Tree) : mkT PP 44 cs = .agg cs := by simp only [mkT, PP, Tryz.underlying44]
theorem mk_Sc (cs : List Tree) : mkT PP 36 cs = .agg cs := by simp only [mkT, PP, Tryz.underlying36]
theorem sh_strs {B n : Nat} (hB : B ≤ 4194304) {cs : List Tree} (h : ShN PP B n 38 cs) : ∃ l, cs = [.sl l] ∧ StrL l := by
  cases n with
  | zero => exact h.elim
  | succ n =>
    simp only [ShN, PP, Tryz.underlying38] at h
    obtain ⟨l, rfl, h1, h2⟩ := h
    refine ⟨l, rfl, by omega, fun e he => ?_⟩
    obtain ⟨ds, h3, rfl⟩ := h2 e he
    obtain ⟨s, rfl, _⟩ := sh_str h3
    exact ⟨s, mk_str _⟩

theorem sh_type {B : Nat} (hB : B ≤ 4194304) : ∀ (n : Nat) (cs : List Tree), ShN PP B n 26 cs → TyN n (.agg cs) := by
  intro n
  induction n using Nat.strongRecOn with
  | _ n ih =>
    intro cs h
    cases n with
    | zero => exact h.elim
    | succ n =>
      simp only [ShN, PP, Tryz.underlying26, ShFs] at h
      obtain ⟨a, _, rfl, h1, b, _, rfl, h2, c, _, rfl, h3, d, _, rfl, h4, rfl⟩ := h
      obtain ⟨k, rfl, _⟩ := sh_kind h1
      obtain ⟨s, rfl, _⟩ := sh_str h2
      cases n with
      | zero => exact h3.elim
      | succ n =>
        simp only [ShN, PP, Tryz.underlying23, Tryz.underlying24] at h3 h4
        obtain ⟨os, rfl, h3, h5⟩ := h3
        obtain ⟨bs, rfl, h4, h6⟩ := h4
        refine ⟨k, s, os, bs, rfl, by omega, by omega, fun x hx => ?_, fun x hx => ?_⟩
        · obtain ⟨ds, hd, rfl⟩ := h5 x hx
          exact (mk_T ds).symm ▸ (ih n (by omega) ds hd).up
        · obtain ⟨ds, hd, rfl⟩ := h6 x hx
          refine (mk_A ds).symm ▸ ?_
          cases n with
          | zero => exact hd.elim
          | succ n =>
            simp only [ShN, PP, Tryz.underlying31, ShFs] at hd
            obtain ⟨a, _, rfl, h7, b, _, rfl, h8, rfl⟩ := hd
            obtain ⟨nm, rfl, _⟩ := sh_str h7
            have ht := ih n (by omega) b h8
            obtain ⟨k', s', o', a', e⟩ := ht.form
            obtain rfl : b = _ := Tree.agg.inj e
            exact ⟨nm, k', s', o', a', rfl, (ht.mono (by omega))⟩

theorem sh_atts {B n : Nat} (hB : B ≤ 4194304) {cs : List Tree} (h : ShN PP B n 24 cs) : ∃ l, cs = [.sl l] ∧ AttL n l := by
  cases n with
  | zero => exact h.elim
  | succ n =>
    simp only [ShN, PP, Tryz.underlying24] at h
    obtain ⟨l, rfl, h1, h2⟩ := h
    refine ⟨l, rfl, by omega, fun e he => ?_⟩
    obtain ⟨ds, hd, rfl⟩ := h2 e he
    refine (mk_A ds).symm ▸ ?_
    cases n with
    | zero => exact hd.elim
    | succ n =>
      simp only [ShN, PP, Tryz.underlying31, ShFs] at hd
      obtain ⟨a, _, rfl, h7, b, _, rfl, h8, rfl⟩ := hd
      obtain ⟨nm, rfl, _⟩ := sh_str h7
      have ht := sh_type hB n b h8
      obtain ⟨k', s', o', a', e⟩ := ht.form
      obtain rfl : b = _ := Tree.agg.inj e
      exact ⟨nm, k', s', o', a', rfl, (ht.mono (by omega))⟩

theorem AttL.mono {n m : Nat} (hle : n ≤ m) {l : List Tree} (h : AttL n l) : AttL m l := ⟨h.1, fun e he => (h.2 e he).mono fun x hx => hx.mono hle⟩

theorem sh_en {B n : Nat} (hB : B ≤ 4194304) {cs : List Tree} (h : ShN PP B n 40 cs) : EnN n (.agg cs) := by
  cases n with
  | zero => exact h.elim
  | succ n =>
    simp only [ShN, PP, Tryz.underlying40, ShFs] at h
    obtain ⟨a, _, rfl, h1, b, _, rfl, h2, c, _, rfl, h3, rfl⟩ := h
    obtain ⟨nm, rfl, _⟩ := sh_str h1
    obtain ⟨ps, rfl, hp⟩ := sh_strs hB h2
    obtain ⟨bs, rfl, hb⟩ := sh_atts hB h3
    exact ⟨nm, ps, bs, rfl, hp, hb.mono (by omega)⟩

theorem sh_ac {B n : Nat} (hB : B ≤ 4194304) {cs : List Tree} (h : ShN PP B n 44 cs) : AcN n (.agg cs) := by
  cases n with
  | zero => exact h.elim
  | succ n =>
    simp only [ShN, PP, Tryz.underlying44, ShFs] at h
    obtain ⟨a, _, rfl, h1, b, _, rfl, h2, b', _, rfl, h2', c, _, rfl, h3, rfl⟩ := h
    obtain ⟨nm, rfl, _⟩ := sh_str h1
    obtain ⟨ps, rfl, hp⟩ := sh_strs hB h2
    obtain ⟨rs, rfl, hr⟩ := sh_strs hB h2'
    obtain ⟨bs, rfl, hb⟩ := sh_atts hB h3
    exact ⟨nm, ps, rs, bs, rfl, hp, hr, hb.mono (by omega)⟩

theorem EnN.mono {n m : Nat} (hle : n ≤ m) {T : Tree} : EnN n T → EnN m T := fun ⟨nm, ps, bs, h1, h2, h3⟩ => ⟨nm, ps, bs, h1, h2, h3.mono hle⟩
theorem AcN.mono {n m : Nat} (hle : n ≤ m) {T : Tree} : AcN n T → AcN m T := fun ⟨nm, ps, rs, bs, h1, h2, h2', h3⟩ => ⟨nm, ps, rs, bs, h1, h2, h2', h3.mono hle⟩

theorem sh_schema {B : Nat} (hB : B ≤ 4194304) {T : Tree} (h : ShT PP B 36 T) : ∃ n ts cs, T = .agg [.sl ts, .sl cs] ∧ ScN n ts cs := by
  obtain ⟨n, ds, h, rfl⟩ := h
  cases n with
  | zero => exact h.elim
  | succ n =>
    simp only [ShN, PP, Tryz.underlying36, ShFs] at h
    obtain ⟨a, _, rfl, h1, b, _, rfl, h2, rfl⟩ := h
    cases n with
    | zero => exact h1.elim
    | succ n =>
      simp only [ShN, PP, Tryz.underlying33, Tryz.underlying34] at h1 h2
      obtain ⟨ts, rfl, h1, h3⟩ := h1
      obtain ⟨cs, rfl, h2, h4⟩ := h2
      refine ⟨n, ts, cs, mk_Sc _, by omega, by omega, fun x hx => ?_, fun x hx => ?_⟩
      · obtain ⟨ds, hd, rfl⟩ := h3 x hx
        exact (mk_En ds).symm ▸ sh_en hB hd
      · obtain ⟨ds, hd, rfl⟩ := h4 x hx
        exact (mk_Ac ds).symm ▸ sh_ac hB hd

theorem sh_text {B : Nat} {T : Tree} (h : ShT PP B 9 T) : ∃ s, T = .str s ∧ s.length ≤ B := by
  obtain ⟨n, ds, h, rfl⟩ := h
  obtain ⟨s, rfl, hs⟩ := sh_str h
  exact ⟨s, mk_str _, hs⟩

theorem law_sh (m : Int) (Ts : List Tree) (h : ShAll PP 1048576 [36, 9] Ts) : CallRel (cf m) 4 (Ts.map .t) [] (.ret (.t (.bool true)) [] []) := by
  match Ts, h with
  | [X, nm], ⟨h1, h2, _⟩ =>
    obtain ⟨n, ts, cs, rfl, hs⟩ := sh_schema (by decide) h1
    obtain ⟨s, rfl, _⟩ := sh_text h2
    exact law_at m n ts cs s hs
end
end Go.Proofs.YtbahblehihbpkaaGreatDoor.w
