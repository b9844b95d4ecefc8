/- More of it. -/
import Derived.Test.YtbahblehihbpkaaGreatDoorL
import Derived.Test.YtbahblehihbpkaaGreatDoorM
namespace Go.Proofs.YtbahblehihbpkaaGreatDoor.w
open Go Go.Abs
set_option linter.unusedVariables false
set_option maxRecDepth 100000
set_option maxHeartbeats 1000000
noncomputable section



/-! ### Types, schemas as trees -/
def AttE (Ty : Tree → Prop) (e : Tree) : Prop := ∃ nm k s o a, e = .agg [.str nm, .int .u8 k, .str s, .sl o, .sl a] ∧ Ty (.agg [.int .u8 k, .str s, .sl o, .sl a])

def TyN : Nat → Tree → Prop
  | 0, _ => False
  | n + 1, T => ∃ k s os bs, T = .agg [.int .u8 k, .str s, .sl os, .sl bs] ∧ os.length ≤ 4194304 ∧ bs.length ≤ 4194304 ∧ (∀ x ∈ os, TyN n x) ∧ ∀ e ∈ bs, AttE (TyN n) e

theorem TyN.form {n : Nat} {x : Tree} (h : TyN n x) : ∃ k s o a, x = .agg [.int .u8 k, .str s, .sl o, .sl a] := by
  cases n with
  | zero => exact h.elim
  | succ n => obtain ⟨k, s, o, a, h, _⟩ := h; exact ⟨k, s, o, a, h⟩

def StrL (l : List Tree) : Prop := l.length ≤ 4194304 ∧ ∀ e ∈ l, ∃ s, e = .str s
theorem StrL.uni {l : List Tree} (h : StrL l) : Uni false 1 l := fun e he => by obtain ⟨s, rfl⟩ := h.2 e he; exact ⟨rfl, rfl, rfl⟩
def AttL (n : Nat) (l : List Tree) : Prop := l.length ≤ 4194304 ∧ ∀ e ∈ l, AttE (TyN n) e
theorem AttL.uni {n : Nat} {l : List Tree} (h : AttL n l) : Uni true 5 l := fun e he => by obtain ⟨_, _, _, _, _, rfl, _⟩ := h.2 e he; exact ⟨rfl, rfl, rfl⟩
def AttP (n : Nat) (x : Tree) : Prop := ∃ l, x = .sl l ∧ AttL n l
def EnN (n : Nat) (T : Tree) : Prop := ∃ nm ps bs, T = .agg [.str nm, .sl ps, .sl bs] ∧ StrL ps ∧ AttL n bs
def AcN (n : Nat) (T : Tree) : Prop := ∃ nm ps rs bs, T = .agg [.str nm, .sl ps, .sl rs, .sl bs] ∧ StrL ps ∧ StrL rs ∧ AttL n bs

/-! ### Clones -/
theorem fun9 (m : Int) : FunOk (cf m) 17 (ct1 (UniP false 1) (rowRes (.loc [5]) 9 false 1)) := row_fun (clone9_nil noEv_ok) fun es h1 h2 h3 => clone9_row noEv_ok es h1 h2 h3
theorem fun9d (m : Int) : FunOk (cf m) 17 (ct1 (UniP false 1) (fun x => .ret (.t x) [] [])) := data_fun (clone9_nil noEv_ok) fun es h1 h2 h3 => clone9_froz noEv_ok es h1 h2 h3
theorem fun26 (m : Int) : FunOk (cf m) 91 (ct1 (UniP true 4) (rowRes (.loc [5]) 26 true 4)) := row_fun (clone26_nil noEv_ok) fun es h1 h2 h3 => clone26_row noEv_ok es h1 h2 h3
theorem fun31 (m : Int) : FunOk (cf m) 46 (ct1 (UniP true 5) (rowRes (.loc [5]) 31 true 5)) := row_fun (clone31_nil noEv_ok) fun es h1 h2 h3 => clone31_row noEv_ok es h1 h2 h3

/-! ### own -/
theorem attrs_at (m : Int) (n : Nat) (ih : ∀ T, TyN n T → CallRel (cf m) 47 [.t T] [] (.ret (.t T) [] [])) (l : List Tree) (h : AttL n l) (r : FRes)
    (hr : r = .ret (.t (.sl l)) [] [] ∨ (l ≠ [] ∧ r = .ret (.ref (.loc [0]) 0 l.length) [] [(.loc [0], .arr (31, true) 5 false ((flat l).map .t))])) : CallRel (cf m) 18 [.t (.sl l)] [] r := by
  have hev : CallOk (cf m) (oneEv 47 (ct1 (TyN n) fun x => .ret (.t x) [] []) (oneEv 46 (ct1 (UniP true 5) (rowRes (.loc [5]) 31 true 5)) noEv)) := oneEv_ok (ct1_ok ih) (oneEv_ok (fun31 m) noEv_ok)
  have hc := ev_there (s := ct1 (TyN n) fun x => .ret (.t x) [] []) (g := 47) rfl (ct1_at (g := 46) (P := UniP true 5) (res := rowRes (.loc [5]) 31 true 5) (ev := noEv) (x := .sl l) ⟨l, rfl, h.uni, h.1⟩)
  by_cases hl : l = []
  · subst hl
    rcases hr with rfl | ⟨h, _⟩
    · exact attrs_nil _ hev hc
    · exact absurd rfl h
  · rw [rowRes_ne hl] at hc
    exact attrs_row _ hev l hl h.1 (TyN n) h.2 hc (fun x hx => ct1_at hx) r (hr.imp id fun h => h.2)

theorem own_at (m : Int) : ∀ n T, TyN n T → CallRel (cf m) 47 [.t T] [] (.ret (.t T) [] [])
  | 0, T, h => h.elim
  | n + 1, T, h => by
    have ih := own_at m n
    obtain ⟨k, s, os, bs, rfl, h1, h2, h3, h4⟩ := h
    have hev : CallOk (cf m) (oneEv 47 (ct1 (TyN n) fun x => .ret (.t x) [] []) (oneEv 18 (ct1 (fun x => ∃ l, x = .sl l ∧ AttL n l) fun x => .ret (.t x) [] []) (oneEv 91 (ct1 (UniP true 4) (rowRes (.loc [5]) 26 true 4)) noEv))) :=
      oneEv_ok (ct1_ok ih) (oneEv_ok (ct1_ok fun x hx => by obtain ⟨l, rfl, hl⟩ := hx; exact attrs_at m n ih l hl _ (.inl rfl)) (oneEv_ok (fun26 m) noEv_ok))
    have hu : Uni true 4 os := fun e he => by obtain ⟨_, _, _, _, rfl⟩ := (h3 e he).form; exact ⟨rfl, rfl, rfl⟩
    have ha := ev_there (s := ct1 (TyN n) fun x => .ret (.t x) [] []) (g := 47) rfl (ct1_at (g := 18) (P := fun x => ∃ l, x = .sl l ∧ AttL n l) (res := fun x => .ret (.t x) [] []) (ev := oneEv 91 (ct1 (UniP true 4) (rowRes (.loc [5]) 26 true 4)) noEv) (x := .sl bs) ⟨bs, rfl, h2, h4⟩)
    have hc := ev_there (s := ct1 (TyN n) fun x => .ret (.t x) [] []) (g := 47) rfl (ev_there (s := ct1 (fun x => ∃ l, x = .sl l ∧ AttL n l) fun x => .ret (.t x) [] []) (g := 18) rfl (ct1_at (g := 91) (P := UniP true 4) (res := rowRes (.loc [5]) 26 true 4) (ev := noEv) (x := .sl os) ⟨os, rfl, hu, h1⟩))
    by_cases ho : os = []
    · subst ho
      exact own_nil _ hev k s bs hc ha
    · rw [rowRes_ne ho] at hc
      exact own_row _ hev k s os bs ho h1 (TyN n) (fun x hx => hx.form) h3 hc (fun x hx => ct1_at hx) ha

/-! ### copies -/
theorem copyAttrs_at (m : Int) (n : Nat) (ih : ∀ T, TyN n T → CallRel (cf m) 90 [.t T] [] (.ret (.t T) [] [])) (l : List Tree) (h : AttL n l) : CallRel (cf m) 45 [.t (.sl l)] [] (.ret (.t (.sl l)) [] []) :=
  copyAttrs _ (oneEv_ok (ct1_ok ih) noEv_ok) l h.1 (TyN n) h.2 (fun x hx => ct1_at hx)

theorem copyOf_at (m : Int) : ∀ n T, TyN n T → CallRel (cf m) 90 [.t T] [] (.ret (.t T) [] [])
  | 0, T, h => h.elim
  | n + 1, T, h => by
    have ih := copyOf_at m n
    obtain ⟨k, s, os, bs, rfl, h1, h2, h3, h4⟩ := h
    exact copyOf _ (oneEv_ok (f := 90) (s := ct1 (TyN n) fun x => .ret (.t x) [] []) (ct1_ok ih) (oneEv_ok (f := 45) (s := ct1 (fun x => ∃ l, x = .sl l ∧ AttL n l) fun x => .ret (.t x) [] []) (ct1_ok fun x hx => by obtain ⟨l, rfl, hl⟩ := hx; exact copyAttrs_at m n ih l hl) noEv_ok)) k s os bs h1 (TyN n) (fun x hx => hx.form) h3 (fun x hx => ct1_at hx)
      (ev_there rfl (ct1_at ⟨bs, rfl, h2, h4⟩))

theorem funCopyAttrs (m : Int) (n : Nat) : FunOk (cf m) 45 (ct1 (fun x => ∃ l, x = .sl l ∧ AttL n l) fun x => .ret (.t x) [] []) := ct1_ok fun x hx => by
  obtain ⟨l, rfl, hl⟩ := hx; exact copyAttrs_at m n (copyOf_at m n) l hl

theorem copyEn_at (m : Int) (n : Nat) (T : Tree) (h : EnN n T) : CallRel (cf m) 15 [.t T] [] (.ret (.t T) [] []) := by
  obtain ⟨nm, ps, bs, rfl, hp, hb⟩ := h
  have hev := oneEv_ok (funCopyAttrs m n) (noEv_ok (C := cf m))
  have ha := ct1_at (g := 45) (P := fun x => ∃ l, x = .sl l ∧ AttL n l) (res := fun x => .ret (.t x) [] []) (ev := noEv) (x := .sl bs) ⟨bs, rfl, hb⟩
  by_cases hne : ps = []
  · subst hne; exact copyType_nil _ hev nm bs ha
  · exact copyType_row _ hev nm ps bs hne hp.uni hp.1 ha

theorem copyAc_at (m : Int) (n : Nat) (T : Tree) (h : AcN n T) : CallRel (cf m) 16 [.t T] [] (.ret (.t T) [] []) := by
  obtain ⟨nm, ps, rs, bs, rfl, hp, hr, hb⟩ := h
  have hev := oneEv_ok (funCopyAttrs m n) (noEv_ok (C := cf m))
  have ha := ct1_at (g := 45) (P := fun x => ∃ l, x = .sl l ∧ AttL n l) (res := fun x => .ret (.t x) [] []) (ev := noEv) (x := .sl bs) ⟨bs, rfl, hb⟩
  by_cases h1 : ps = [] <;> by_cases h2 : rs = []
  · subst h1; subst h2; exact copyAction_00 _ hev nm bs ha
  · subst h1; exact copyAction_01 _ hev nm rs bs h2 hr.uni hr.1 ha
  · subst h2; exact copyAction_10 _ hev nm ps bs h1 hp.uni hp.1 ha
  · exact copyAction_11 _ hev nm ps rs bs h1 hp.uni hp.1 h2 hr.uni hr.1 ha

theorem EnN.form {n : Nat} {x : Tree} (h : EnN n x) : ∃ nm p b, x = .agg [.str nm, .sl p, .sl b] := by obtain ⟨a, b, c, h, _⟩ := h; exact ⟨a, b, c, h⟩
theorem AcN.form {n : Nat} {x : Tree} (h : AcN n x) : ∃ nm p r b, x = .agg [.str nm, .sl p, .sl r, .sl b] := by obtain ⟨a, b, c, d, h, _⟩ := h; exact ⟨a, b, c, d, h⟩

def ScN (n : Nat) (ts cs : List Tree) : Prop := ts.length ≤ 4194304 ∧ cs.length ≤ 4194304 ∧ (∀ x ∈ ts, EnN n x) ∧ ∀ x ∈ cs, AcN n x

theorem copy_at (m : Int) (n : Nat) (ts cs : List Tree) (h : ScN n ts cs) : CallRel (cf m) 7 [.t (.agg [.sl ts, .sl cs])] [] (.ret (.t (.agg [.sl ts, .sl cs])) [] []) :=
  copySchema _ (oneEv_ok (f := 15) (s := ct1 (EnN n) fun x => .ret (.t x) [] []) (ct1_ok (copyEn_at m n)) (oneEv_ok (f := 16) (s := ct1 (AcN n) fun x => .ret (.t x) [] []) (ct1_ok (copyAc_at m n)) noEv_ok)) ts cs h.1 h.2.1 (EnN n) (AcN n) (fun x hx => hx.form) (fun x hx => hx.form) h.2.2.1 h.2.2.2
    (fun x hx => ct1_at hx) (fun x hx => ev_there rfl (ct1_at hx))

/-! ### comparisons -/
def yes2 : Tree → Tree → FRes := fun _ _ => .ret (.t (.bool true)) [] []
theorem sameAttrs_at (m : Int) (n : Nat) (ih : ∀ T, TyN n T → CallRel (cf m) 92 [.t T, .t T] [] (.ret (.t (.bool true)) [] [])) (l : List Tree) (h : AttL n l) : CallRel (cf m) 49 [.t (.sl l), .t (.sl l)] [] (.ret (.t (.bool true)) [] []) :=
  sameAttrs _ (oneEv_ok (f := 92) (s := ct2 (fun x y => x = y ∧ TyN n x) yes2) (ct2_ok fun x y hx => by obtain ⟨rfl, hx⟩ := hx; exact ih x hx) noEv_ok) l h.1 (TyN n) h.2 (fun x hx => ct2_at (res := yes2) ⟨rfl, hx⟩)

theorem sameType_at (m : Int) : ∀ n T, TyN n T → CallRel (cf m) 92 [.t T, .t T] [] (.ret (.t (.bool true)) [] [])
  | 0, T, h => h.elim
  | n + 1, T, h => by
    have ih := sameType_at m n
    obtain ⟨k, s, os, bs, rfl, h1, h2, h3, h4⟩ := h
    exact sameType _ (oneEv_ok (f := 92) (s := ct2 (fun x y => x = y ∧ TyN n x) yes2) (ct2_ok fun x y hx => by obtain ⟨rfl, hx⟩ := hx; exact ih x hx)
      (oneEv_ok (f := 49) (s := ct2 (fun x y => x = y ∧ ∃ l, x = .sl l ∧ AttL n l) yes2) (ct2_ok fun x y hx => by obtain ⟨rfl, l, rfl, hl⟩ := hx; exact sameAttrs_at m n ih l hl) noEv_ok)) k s os bs h1 (TyN n) (fun x hx => hx.form) h3
      (fun x hx => ct2_at (res := yes2) ⟨rfl, hx⟩) (ev_there rfl (ct2_at (res := yes2) ⟨rfl, bs, rfl, h2, h4⟩))

theorem funTexts (m : Int) : FunOk (cf m) 48 (ct2 (fun x y => x = y ∧ ∃ l, x = .sl l ∧ StrL l) yes2) := ct2_ok fun x y hx => by
  obtain ⟨rfl, l, rfl, hl⟩ := hx; exact texts_same _ noEv_ok l hl.1 hl.2
theorem funSameAttrs (m : Int) (n : Nat) : FunOk (cf m) 49 (ct2 (fun x y => x = y ∧ ∃ l, x = .sl l ∧ AttL n l) yes2) := ct2_ok fun x y hx => by
  obtain ⟨rfl, l, rfl, hl⟩ := hx; exact sameAttrs_at m n (sameType_at m n) l hl

theorem sameEn_at (m : Int) (n : Nat) (T : Tree) (h : EnN n T) : CallRel (cf m) 19 [.t T, .t T] [] (.ret (.t (.bool true)) [] []) := by
  obtain ⟨nm, ps, bs, rfl, hp, hb⟩ := h
  exact sameEntity _ (oneEv_ok (funTexts m) (oneEv_ok (funSameAttrs m n) noEv_ok)) nm ps bs (ct2_at (res := yes2) ⟨rfl, ps, rfl, hp⟩) (ev_there rfl (ct2_at (res := yes2) ⟨rfl, bs, rfl, hb⟩))

theorem sameAc_at (m : Int) (n : Nat) (T : Tree) (h : AcN n T) : CallRel (cf m) 20 [.t T, .t T] [] (.ret (.t (.bool true)) [] []) := by
  obtain ⟨nm, ps, rs, bs, rfl, hp, hr, hb⟩ := h
  exact sameAction _ (oneEv_ok (funTexts m) (oneEv_ok (funSameAttrs m n) noEv_ok)) nm ps rs bs (ct2_at (res := yes2) ⟨rfl, ps, rfl, hp⟩) (ct2_at (res := yes2) ⟨rfl, rs, rfl, hr⟩) (ev_there rfl (ct2_at (res := yes2) ⟨rfl, bs, rfl, hb⟩))

theorem same_at (m : Int) (n : Nat) (ts cs : List Tree) (h : ScN n ts cs) : CallRel (cf m) 10 [.t (.agg [.sl ts, .sl cs]), .t (.agg [.sl ts, .sl cs])] [] (.ret (.t (.bool true)) [] []) :=
  sameSchema _ (oneEv_ok (f := 19) (s := ct2 (fun x y => x = y ∧ EnN n x) yes2) (ct2_ok fun x y hx => by obtain ⟨rfl, hx⟩ := hx; exact sameEn_at m n x hx) (oneEv_ok (f := 20) (s := ct2 (fun x y => x = y ∧ AcN n x) yes2) (ct2_ok fun x y hx => by obtain ⟨rfl, hx⟩ := hx; exact sameAc_at m n x hx) noEv_ok))
    ts cs h.1 h.2.1 (EnN n) (AcN n) (fun x hx => hx.form) (fun x hx => hx.form) h.2.2.1 h.2.2.2 (fun x hx => ct2_at (res := yes2) ⟨rfl, hx⟩) (fun x hx => ev_there rfl (ct2_at (res := yes2) ⟨rfl, hx⟩))

/-! ### The first one of a name -/
theorem hitE {n : Nat} (nm : List UInt8) : ∀ (ts : List Tree), (∀ x ∈ ts, EnN n x) →
    (∀ (i : Nat), i < ts.length → ∀ x, ts[i]? = some x → ∀ n1 p1 b1, x = .agg [.str n1, .sl p1, .sl b1] → ¬ n1 = nm) ∨
    ∃ (p : Nat) (ps bs : List Tree), ts[p]? = some (.agg [.str nm, .sl ps, .sl bs]) ∧ (∀ (i : Nat), i < p → ∀ x, ts[i]? = some x → ∀ n1 p1 b1, x = .agg [.str n1, .sl p1, .sl b1] → ¬ n1 = nm) ∧ StrL ps ∧ AttL n bs
  | [], _ => .inl fun i hi => by simp at hi
  | t :: r, h => by
    obtain ⟨n1, ps, bs, rfl, hp, hb⟩ := h t List.mem_cons_self
    by_cases hn : n1 = nm
    · subst hn
      exact .inr ⟨0, ps, bs, rfl, fun i hi => by omega, hp, hb⟩
    · rcases hitE nm r (fun x hx => h x (List.mem_cons_of_mem _ hx)) with hno | ⟨p, ps', bs', h1, h2, h3, h4⟩
      · refine .inl fun i hi x hx m1 p1 b1 e => ?_
        cases i with
        | zero => simp at hx; subst hx; simp at e; obtain ⟨rfl, _, _⟩ := e; exact hn
        | succ i => exact hno i (by simpa using hi) x (by simpa using hx) m1 p1 b1 e
      · refine .inr ⟨p + 1, ps', bs', by simpa using h1, fun i hi x hx m1 p1 b1 e => ?_, h3, h4⟩
        cases i with
        | zero => simp at hx; subst hx; simp at e; obtain ⟨rfl, _, _⟩ := e; exact hn
        | succ i => exact h2 i (by omega) x (by simpa using hx) m1 p1 b1 e

theorem hitA {n : Nat} (nm : List UInt8) : ∀ (ts : List Tree), (∀ x ∈ ts, AcN n x) →
    (∀ (i : Nat), i < ts.length → ∀ x, ts[i]? = some x → ∀ n1 p1 r1 b1, x = .agg [.str n1, .sl p1, .sl r1, .sl b1] → ¬ n1 = nm) ∨
    ∃ (p : Nat) (ps rs bs : List Tree), ts[p]? = some (.agg [.str nm, .sl ps, .sl rs, .sl bs]) ∧ (∀ (i : Nat), i < p → ∀ x, ts[i]? = some x → ∀ n1 p1 r1 b1, x = .agg [.str n1, .sl p1, .sl r1, .sl b1] → ¬ n1 = nm) ∧ StrL ps ∧ StrL rs ∧ AttL n bs
  | [], _ => .inl fun i hi => by simp at hi
  | t :: r, h => by
    obtain ⟨n1, ps, rs, bs, rfl, hp, hr, hb⟩ := h t List.mem_cons_self
    by_cases hn : n1 = nm
    · subst hn
      exact .inr ⟨0, ps, rs, bs, rfl, fun i hi => by omega, hp, hr, hb⟩
    · rcases hitA nm r (fun x hx => h x (List.mem_cons_of_mem _ hx)) with hno | ⟨p, ps', rs', bs', h1, h2, h3, h4, h5⟩
      · refine .inl fun i hi x hx m1 p1 q1 b1 e => ?_
        cases i with
        | zero => simp at hx; subst hx; simp at e; obtain ⟨rfl, _, _⟩ := e; exact hn
        | succ i => exact hno i (by simpa using hi) x (by simpa using hx) m1 p1 q1 b1 e
      · refine .inr ⟨p + 1, ps', rs', bs', by simpa using h1, fun i hi x hx m1 p1 q1 b1 e => ?_, h3, h4, h5⟩
        cases i with
        | zero => simp at hx; subst hx; simp at e; obtain ⟨rfl, _, _⟩ := e; exact hn
        | succ i => exact h2 i (by omega) x (by simpa using hx) m1 p1 q1 b1 e

/-! ### The law -/
theorem lives_at (m : Int) : CallRel (cf m) 5 [] [] (.ret (.t (.bool true)) [] []) := by
  have hr := isYes_eq (live.yes5 m)
  rw [evalF_eq] at hr
  exact fun G w vs hw hg ha hh hv => evalN_ok (live.orders m) (live.ext_ok m) 300 5 [] [] _ hr G w vs hw hg ha hh hv

def XX (ts cs : List Tree) : Tree := .agg [.sl ts, .sl cs]
/-- what stands behind the finders' calls -/
theorem findEv_ok (m : Int) (n : Nat) : CallOk (cf m) (oneEv 17 (ct1 (UniP false 1) (rowRes (.loc [5]) 9 false 1)) (oneEv 18 (ct1 (AttP n) (rowRes (.loc [0]) 31 true 5)) noEv)) :=
  oneEv_ok (fun9 m) (oneEv_ok (ct1_ok fun x hx => by
    obtain ⟨l, rfl, hl⟩ := hx
    by_cases he : l = []
    · subst he; exact attrs_at m n (own_at m n) [] hl _ (.inl rfl)
    · rw [rowRes_ne he]; exact attrs_at m n (own_at m n) l hl _ (.inr ⟨he, rfl⟩)) noEv_ok)
theorem findEvA_ok (m : Int) (n : Nat) : CallOk (cf m) (oneEv 17 (ct1 (UniP false 1) (fun x => .ret (.t x) [] [])) (oneEv 18 (ct1 (AttP n) (rowRes (.loc [0]) 31 true 5)) noEv)) :=
  oneEv_ok (fun9d m) (oneEv_ok (ct1_ok fun x hx => by
    obtain ⟨l, rfl, hl⟩ := hx
    by_cases he : l = []
    · subst he; exact attrs_at m n (own_at m n) [] hl _ (.inl rfl)
    · rw [rowRes_ne he]; exact attrs_at m n (own_at m n) l hl _ (.inr ⟨he, rfl⟩)) noEv_ok)
theorem StrL.p {l : List Tree} (h : StrL l) : UniP false 1 (.sl l) := ⟨l, rfl, h.uni, h.1⟩
theorem AttL.p {n : Nat} {l : List Tree} (h : AttL n l) : AttP n (.sl l) := ⟨l, rfl, h⟩

def typeRes (an : List UInt8) (ps bs : List Tree) (ae : Int) : FRes :=
  match ps, bs with
  | [], [] => .ret (.t (.tup [.agg [.str an, .sl [], .sl []], .int .i64 ae])) [] []
  | [], bs => .ret (.tup [.agg [.t (.str an), .t (.sl []), .ref (.loc [15, 0]) 0 bs.length], .t (.int .i64 ae)]) [] [(.loc [15, 0], .arr (31, true) 5 false ((flat bs).map .t))]
  | ps, [] => .ret (.tup [.agg [.t (.str an), .ref (.loc [12, 5]) 0 ps.length, .t (.sl [])], .t (.int .i64 ae)]) [] [(.loc [12, 5], .arr (9, false) 1 false ((flat ps).map .t))]
  | ps, bs => .ret (.tup [.agg [.t (.str an), .ref (.loc [12, 5]) 0 ps.length, .ref (.loc [15, 0]) 0 bs.length], .t (.int .i64 ae)]) [] [(.loc [12, 5], .arr (9, false) 1 false ((flat ps).map .t)), (.loc [15, 0], .arr (31, true) 5 false ((flat bs).map .t))]
def actRes (bn : List UInt8) (p1 r1 bs : List Tree) (be : Int) : FRes :=
  match bs with
  | [] => .ret (.t (.tup [.agg [.str bn, .sl p1, .sl r1, .sl []], .int .i64 be])) [] []
  | bs => .ret (.tup [.agg [.t (.str bn), .t (.sl p1), .t (.sl r1), .ref (.loc [18, 0]) 0 bs.length], .t (.int .i64 be)]) [] [(.loc [18, 0], .arr (31, true) 5 false ((flat bs).map .t))]

theorem type_at (m : Int) (n : Nat) (ts cs : List Tree) (nm : List UInt8) (h : ScN n ts cs) :
    ∃ an ps bs ae, StrL ps ∧ AttL n bs ∧ CallRel (cf m) 8 [.t (.agg [.sl ts, .sl cs]), .t (.str nm)] [] (typeRes an ps bs ae) := by
  have hev := findEv_ok m n
  rcases hitE nm ts h.2.2.1 with hno | ⟨p, ps, bs, hp, hno, hps, hbs⟩
  · exact ⟨[], [], [], 9, ⟨by simp, by simp⟩, ⟨by simp, by simp⟩, type_none _ hev ts cs nm h.1 (fun x hx => (h.2.2.1 x hx).form) hno⟩
  · have hc := ct1_at (g := 17) (P := UniP false 1) (res := rowRes (.loc [5]) 9 false 1) (ev := oneEv 18 (ct1 (AttP n) (rowRes (.loc [0]) 31 true 5)) noEv) hps.p
    have ha := ev_there (g := 17) (s := ct1 (UniP false 1) (rowRes (.loc [5]) 9 false 1)) rfl (ct1_at (g := 18) (P := AttP n) (res := rowRes (.loc [0]) 31 true 5) (ev := noEv) hbs.p)
    refine ⟨nm, ps, bs, 0, hps, hbs, ?_⟩
    match ps, bs with
    | [], [] => exact type_00 _ hev ts cs nm h.1 (fun x hx => (h.2.2.1 x hx).form) p hp hno hc ha
    | [], b :: bs => exact type_01 _ hev ts cs nm h.1 (fun x hx => (h.2.2.1 x hx).form) p (b :: bs) hp hno hc ha
    | a :: ps, [] => exact type_10 _ hev ts cs nm h.1 (fun x hx => (h.2.2.1 x hx).form) p (a :: ps) hp hno hc ha
    | a :: ps, b :: bs => exact type_11 _ hev ts cs nm h.1 (fun x hx => (h.2.2.1 x hx).form) p (a :: ps) (b :: bs) hp hno hc ha

theorem action_at (m : Int) (n : Nat) (ts cs : List Tree) (nm : List UInt8) (h : ScN n ts cs) :
    ∃ bn p1 r1 bs be, AttL n bs ∧ CallRel (cf m) 9 [.t (.agg [.sl ts, .sl cs]), .t (.str nm)] [] (actRes bn p1 r1 bs be) := by
  have hev := findEvA_ok m n
  rcases hitA nm cs h.2.2.2 with hno | ⟨p, ps, rs, bs, hp, hno, hps, hrs, hbs⟩
  · exact ⟨[], [], [], [], 9, ⟨by simp, by simp⟩, action_none _ hev ts cs nm h.2.1 (fun x hx => (h.2.2.2 x hx).form) hno⟩
  · have hc := fun {x : Tree} (hx : UniP false 1 x) => ct1_at (g := 17) (P := UniP false 1) (res := fun x => .ret (.t x) [] []) (ev := oneEv 18 (ct1 (AttP n) (rowRes (.loc [0]) 31 true 5)) noEv) hx
    have ha := ev_there (g := 17) (s := ct1 (UniP false 1) (fun x => .ret (.t x) [] [])) rfl (ct1_at (g := 18) (P := AttP n) (res := rowRes (.loc [0]) 31 true 5) (ev := noEv) hbs.p)
    refine ⟨nm, ps, rs, bs, 0, hbs, ?_⟩
    match bs with
    | [] => exact action_0 _ hev ts cs nm h.2.1 (fun x hx => (h.2.2.2 x hx).form) p ps rs hp hno (hc hps.p) (hc hrs.p) ha
    | b :: bs => exact action_1 _ hev ts cs nm h.2.1 (fun x hx => (h.2.2.2 x hx).form) p ps rs (b :: bs) hp hno (hc hps.p) (hc hrs.p) ha

/-- what stands behind the law's calls -/
def lawEv (X nm : Tree) (r1 r2 : FRes) : CallF :=
  oneEv 8 (ct2 (fun x y => x = X ∧ y = nm) fun _ _ => r1) (oneEv 9 (ct2 (fun x y => x = X ∧ y = nm) fun _ _ => r2) (oneEv 5 (ct0 (.ret (.t (.bool true)) [] [])) (oneEv 7 (ct1 (fun x => x = X) fun x => .ret (.t x) [] []) (oneEv 10 (ct2 (fun x y => x = X ∧ y = X) yes2) noEv))))
theorem lawEv_type (X nm : Tree) (r1 r2 : FRes) : lawEv X nm r1 r2 8 [.t X, .t nm] [] = some r1 := ct2_at (res := fun _ _ => r1) ⟨rfl, rfl⟩
theorem lawEv_action (X nm : Tree) (r1 r2 : FRes) : lawEv X nm r1 r2 9 [.t X, .t nm] [] = some r2 := ev_there rfl (ct2_at (res := fun _ _ => r2) ⟨rfl, rfl⟩)
theorem lawEv_lives (X nm : Tree) (r1 r2 : FRes) : lawEv X nm r1 r2 5 [] [] = some (.ret (.t (.bool true)) [] []) := ev_there rfl (ev_there rfl ct0_at)
theorem lawEv_copy (X nm : Tree) (r1 r2 : FRes) : lawEv X nm r1 r2 7 [.t X] [] = some (.ret (.t X) [] []) := ev_there rfl (ev_there rfl (ev_there rfl (ct1_at (res := fun x => .ret (.t x) [] []) rfl)))
theorem lawEv_same (X nm : Tree) (r1 r2 : FRes) : lawEv X nm r1 r2 10 [.t X, .t X] [] = some (.ret (.t (.bool true)) [] []) := ev_there rfl (ev_there rfl (ev_there rfl (ev_there rfl (ct2_at (res := yes2) ⟨rfl, rfl⟩))))
theorem lawEv_ok {m : Int} {n : Nat} {ts cs : List Tree} {nm : List UInt8} (h : ScN n ts cs) {r1 r2 : FRes} (h1 : CallRel (cf m) 8 [.t (.agg [.sl ts, .sl cs]), .t (.str nm)] [] r1) (h2 : CallRel (cf m) 9 [.t (.agg [.sl ts, .sl cs]), .t (.str nm)] [] r2) :
    CallOk (cf m) (lawEv (.agg [.sl ts, .sl cs]) (.str nm) r1 r2) :=
  oneEv_ok (ct2_ok fun x y hx => by obtain ⟨rfl, rfl⟩ := hx; exact h1) (oneEv_ok (ct2_ok fun x y hx => by obtain ⟨rfl, rfl⟩ := hx; exact h2) (oneEv_ok (ct0_ok (lives_at m))
    (oneEv_ok (ct1_ok fun x hx => by subst hx; exact copy_at m n ts cs h) (oneEv_ok (ct2_ok fun x y hx => by obtain ⟨rfl, rfl⟩ := hx; exact same_at m n ts cs h) noEv_ok))))

theorem law_at (m : Int) (n : Nat) (ts cs : List Tree) (nm : List UInt8) (h : ScN n ts cs) : CallRel (cf m) 4 [.t (.agg [.sl ts, .sl cs]), .t (.str nm)] [] (.ret (.t (.bool true)) [] []) := by
  obtain ⟨an, ps, bs, ae, hps, hbs, h1⟩ := type_at m n ts cs nm h
  obtain ⟨bn, p1, r1, ds, be, hds, h2⟩ := action_at m n ts cs nm h
  have hev := lawEv_ok h h1 h2
  have e1 := lawEv_type (.agg [.sl ts, .sl cs]) (.str nm) (typeRes an ps bs ae) (actRes bn p1 r1 ds be)
  have e2 := lawEv_action (.agg [.sl ts, .sl cs]) (.str nm) (typeRes an ps bs ae) (actRes bn p1 r1 ds be)
  have e3 := lawEv_lives (.agg [.sl ts, .sl cs]) (.str nm) (typeRes an ps bs ae) (actRes bn p1 r1 ds be)
  have e4 := lawEv_copy (.agg [.sl ts, .sl cs]) (.str nm) (typeRes an ps bs ae) (actRes bn p1 r1 ds be)
  have e5 := lawEv_same (.agg [.sl ts, .sl cs]) (.str nm) (typeRes an ps bs ae) (actRes bn p1 r1 ds be)
  have u1 := hps.uni; have l1 := hps.1; have u2 := hbs.uni; have l2 := hbs.1; have u3 := hds.uni; have l3 := hds.1
  match ps, bs, ds with
  | [], [], [] => exact law_000 _ hev ts cs p1 r1 nm an bn ae be e3 e4 e1 e2 e5
  | [], [], c :: ds => exact law_001 _ hev ts cs p1 r1 (c :: ds) nm an bn ae be u3 l3 e3 e4 e1 e2 e5
  | [], b :: bs, [] => exact law_010 _ hev ts cs p1 r1 (b :: bs) nm an bn ae be u2 l2 e3 e4 e1 e2 e5
  | [], b :: bs, c :: ds => exact law_011 _ hev ts cs p1 r1 (b :: bs) (c :: ds) nm an bn ae be u2 l2 u3 l3 e3 e4 e1 e2 e5
  | a :: ps, [], [] => exact law_100 _ hev ts cs p1 r1 (a :: ps) nm an bn ae be u1 l1 e3 e4 e1 e2 e5
  | a :: ps, [], c :: ds => exact law_101 _ hev ts cs p1 r1 (a :: ps) (c :: ds) nm an bn ae be u1 l1 u3 l3 e3 e4 e1 e2 e5
  | a :: ps, b :: bs, [] => exact law_110 _ hev ts cs p1 r1 (a :: ps) (b :: bs) nm an bn ae be u1 l1 u2 l2 e3 e4 e1 e2 e5
  | a :: ps, b :: bs, c :: ds => exact law_111 _ hev ts cs p1 r1 (a :: ps) (b :: bs) (c :: ds) nm an bn ae be u1 l1 u2 l2 u3 l3 e3 e4 e1 e2 e5
end
end Go.Proofs.YtbahblehihbpkaaGreatDoor.w
