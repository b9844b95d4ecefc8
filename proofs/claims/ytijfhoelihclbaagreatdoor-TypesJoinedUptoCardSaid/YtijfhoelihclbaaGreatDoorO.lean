/- Types as trees: what two are both (join), what fits one, plain. -/
import Derived.Test.YtijfhoelihclbaaGreatDoorA
import Derived.Test.YtijfhoelihclbaaGreatDoorK
noncomputable section
namespace Go.Abs.Ty
open Go Go.Abs
set_option linter.unusedVariables false

def mkTy (k : Int) (s : List UInt8) (os bs : List Tree) : Tree := .agg [.int .u8 k, .str s, .sl os, .sl bs]
def ty0 : Tree := mkTy 0 [] [] []
def tyK : Tree → Int
  | .agg [.int _ k, _, _, _] => k
  | _ => 0
def tyS : Tree → List UInt8
  | .agg [_, .str s, _, _] => s
  | _ => []
def tyO : Tree → List Tree
  | .agg [_, _, .sl os, _] => os
  | _ => []
def tyB : Tree → List Tree
  | .agg [_, _, _, .sl bs] => bs
  | _ => []
def atN : Tree → List UInt8
  | .agg (.str n :: _) => n
  | _ => []
def atT : Tree → Tree
  | .agg (_ :: r) => .agg r
  | x => x
def mkA (n : List UInt8) : Tree → Tree
  | .agg r => .agg (.str n :: r)
  | x => x
def ofT (x : Tree) : Tree := match tyO x with
  | [] => ty0
  | o :: _ => o

def joinAs (J : Tree → Tree → Tree × Int) : List Tree → List Tree → Option (List Tree)
  | x :: xs, y :: ys => if (J (atT x) (atT y)).2 = 0 ∧ atN x = atN y then (joinAs J xs ys).map (mkA (atN x) (J (atT x) (atT y)).1 :: ·) else none
  | _, _ => some []

def joinC (J : Tree → Tree → Tree × Int) (a b : Tree) : Tree × Int :=
  if tyK a ≠ tyK b ∨ tyK a ≥ 7 ∨ ((tyB a).length ≠ (tyB b).length ∧ tyK a = 6) then (ty0, 7)
  else if tyK a = 4 then (mkTy 4 (if tyS a = tyS b then tyS a else []) [] [], 0)
  else if tyK a = 5 then (if (J (ofT a) (ofT b)).2 = 0 then (mkTy 5 [] [(J (ofT a) (ofT b)).1] [], 0) else (ty0, (J (ofT a) (ofT b)).2))
  else if tyK a = 6 then (match joinAs J (tyB a) (tyB b) with
    | some l => (mkTy 6 [] [] l, 0)
    | none => (ty0, 7))
  else (mkTy (tyK a) [] [] [], 0)

def joinS (J : Tree → Tree → Tree × Int) (a b : Tree) : Tree × Int :=
  if tyK b = 0 then (if tyK a = 0 then (ty0, 0) else (a, 0)) else if tyK a = 0 then (b, 0) else joinC J a b

def joinN : Nat → Tree → Tree → Tree × Int
  | 0 => fun _ _ => (ty0, 0)
  | n + 1 => joinS (joinN n)

/-- a type's form, so deep; at the bottom the type of nothing alone -/
def Dp : Nat → Tree → Prop
  | 0, x => x = ty0
  | n + 1, x => ∃ k s os bs, x = mkTy k s os bs ∧ os.length ≤ 4194304 ∧ bs.length ≤ 4194304 ∧ (∀ o ∈ os, Dp n o) ∧ ∀ e ∈ bs, ∃ nm r, e = .agg (.str nm :: r) ∧ Dp n (.agg r)

theorem Dp.ty0 : ∀ n, Dp n ty0
  | 0 => rfl
  | n + 1 => ⟨0, [], [], [], rfl, by simp, by simp, by simp, by simp⟩
theorem Dp.up : ∀ n x, Dp n x → Dp (n + 1) x
  | 0, x, h => by subst h; exact Dp.ty0 1
  | n + 1, x, ⟨k, s, os, bs, e, l1, l2, h1, h2⟩ => ⟨k, s, os, bs, e, l1, l2, fun o ho => Dp.up n o (h1 o ho), fun e he => by
      obtain ⟨nm, r, e1, h3⟩ := h2 e he
      exact ⟨nm, r, e1, Dp.up n _ h3⟩⟩
theorem Dp.form {n : Nat} {x : Tree} (h : Dp n x) : ∃ k s os bs, x = mkTy k s os bs ∧ os.length ≤ 4194304 ∧ bs.length ≤ 4194304 := by
  cases n with
  | zero => exact ⟨0, [], [], [], h, by simp, by simp⟩
  | succ n => obtain ⟨k, s, os, bs, e, l1, l2, _⟩ := h; exact ⟨k, s, os, bs, e, l1, l2⟩

/-- a right type's form -/
def Gd : Nat → Tree → Prop
  | 0, x => x = ty0
  | n + 1, x => ∃ k s os bs, x = mkTy k s os bs ∧ k < 7 ∧ (k ≠ 4 → s = []) ∧ (k ≠ 6 → bs = []) ∧ (k = 5 → ∃ o, os = [o] ∧ Gd n o) ∧ (k ≠ 5 → os = []) ∧ ∀ e ∈ bs, ∃ nm r, e = .agg (.str nm :: r) ∧ Gd n (.agg r)

/-! ### The other way round -/
theorem joinAs_comm {J : Tree → Tree → Tree × Int} (h : ∀ a b, J a b = J b a) : ∀ {xs ys : List Tree}, xs.length = ys.length → joinAs J xs ys = joinAs J ys xs
  | [], [], _ => rfl
  | x :: xs, y :: ys, hl => by
    have ih := joinAs_comm h (xs := xs) (ys := ys) (by simpa using hl)
    simp only [joinAs]
    rw [h (atT y) (atT x), ih]
    by_cases hn : atN x = atN y
    · rw [hn]
    · rw [if_neg (fun q => hn q.2), if_neg (fun q => hn q.2.symm)]
  | [], _ :: _, hl => by simp at hl
  | _ :: _, [], hl => by simp at hl

theorem joinC_comm {J : Tree → Tree → Tree × Int} (h : ∀ a b, J a b = J b a) (a b : Tree) : joinC J a b = joinC J b a := by
  unfold joinC
  by_cases hk : tyK a = tyK b
  · by_cases hl : (tyB a).length = (tyB b).length
    · rw [h (ofT b) (ofT a), joinAs_comm h hl, hk, hl]
      by_cases hs : tyS a = tyS b
      · rw [hs]
      · have hs' : ¬ tyS b = tyS a := fun q => hs q.symm
        simp only [if_neg hs, if_neg hs']
    · by_cases h6 : tyK b = 6
      · rw [if_pos (.inr (.inr ⟨hl, hk.trans h6⟩)), if_pos (.inr (.inr ⟨fun q => hl q.symm, h6⟩))]
      · rw [h (ofT b) (ofT a), hk]
        have h1 : ¬ ((tyB a).length ≠ (tyB b).length ∧ tyK b = 6) := fun q => h6 q.2
        have h2 : ¬ ((tyB b).length ≠ (tyB a).length ∧ tyK b = 6) := fun q => h6 q.2
        by_cases hs : tyS a = tyS b
        · simp only [h6, hs, and_false, or_false, if_false]
        · have hs' : ¬ tyS b = tyS a := fun q => hs q.symm
          simp only [h6, and_false, or_false, if_false, if_neg hs, if_neg hs']
  · rw [if_pos (.inl hk), if_pos (.inl fun q => hk q.symm)]

theorem joinN_comm : ∀ n a b, joinN n a b = joinN n b a
  | 0, _, _ => rfl
  | n + 1, a, b => by
    show joinS (joinN n) a b = joinS (joinN n) b a
    unfold joinS
    by_cases h1 : tyK a = 0 <;> by_cases h2 : tyK b = 0
    · simp only [h1, h2, if_true]
    · simp only [h1, h2, if_true, if_false]
    · simp only [h1, h2, if_true, if_false]
    · rw [if_neg h2, if_neg h1, if_neg h1, if_neg h2]
      exact joinC_comm (joinN_comm n) a b

theorem joinC_err {J : Tree → Tree → Tree × Int} {a b : Tree} (h : (joinC J a b).2 ≠ 0) : (joinC J a b).1 = ty0 := by
  revert h
  unfold joinC
  split
  · intro _; rfl
  · split
    · intro h; exact absurd rfl h
    · split
      · split
        · intro h; exact absurd rfl h
        · intro _; rfl
      · split
        · split
          · intro h; exact absurd rfl h
          · intro _; rfl
        · intro h; exact absurd rfl h

theorem joinN_err : ∀ n a b, (joinN n a b).2 ≠ 0 → (joinN n a b).1 = ty0
  | 0, _, _, _ => rfl
  | n + 1, a, b, h => by
    revert h
    show (joinS (joinN n) a b).2 ≠ 0 → (joinS (joinN n) a b).1 = ty0
    unfold joinS
    split
    · split <;> intro h <;> exact absurd rfl h
    · split
      · intro h; exact absurd rfl h
      · exact joinC_err

/-! ### What fits -/
def vaK : Tree → Int
  | .agg (.int _ k :: _) => k
  | _ => 0
def vaT : Tree → List UInt8
  | .agg [_, _, _, _, .str t, _, _] => t
  | _ => []
def vaN : Tree → List Tree
  | .agg [_, _, _, _, _, .sl ns, _] => ns
  | _ => []
def vaL : Tree → List Tree
  | .agg [_, _, _, _, _, _, .sl l] => l
  | _ => []
def strOf : Tree → List UInt8
  | .str s => s
  | _ => []

/-- a record's attributes are there, what is there fits -/
def fitsAs (Fi : Tree → Tree → Bool) : List Tree → List Tree → List Tree → Bool
  | a :: as', n :: ns, l => (atN a == strOf n) && (match l with | x :: _ => Fi x (atT a) | [] => true) && fitsAs Fi as' ns l.tail
  | _, _, _ => true

def fitsS (Fi : Tree → Tree → Bool) (v t : Tree) : Bool :=
  if tyK t = 1 then decide (vaK v = 0)
  else if tyK t = 2 then decide (vaK v = 1)
  else if tyK t = 3 then decide (vaK v = 2)
  else if tyK t = 4 then decide (vaK v = 3) && (decide (tyS t = []) || decide (tyS t = vaT v))
  else if tyK t = 5 then decide (vaK v = 4) && (vaL v).all fun x => Fi x (ofT t)
  else if tyK t = 6 then decide (vaK v = 5) && decide ((vaN v).length = (tyB t).length) && fitsAs Fi (tyB t) (vaN v) (vaL v)
  else false

def fitsN : Nat → Tree → Tree → Bool
  | 0 => fun _ _ => false
  | n + 1 => fitsS (fitsN n)

/-! ### Joined once more -/
theorem joinS_mk (J : Tree → Tree → Tree × Int) (k : Int) (s : List UInt8) (os bs : List Tree) (k2 : Int) (s2 : List UInt8) (os2 bs2 : List Tree) : joinS J (mkTy k s os bs) (mkTy k2 s2 os2 bs2) =
    if k2 = 0 then (if k = 0 then (ty0, 0) else (mkTy k s os bs, 0)) else if k = 0 then (mkTy k2 s2 os2 bs2, 0) else joinC J (mkTy k s os bs) (mkTy k2 s2 os2 bs2) := rfl
theorem joinC_mk (J : Tree → Tree → Tree × Int) (k : Int) (s : List UInt8) (os bs : List Tree) (k2 : Int) (s2 : List UInt8) (os2 bs2 : List Tree) : joinC J (mkTy k s os bs) (mkTy k2 s2 os2 bs2) =
  if k ≠ k2 ∨ k ≥ 7 ∨ (bs.length ≠ bs2.length ∧ k = 6) then (ty0, 7)
  else if k = 4 then (mkTy 4 (if s = s2 then s else []) [] [], 0)
  else if k = 5 then (if (J (ofT (mkTy k s os bs)) (ofT (mkTy k2 s2 os2 bs2))).2 = 0 then (mkTy 5 [] [(J (ofT (mkTy k s os bs)) (ofT (mkTy k2 s2 os2 bs2))).1] [], 0) else (ty0, (J (ofT (mkTy k s os bs)) (ofT (mkTy k2 s2 os2 bs2))).2))
  else if k = 6 then (match joinAs J bs bs2 with
    | some l => (mkTy 6 [] [] l, 0)
    | none => (ty0, 7))
  else (mkTy k [] [] [], 0) := rfl
theorem fitsS_mk (Fi : Tree → Tree → Bool) (v : Tree) (k : Int) (s : List UInt8) (os bs : List Tree) : fitsS Fi v (mkTy k s os bs) =
  if k = 1 then decide (vaK v = 0)
  else if k = 2 then decide (vaK v = 1)
  else if k = 3 then decide (vaK v = 2)
  else if k = 4 then decide (vaK v = 3) && (decide (s = []) || decide (s = vaT v))
  else if k = 5 then decide (vaK v = 4) && (vaL v).all fun x => Fi x (ofT (mkTy k s os bs))
  else if k = 6 then decide (vaK v = 5) && decide ((vaN v).length = bs.length) && fitsAs Fi bs (vaN v) (vaL v)
  else false := rfl
theorem fitsS_4 (Fi : Tree → Tree → Bool) (v : Tree) (s : List UInt8) (os bs : List Tree) : fitsS Fi v (mkTy 4 s os bs) = (decide (vaK v = 3) && (decide (s = []) || decide (s = vaT v))) := rfl
theorem fitsS_5 (Fi : Tree → Tree → Bool) (v : Tree) (s : List UInt8) (os bs : List Tree) : fitsS Fi v (mkTy 5 s os bs) = (decide (vaK v = 4) && (vaL v).all fun x => Fi x (ofT (mkTy 5 s os bs))) := rfl
theorem fitsS_6 (Fi : Tree → Tree → Bool) (v : Tree) (s : List UInt8) (os bs : List Tree) : fitsS Fi v (mkTy 6 s os bs) = (decide (vaK v = 5) && decide ((vaN v).length = bs.length) && fitsAs Fi bs (vaN v) (vaL v)) := rfl
theorem tyK_mk (k s os bs) : tyK (mkTy k s os bs) = k := rfl
theorem tyS_mk (k s os bs) : tyS (mkTy k s os bs) = s := rfl
theorem tyO_mk (k s os bs) : tyO (mkTy k s os bs) = os := rfl
theorem tyB_mk (k s os bs) : tyB (mkTy k s os bs) = bs := rfl

def SelfAs (J : Tree → Tree → Tree × Int) (bs : List Tree) : Prop := ∀ e ∈ bs, ∃ nm r, e = .agg (.str nm :: r) ∧ J (.agg r) (.agg r) = (.agg r, 0)
theorem joinAs_self {J : Tree → Tree → Tree × Int} : ∀ {bs : List Tree}, SelfAs J bs → joinAs J bs bs = some bs
  | [], _ => rfl
  | x :: xs, h => by
    obtain ⟨nm, r, rfl, h1⟩ := h x List.mem_cons_self
    have ih := joinAs_self (bs := xs) fun e he => h e (List.mem_cons_of_mem _ he)
    have h2 : J (atT (.agg (.str nm :: r))) (atT (.agg (.str nm :: r))) = (.agg r, 0) := h1
    simp only [joinAs, h2, and_self, if_true, ih]
    rfl

theorem joinN_self : ∀ n a, Gd n a → joinN n a a = (a, 0)
  | 0, a, h => by rw [show a = ty0 from h]; rfl
  | n + 1, a, ⟨k, s, os, bs, e, hk, hs, hb, ho, ho', hbs⟩ => by
    subst e
    show joinS (joinN n) _ _ = _
    rw [joinS_mk]
    by_cases h0 : k = 0
    · rw [if_pos h0, if_pos h0]
      have := hs (by omega); have := hb (by omega); have := ho' (by omega)
      subst_vars; rfl
    · rw [if_neg h0, if_neg h0]
      rw [joinC_mk, if_neg (by omega)]
      by_cases h4 : k = 4
      · have := hb (by omega); have := ho' (by omega)
        subst_vars; simp
      · have hs := hs h4; subst hs
        rw [if_neg h4]
        by_cases h5 : k = 5
        · obtain ⟨o, rfl, h1⟩ := ho h5
          have hb := hb (by omega); subst hb; subst h5
          have hj : joinN n (ofT (mkTy 5 [] [o] [])) (ofT (mkTy 5 [] [o] [])) = (o, 0) := joinN_self n o h1
          simp only [hj, if_true]
        · have ho := ho' h5; subst ho
          rw [if_neg h5]
          by_cases h6 : k = 6
          · subst h6
            have : joinAs (joinN n) bs bs = some bs := joinAs_self fun e he => by
              obtain ⟨nm, r, e1, h1⟩ := hbs e he
              exact ⟨nm, r, e1, joinN_self n _ h1⟩
            simp only [this, if_true]
          · have hb := hb h6; subst hb
            rw [if_neg h6]

theorem Gd.ty0 : ∀ n, Gd n ty0
  | 0 => rfl
  | n + 1 => ⟨0, [], [], [], rfl, by omega, by simp, by simp, by simp, by simp, by simp⟩

theorem Gd.agg {n : Nat} {x : Tree} (h : Gd n x) : ∃ r, x = .agg r := by
  cases n with
  | zero => exact ⟨_, h⟩
  | succ n => obtain ⟨k, s, os, bs, e, _⟩ := h; exact ⟨_, e⟩

/-- with the first one once more -/
theorem joinAs_more {J : Tree → Tree → Tree × Int} {G : Tree → Prop} (hagg : ∀ x, G x → ∃ r, x = .agg r) (hJ : ∀ a b, G a → G b → (J a b).2 = 0 → G (J a b).1 ∧ J (J a b).1 a = ((J a b).1, 0)) : ∀ {xs ys cs : List Tree},
    (∀ e ∈ xs, ∃ nm r, e = .agg (.str nm :: r) ∧ G (.agg r)) → (∀ e ∈ ys, ∃ nm r, e = .agg (.str nm :: r) ∧ G (.agg r)) → xs.length = ys.length → joinAs J xs ys = some cs →
    cs.length = xs.length ∧ (∀ e ∈ cs, ∃ nm r, e = .agg (.str nm :: r) ∧ G (.agg r)) ∧ joinAs J cs xs = some cs
  | [], [], cs, _, _, _, h => by simp [joinAs] at h; subst h; exact ⟨rfl, by simp, rfl⟩
  | x :: xs, y :: ys, cs, hx, hy, hl, h => by
    simp only [joinAs] at h
    split at h
    · rename_i hc
      cases hr : joinAs J xs ys with
      | none => rw [hr] at h; simp at h
      | some ds =>
        rw [hr] at h
        simp only [Option.map_some, Option.some.injEq] at h
        subst h
        obtain ⟨nm, r, rfl, h1⟩ := hx x List.mem_cons_self
        obtain ⟨nm2, r2, rfl, h2⟩ := hy y List.mem_cons_self
        obtain ⟨g1, g2, g3⟩ := joinAs_more hagg hJ (fun e he => hx e (List.mem_cons_of_mem _ he)) (fun e he => hy e (List.mem_cons_of_mem _ he)) (by simpa using hl) hr
        have h3 : (J (.agg r) (.agg r2)).2 = 0 := hc.1
        obtain ⟨p1, p2⟩ := hJ _ _ h1 h2 h3
        obtain ⟨q, hq⟩ := hagg _ p1
        have e1 : mkA (atN (.agg (.str nm :: r))) (J (atT (.agg (.str nm :: r))) (atT (.agg (.str nm2 :: r2)))).1 = .agg (.str nm :: q) := by
          show mkA nm (J (.agg r) (.agg r2)).1 = _
          rw [hq]; rfl
        rw [e1]
        refine ⟨by simp [g1], fun e he => ?_, ?_⟩
        · rcases List.mem_cons.1 he with rfl | he
          · exact ⟨nm, q, rfl, hq ▸ p1⟩
          · exact g2 e he
        · simp only [joinAs]
          have e2 : J (atT (.agg (.str nm :: q))) (atT (.agg (.str nm :: r))) = (.agg q, 0) := by
            show J (.agg q) (.agg r) = _
            rw [← hq]; exact p2
          rw [e2, g3]
          simp [atN, mkA]
    · simp at h
  | [], _ :: _, _, _, _, hl, _ => by simp at hl
  | _ :: _, [], _, _, _, hl, _ => by simp at hl

theorem joinN_more : ∀ n a b, Gd n a → Gd n b → (joinN n a b).2 = 0 → Gd n (joinN n a b).1 ∧ joinN n (joinN n a b).1 a = ((joinN n a b).1, 0)
  | 0, a, b, _, _, _ => ⟨rfl, rfl⟩
  | n + 1, a, b, ha, hb, h => by
    have ha0 := ha; have hb0 := hb
    have hself := joinN_self (n + 1) a ha
    have hselfb := joinN_self (n + 1) b hb
    obtain ⟨k, s, os, bs, e, hk, hs, hbs, ho, ho', hat⟩ := ha
    obtain ⟨k2, s2, os2, bs2, e2, hk2, hs2, hbs2, ho2, ho2', hat2⟩ := hb
    subst e; subst e2
    have hj : joinN (n + 1) (mkTy k s os bs) (mkTy k2 s2 os2 bs2) = joinS (joinN n) (mkTy k s os bs) (mkTy k2 s2 os2 bs2) := rfl
    rw [hj, joinS_mk] at h ⊢
    by_cases z2 : k2 = 0
    · rw [if_pos z2] at h ⊢
      by_cases z1 : k = 0
      · rw [if_pos z1] at h ⊢
        refine ⟨Gd.ty0 _, ?_⟩
        subst z1
        show joinS (joinN n) ty0 (mkTy 0 s os bs) = (ty0, 0)
        rfl
      · rw [if_neg z1] at h ⊢
        exact ⟨ha0, hself⟩
    · rw [if_neg z2] at h ⊢
      by_cases z1 : k = 0
      · rw [if_pos z1] at h ⊢
        refine ⟨hb0, ?_⟩
        subst z1
        show joinS (joinN n) (mkTy k2 s2 os2 bs2) (mkTy 0 s os bs) = _
        rw [joinS_mk, if_pos rfl, if_neg z2]
      · rw [if_neg z1] at h ⊢
        rw [joinC_mk] at h ⊢
        by_cases hc : k ≠ k2 ∨ k ≥ 7 ∨ (bs.length ≠ bs2.length ∧ k = 6)
        · rw [if_pos hc] at h; exact absurd h (by simp)
        · rw [if_neg hc] at h ⊢
          have hkk : k = k2 := by omega
          subst hkk
          by_cases h4 : k = 4
          · rw [if_pos h4] at h ⊢
            have := hbs (by omega); have := ho' (by omega)
            subst_vars
            refine ⟨⟨4, _, [], [], rfl, by omega, by simp, by simp, by simp, by simp, by simp⟩, ?_⟩
            show joinS (joinN n) (mkTy 4 (if s = s2 then s else []) [] []) (mkTy 4 s [] []) = _
            rw [joinS_mk, joinC_mk]
            by_cases q : s = s2
            · simp [q]
            · simp only [if_neg q]
              by_cases q2 : s = []
              · subst q2; simp
              · have : ¬ [] = s := fun h => q2 h.symm
                simp [this]
          · rw [if_neg h4] at h ⊢
            have hs := hs h4; subst hs
            have hs2 := hs2 h4; subst hs2
            by_cases h5 : k = 5
            · subst h5
              simp only [if_true] at h ⊢
              obtain ⟨o, rfl, g1⟩ := ho rfl
              obtain ⟨o2, rfl, g2⟩ := ho2 rfl
              have hb := hbs (by omega); subst hb
              have hb := hbs2 (by omega); subst hb
              have eo : ofT (mkTy 5 [] [o] []) = o := rfl
              have eo2 : ofT (mkTy 5 [] [o2] []) = o2 := rfl
              rw [eo, eo2] at h ⊢
              by_cases hw : (joinN n o o2).2 = 0
              · rw [if_pos hw] at h ⊢
                obtain ⟨p1, p2⟩ := joinN_more n o o2 g1 g2 hw
                refine ⟨⟨5, [], _, [], rfl, by omega, by simp, by simp, fun _ => ⟨_, rfl, p1⟩, by simp, by simp⟩, ?_⟩
                show joinS (joinN n) (mkTy 5 [] [(joinN n o o2).1] []) (mkTy 5 [] [o] []) = _
                rw [joinS_mk, joinC_mk]
                have e3 : ofT (mkTy 5 [] [(joinN n o o2).1] []) = (joinN n o o2).1 := rfl
                simp [e3, eo, p2]
              · rw [if_neg hw] at h; exact absurd h hw
            · rw [if_neg h5] at h ⊢
              have hoo := ho' h5; subst hoo
              have hoo := ho2' h5; subst hoo
              by_cases h6 : k = 6
              · subst h6
                simp only [if_true] at h ⊢
                have hlen : bs.length = bs2.length := by omega
                cases hr : joinAs (joinN n) bs bs2 with
                | none => rw [hr] at h; exact absurd h (by simp)
                | some cs =>
                  rw [hr] at h
                  obtain ⟨g1, g2, g3⟩ := joinAs_more (J := joinN n) (G := Gd n) (fun x h => h.agg) (fun a b ga gb gw => joinN_more n a b ga gb gw) hat hat2 hlen hr
                  refine ⟨⟨6, [], [], cs, rfl, by omega, by simp, by simp, by simp, by simp, g2⟩, ?_⟩
                  show joinS (joinN n) (mkTy 6 [] [] cs) (mkTy 6 [] [] bs) = _
                  rw [joinS_mk, joinC_mk]
                  simp [g1, g3]
              · rw [if_neg h6] at h ⊢
                have hb := hbs h6; subst hb
                refine ⟨ha0, ?_⟩
                have : mkTy k [] [] [] = mkTy k [] [] [] := rfl
                exact hself

theorem fitsAs_join {J : Tree → Tree → Tree × Int} {Fi : Tree → Tree → Bool} {G : Tree → Prop} (hagg : ∀ x, G x → ∃ r, x = .agg r) (hG : ∀ a b, G a → G b → (J a b).2 = 0 → G (J a b).1)
    (hF : ∀ a b v, G a → G b → (J a b).2 = 0 → (Fi v a = true ∨ Fi v b = true) → Fi v (J a b).1 = true) : ∀ {xs ys cs ns l : List Tree},
    (∀ e ∈ xs, ∃ nm r, e = .agg (.str nm :: r) ∧ G (.agg r)) → (∀ e ∈ ys, ∃ nm r, e = .agg (.str nm :: r) ∧ G (.agg r)) → xs.length = ys.length → joinAs J xs ys = some cs →
    (fitsAs Fi xs ns l = true ∨ fitsAs Fi ys ns l = true) → fitsAs Fi cs ns l = true
  | [], [], cs, ns, l, _, _, _, h, _ => by simp [joinAs] at h; subst h; cases ns <;> rfl
  | x :: xs, y :: ys, cs, ns, l, hx, hy, hl, h, hf => by
    simp only [joinAs] at h
    split at h
    · rename_i hc
      cases hr : joinAs J xs ys with
      | none => rw [hr] at h; simp at h
      | some ds =>
        rw [hr] at h
        simp only [Option.map_some, Option.some.injEq] at h
        subst h
        cases ns with
        | nil => rfl
        | cons n ns =>
          obtain ⟨nm, r, rfl, h1⟩ := hx x List.mem_cons_self
          obtain ⟨nm2, r2, rfl, h2⟩ := hy y List.mem_cons_self
          have hnm : nm = nm2 := hc.2
          subst hnm
          have h3 : (J (.agg r) (.agg r2)).2 = 0 := hc.1
          have p1 := hG _ _ h1 h2 h3
          obtain ⟨q, hq⟩ := hagg _ p1
          have e1 : mkA (atN (.agg (.str nm :: r))) (J (atT (.agg (.str nm :: r))) (atT (.agg (.str nm :: r2)))).1 = .agg (.str nm :: q) := by
            show mkA nm (J (.agg r) (.agg r2)).1 = _
            rw [hq]; rfl
          rw [e1]
          simp only [fitsAs, atN, atT, Bool.and_eq_true] at hf ⊢
          have ih := fitsAs_join (ns := ns) (l := l.tail) hagg hG hF (fun e he => hx e (List.mem_cons_of_mem _ he)) (fun e he => hy e (List.mem_cons_of_mem _ he)) (by simpa using hl) hr
            (hf.elim (fun h => .inl h.2) (fun h => .inr h.2))
          refine ⟨⟨hf.elim (fun h => h.1.1) (fun h => h.1.1), ?_⟩, ih⟩
          cases l with
          | nil => rfl
          | cons v l =>
            have := hF _ _ v h1 h2 h3 (hf.elim (fun h => .inl h.1.2) (fun h => .inr h.1.2))
            rw [hq] at this
            exact this
    · simp at h
  | [], _ :: _, _, _, _, _, _, hl, _, _ => by simp at hl
  | _ :: _, [], _, _, _, _, _, hl, _, _ => by simp at hl

theorem joinN_good {n : Nat} {a b : Tree} (ha : Gd n a) (hb : Gd n b) (h : (joinN n a b).2 = 0) : Gd n (joinN n a b).1 := (joinN_more n a b ha hb h).1

theorem fits_join : ∀ n a b v, Gd n a → Gd n b → (joinN n a b).2 = 0 → (fitsN n v a = true ∨ fitsN n v b = true) → fitsN n v (joinN n a b).1 = true
  | 0, a, b, v, _, _, _, h => by rcases h with h | h <;> cases h
  | n + 1, a, b, v, ha, hb, h, hf => by
    obtain ⟨k, s, os, bs, e, hk, hs, hbs, ho, ho', hat⟩ := ha
    obtain ⟨k2, s2, os2, bs2, e2, hk2, hs2, hbs2, ho2, ho2', hat2⟩ := hb
    subst e; subst e2
    have hj : joinN (n + 1) (mkTy k s os bs) (mkTy k2 s2 os2 bs2) = joinS (joinN n) (mkTy k s os bs) (mkTy k2 s2 os2 bs2) := rfl
    have hfd : ∀ t, fitsN (n + 1) v t = fitsS (fitsN n) v t := fun _ => rfl
    rw [hj, joinS_mk] at h ⊢
    simp only [hfd] at hf ⊢
    have never : ∀ s os bs, fitsS (fitsN n) v (mkTy 0 s os bs) = false := fun _ _ _ => rfl
    by_cases z2 : k2 = 0
    · subst z2
      rw [if_pos rfl] at h ⊢
      rw [never] at hf
      by_cases z1 : k = 0
      · subst z1; rw [never] at hf; simp at hf
      · rw [if_neg z1] at h ⊢; simpa using hf
    · rw [if_neg z2] at h ⊢
      by_cases z1 : k = 0
      · subst z1; rw [if_pos rfl] at h ⊢; rw [never] at hf; simpa using hf
      · rw [if_neg z1] at h ⊢
        rw [joinC_mk] at h ⊢
        by_cases hc : k ≠ k2 ∨ k ≥ 7 ∨ (bs.length ≠ bs2.length ∧ k = 6)
        · rw [if_pos hc] at h; exact absurd h (by simp)
        · rw [if_neg hc] at h ⊢
          have hkk : k = k2 := by omega
          subst hkk
          by_cases h4 : k = 4
          · subst h4
            rw [if_pos rfl] at h ⊢
            simp only [fitsS_4] at hf ⊢
            by_cases q : s = s2
            · subst q; simpa using hf
            · simp [q] at hf ⊢
              exact hf.elim (fun h => h.1) (fun h => h.1)
          · rw [if_neg h4] at h ⊢
            have hs := hs h4; subst hs
            have hs2 := hs2 h4; subst hs2
            by_cases h5 : k = 5
            · subst h5
              simp only [if_true] at h ⊢
              obtain ⟨o, rfl, g1⟩ := ho rfl
              obtain ⟨o2, rfl, g2⟩ := ho2 rfl
              have eo : ∀ o bs, ofT (mkTy 5 [] [o] bs) = o := fun _ _ => rfl
              simp only [eo] at h ⊢
              by_cases hw : (joinN n o o2).2 = 0
              · rw [if_pos hw] at h ⊢
                simp only [fitsS_5, eo, Bool.and_eq_true, decide_eq_true_eq, List.all_eq_true] at hf ⊢
                refine ⟨hf.elim (fun h => h.1) (fun h => h.1), fun x hx => fits_join n o o2 x g1 g2 hw (hf.elim (fun h => .inl (h.2 x hx)) (fun h => .inr (h.2 x hx)))⟩
              · rw [if_neg hw] at h; exact absurd h hw
            · rw [if_neg h5] at h ⊢
              by_cases h6 : k = 6
              · subst h6
                simp only [if_true] at h ⊢
                have hlen : bs.length = bs2.length := by omega
                cases hr : joinAs (joinN n) bs bs2 with
                | none => rw [hr] at h; exact absurd h (by simp)
                | some cs =>
                  rw [hr] at h
                  obtain ⟨g1, g2, g3⟩ := joinAs_more (J := joinN n) (G := Gd n) (fun x h => h.agg) (fun a b ga gb gw => joinN_more n a b ga gb gw) hat hat2 hlen hr
                  show fitsS (fitsN n) v (mkTy 6 [] [] cs) = true
                  simp only [fitsS_6, Bool.and_eq_true, decide_eq_true_eq] at hf ⊢
                  refine ⟨⟨hf.elim (fun h => h.1.1) (fun h => h.1.1), hf.elim (fun h => by rw [h.1.2, g1]) (fun h => by rw [h.1.2, g1, hlen])⟩, ?_⟩
                  exact fitsAs_join (J := joinN n) (G := Gd n) (fun x h => h.agg) (fun a b ga gb gw => (joinN_more n a b ga gb gw).1) (fun a b v ga gb gw h => fits_join n a b v ga gb gw h) hat hat2 hlen hr (hf.elim (fun h => .inl h.2) (fun h => .inr h.2))
              · rw [if_neg h6] at h ⊢
                have e1 : ∀ t, tyK t = k → tyK t ≠ 4 → tyK t ≠ 5 → tyK t ≠ 6 → fitsS (fitsN n) v t = (if k = 1 then decide (vaK v = 0) else if k = 2 then decide (vaK v = 1) else if k = 3 then decide (vaK v = 2) else false) := fun t h1 h2 h3 h4 => by
                  unfold fitsS
                  rw [if_neg h2, if_neg h3, if_neg h4, h1]
                rw [e1 (mkTy k [] os bs) rfl h4 h5 h6, e1 (mkTy k [] os2 bs2) rfl h4 h5 h6] at hf
                rw [e1 (mkTy k [] [] []) rfl h4 h5 h6]
                exact hf.elim id id

theorem Dp.of {n : Nat} {x : Tree} (h : Dp (n + 1) x) : Dp n (ofT x) := by
  obtain ⟨k, s, os, bs, rfl, _, _, ho, _⟩ := h
  cases os with
  | nil => exact Dp.ty0 n
  | cons o os => exact ho o List.mem_cons_self
theorem joinAs_Dp {J : Tree → Tree → Tree × Int} {D : Tree → Prop} (hagg : ∀ x, D x → ∃ r, x = .agg r) (hJ : ∀ a b, D a → D b → D (J a b).1) : ∀ {xs ys cs : List Tree}, (∀ e ∈ xs, ∃ nm r, e = .agg (.str nm :: r) ∧ D (.agg r)) → (∀ e ∈ ys, ∃ nm r, e = .agg (.str nm :: r) ∧ D (.agg r)) → joinAs J xs ys = some cs →
    cs.length ≤ xs.length ∧ ∀ e ∈ cs, ∃ nm r, e = .agg (.str nm :: r) ∧ D (.agg r)
  | x :: xs, y :: ys, cs, hx, hy, h => by
    simp only [joinAs] at h
    split at h
    · cases hr : joinAs J xs ys with
      | none => rw [hr] at h; simp at h
      | some ds =>
        rw [hr] at h
        simp only [Option.map_some, Option.some.injEq] at h
        subst h
        obtain ⟨nm, r, rfl, h1⟩ := hx x List.mem_cons_self
        obtain ⟨nm2, r2, rfl, h2⟩ := hy y List.mem_cons_self
        obtain ⟨g1, g2⟩ := joinAs_Dp hagg hJ (fun e he => hx e (List.mem_cons_of_mem _ he)) (fun e he => hy e (List.mem_cons_of_mem _ he)) hr
        have p1 := hJ _ _ h1 h2
        obtain ⟨q, hq⟩ := hagg _ p1
        have e1 : mkA (atN (.agg (.str nm :: r))) (J (atT (.agg (.str nm :: r))) (atT (.agg (.str nm2 :: r2)))).1 = .agg (.str nm :: q) := by
          show mkA nm (J (.agg r) (.agg r2)).1 = _
          rw [hq]; rfl
        rw [e1]
        refine ⟨by simp; omega, fun e he => ?_⟩
        rcases List.mem_cons.1 he with rfl | he
        · exact ⟨nm, q, rfl, hq ▸ p1⟩
        · exact g2 e he
    · simp at h
  | [], _, cs, _, _, h => by simp [joinAs] at h; subst h; exact ⟨by simp, by simp⟩
  | _ :: _, [], cs, _, _, h => by simp [joinAs] at h; subst h; exact ⟨by simp, by simp⟩
theorem Dp.agg {n : Nat} {x : Tree} (h : Dp n x) : ∃ r, x = .agg r := by obtain ⟨k, s, os, bs, e, _⟩ := h.form; exact ⟨_, e⟩
theorem joinN_Dp : ∀ n a b, Dp n a → Dp n b → Dp n (joinN n a b).1
  | 0, _, _, _, _ => rfl
  | n + 1, a, b, ha, hb => by
    have oa := ha.of; have ob := hb.of
    have hj : joinN (n + 1) a b = joinS (joinN n) a b := rfl
    rw [hj]
    have plain : ∀ k s, Dp (n + 1) (mkTy k s [] []) := fun k s => ⟨k, s, [], [], rfl, by simp, by simp, by simp, by simp⟩
    unfold joinS
    split
    · split
      · exact Dp.ty0 _
      · exact ha
    · split
      · exact hb
      · unfold joinC
        split
        · exact Dp.ty0 _
        · split
          · exact plain _ _
          · split
            · split
              · exact ⟨5, [], _, [], rfl, by simp, by simp, fun o ho => by rw [List.mem_singleton.1 ho]; exact joinN_Dp n _ _ oa ob, by simp⟩
              · exact Dp.ty0 _
            · split
              · split
                · rename_i l hl
                  obtain ⟨k, s, os, bs, rfl, l1, l2, h1, h2⟩ := ha
                  obtain ⟨k2, s2, os2, bs2, rfl, l3, l4, h3, h4⟩ := hb
                  obtain ⟨g1, g2⟩ := joinAs_Dp (D := Dp n) (fun x h => h.agg) (fun a b => joinN_Dp n a b) h2 h4 hl
                  exact ⟨6, [], [], l, rfl, by simp, Nat.le_trans g1 l2, by simp, g2⟩
                · exact Dp.ty0 _
              · exact plain _ _
end Go.Abs.Ty
end

namespace Go.Proofs.YtijfhoelihclbaaGreatDoor.w
open Go Go.Abs
set_option linter.unusedVariables false
set_option maxRecDepth 100000
set_option maxHeartbeats 1000000
noncomputable section
abbrev ti5 : TI := { size := 1, bytes := 1, agg := false, zero := some (.t (.int .u8 0)), desc := .int .u8 }
theorem ty5 {m : Int} : (cf m).P.ty 5 = some ti5 := by kernel_rfl
abbrev ti127 : TI := { size := 256, bytes := 256, agg := true, zero := some (.t (.agg [.int .u8 0, .int .u8 0, .int .u8 0, .int .u8 0, .int .u8 0, .int .u8 0, .int .u8 0, .int .u8 0, .int .u8 0, .int .u8 0, .int .u8 0, .int .u8 0, .int .u8 0, .int .u8 0, .int .u8 0, .int .u8 0, .int .u8 0, .int .u8 0, .int .u8 0, .int .u8 0, .int .u8 0, .int .u8 0, .int .u8 0, .int .u8 0, .int .u8 0, .int .u8 0, .int .u8 0, .int .u8 0, .int .u8 0, .int .u8 0, .int .u8 0, .int .u8 0, .int .u8 0, .int .u8 0, .int .u8 0, .int .u8 0, .int .u8 0, .int .u8 0, .int .u8 0, .int .u8 0, .int .u8 0, .int .u8 0, .int .u8 0, .int .u8 0, .int .u8 0, .int .u8 0, .int .u8 0, .int .u8 0, .int .u8 0, .int .u8 0, .int .u8 0, .int .u8 0, .int .u8 0, .int .u8 0, .int .u8 0, .int .u8 0, .int .u8 0, .int .u8 0, .int .u8 0, .int .u8 0, .int .u8 0, .int .u8 0, .int .u8 0, .int .u8 0, .int .u8 0, .int .u8 0, .int .u8 0, .int .u8 0, .int .u8 0, .int .u8 0, .int .u8 0, .int .u8 0, .int .u8 0, .int .u8 0, .int .u8 0, .int .u8 0, .int .u8 0, .int .u8 0, .int .u8 0, .int .u8 0, .int .u8 0, .int .u8 0, .int .u8 0, .int .u8 0, .int .u8 0, .int .u8 0, .int .u8 0, .int .u8 0, .int .u8 0, .int .u8 0, .int .u8 0, .int .u8 0, .int .u8 0, .int .u8 0, .int .u8 0, .int .u8 0, .int .u8 0, .int .u8 0, .int .u8 0, .int .u8 0, .int .u8 0, .int .u8 0, .int .u8 0, .int .u8 0, .int .u8 0, .int .u8 0, .int .u8 0, .int .u8 0, .int .u8 0, .int .u8 0, .int .u8 0, .int .u8 0, .int .u8 0, .int .u8 0, .int .u8 0, .int .u8 0, .int .u8 0, .int .u8 0, .int .u8 0, .int .u8 0, .int .u8 0, .int .u8 0, .int .u8 0, .int .u8 0, .int .u8 0, .int .u8 0, .int .u8 0, .int .u8 0, .int .u8 0, .int .u8 0, .int .u8 0, .int .u8 0, .int .u8 0, .int .u8 0, .int .u8 0, .int .u8 0, .int .u8 0, .int .u8 0, .int .u8 0, .int .u8 0, .int .u8 0, .int .u8 0, .int .u8 0, .int .u8 0, .int .u8 0, .int .u8 0, .int .u8 0, .int .u8 0, .int .u8 0, .int .u8 0, .int .u8 0, .int .u8 0, .int .u8 0, .int .u8 0, .int .u8 0, .int .u8 0, .int .u8 0, .int .u8 0, .int .u8 0, .int .u8 0, .int .u8 0, .int .u8 0, .int .u8 0, .int .u8 0, .int .u8 0, .int .u8 0, .int .u8 0, .int .u8 0, .int .u8 0, .int .u8 0, .int .u8 0, .int .u8 0, .int .u8 0, .int .u8 0, .int .u8 0, .int .u8 0, .int .u8 0, .int .u8 0, .int .u8 0, .int .u8 0, .int .u8 0, .int .u8 0, .int .u8 0, .int .u8 0, .int .u8 0, .int .u8 0, .int .u8 0, .int .u8 0, .int .u8 0, .int .u8 0, .int .u8 0, .int .u8 0, .int .u8 0, .int .u8 0, .int .u8 0, .int .u8 0, .int .u8 0, .int .u8 0, .int .u8 0, .int .u8 0, .int .u8 0, .int .u8 0, .int .u8 0, .int .u8 0, .int .u8 0, .int .u8 0, .int .u8 0, .int .u8 0, .int .u8 0, .int .u8 0, .int .u8 0, .int .u8 0, .int .u8 0, .int .u8 0, .int .u8 0, .int .u8 0, .int .u8 0, .int .u8 0, .int .u8 0, .int .u8 0, .int .u8 0, .int .u8 0, .int .u8 0, .int .u8 0, .int .u8 0, .int .u8 0, .int .u8 0, .int .u8 0, .int .u8 0, .int .u8 0, .int .u8 0, .int .u8 0, .int .u8 0, .int .u8 0, .int .u8 0, .int .u8 0, .int .u8 0, .int .u8 0, .int .u8 0, .int .u8 0, .int .u8 0, .int .u8 0, .int .u8 0, .int .u8 0, .int .u8 0, .int .u8 0, .int .u8 0, .int .u8 0, .int .u8 0, .int .u8 0, .int .u8 0, .int .u8 0, .int .u8 0, .int .u8 0, .int .u8 0, .int .u8 0])), desc := descOf 127 }
theorem ty127 {m : Int} : (cf m).P.ty 127 = some ti127 := by kernel_rfl
abbrev ti129 : TI := { size := 2, bytes := 2, agg := true, zero := some (.t (.agg [.int .u8 0, .int .u8 0])), desc := descOf 129 }
theorem ty129 {m : Int} : (cf m).P.ty 129 = some ti129 := by kernel_rfl
abbrev ti130 : TI := { size := 32, bytes := 32, agg := true, zero := some (.t (.agg [.int .u8 0, .int .u8 0, .int .u8 0, .int .u8 0, .int .u8 0, .int .u8 0, .int .u8 0, .int .u8 0, .int .u8 0, .int .u8 0, .int .u8 0, .int .u8 0, .int .u8 0, .int .u8 0, .int .u8 0, .int .u8 0, .int .u8 0, .int .u8 0, .int .u8 0, .int .u8 0, .int .u8 0, .int .u8 0, .int .u8 0, .int .u8 0, .int .u8 0, .int .u8 0, .int .u8 0, .int .u8 0, .int .u8 0, .int .u8 0, .int .u8 0, .int .u8 0])), desc := descOf 130 }
theorem ty130 {m : Int} : (cf m).P.ty 130 = some ti130 := by kernel_rfl
theorem fo129_0 {m : Int} : fieldOff (cf m).P 129 0 = some 0 := by kernel_rfl
theorem fo129_1 {m : Int} : fieldOff (cf m).P 129 1 = some 1 := by kernel_rfl

theorem pos_cons {s : List UInt8} (h : (s.length : Int) > 0) : ∃ b s', s = b :: s' := by
  cases s with
  | nil => simp at h
  | cons b s' => exact ⟨b, s', rfl⟩
theorem first_all : ((List.range 256).all fun i => match live.tabFirst[i]? with | some (.int .u8 x) => [240, 241, 2, 19, 3, 35, 52, 4, 68].contains x | _ => false) = true := by kernel_rfl
theorem first_at (b : UInt8) : ∃ x : Int, live.tabFirst[0 + b.toNat * 1]? = some (.int .u8 x) ∧ x ∈ ([240, 241, 2, 19, 3, 35, 52, 4, 68] : List Int) := by
  have h := List.all_eq_true.1 first_all b.toNat (by simpa using b.toNat_lt)
  rw [Nat.zero_add, Nat.mul_one]
  split at h
  · rename_i x hx
    exact ⟨x, hx, by simpa using h⟩
  · cases h

theorem valid_at {m : Int} (ev : CallF) (hev : CallOk (cf m) ev) (wz : List UInt8 → Int) (hw : ∀ s, 8 ≤ s.length → ev 73 [.t (.str s)] [] = some (.ret (.t (.int .u64 (wz s))) [] [])) (s0 : List UInt8) :
    ∃ r : Bool, CallRel (cf m) 29 [.t (.str s0)] [] (.ret (.t (.bool r)) [] []) := by
  refine AX.start 169 1 Tryz.func29 rfl (by decide) rfl rfl (by decide) ?_
  refine AX.seq ?_
  refine AX.region ?_
  refine AXo.go (f := 0) hev (d_assign rfl) ?_
  refine AXo.nil ?_
  refine AX.seq ?_
  refine AX.block ?_
  refine AX.loop (α := List UInt8) (fun s => ⟨frm 169 [(0, .t (.str s))], [], 0⟩) (fun s => True) (fun s => s.length) s0 (Re.sq [] ⟨rfl, trivial⟩ trivial (by decide) rfl rfl (by decide)) trivial (fun s hok => ?_)
  refine AX.seq ?_
  refine AX.seq ?_
  refine AX.region ?_
  refine AXo.go (f := 0) hev (d_move rfl) ?_
  refine AXo.go (f := 0) hev (d_lenS rfl ty9 rfl) ?_
  refine AXo.go (f := 0) hev (d_gtI rfl rfl) ?_
  refine AXo.nil ?_
  refine AX.cond rfl (fun h9 => ?_) (fun h9 => ?_)
  · obtain ⟨b, s', rfl⟩ := pos_cons (of_decide_eq_true h9)
    refine AX.skip ?_
    refine AX.block ?_
    refine AX.seq ?_
    refine AX.region ?_
    refine AXo.go (f := 0) hev (d_move rfl) ?_
    refine AXo.go (f := 0) hev (d_byte rfl rfl ty9 rfl rfl) ?_
    refine AXo.go (f := 0) hev (d_assign rfl) ?_
    refine AXo.nil ?_
    refine AX.seq ?_
    refine AX.seq ?_
    refine AX.region ?_
    refine AXo.go (f := 0) hev (d_move rfl) ?_
    refine AXo.go (f := 0) hev (d_ltI rfl rfl) ?_
    refine AXo.nil ?_
    refine AX.cond rfl (fun h13 => ?_) (fun h13 => ?_)
    · skip
      refine AX.seq ?_
      refine AX.region ?_
      refine AXo.go (f := 0) hev (d_move rfl) ?_
      refine AXo.go (f := 0) hev ((show Does _ _ _ _ _ _ _ _ _ (.t (.str s')) _ from d_subS (s := (b :: s')) (m := 1) rfl rfl ty9 rfl (by simp))) ?_
      refine AXo.go (f := 0) hev (d_assign rfl) ?_
      refine AXo.nil ?_
      refine AX.seq ?_
      refine AX.seq ?_
      refine AX.region ?_
      refine AXo.go (f := 0) hev (d_move rfl) ?_
      refine AXo.go (f := 0) hev (d_lenS rfl ty9 rfl) ?_
      refine AXo.go (f := 0) hev (d_gtI rfl rfl) ?_
      refine AXo.go (f := 0) hev (d_move rfl) ?_
      refine AXo.split 19 rfl (fun hg19 => ?_) (fun hg19 => ?_)
      · have hlen8 : 8 < s'.length := by have := of_decide_eq_true hg19; omega
        refine AXo.yes (f := 0) hev rfl rfl rfl (beqTT hg19) (d_move rfl) ?_
        refine AXo.yes (f := 0) hev rfl rfl rfl (beqTT hg19) (d_callT (rh1 rfl) (hw _ (by first | omega | (simp only [List.length_drop]; omega)))) ?_
        refine AXo.yes (f := 0) hev rfl rfl rfl (beqTT hg19) (d_bin rfl rfl rfl) ?_
        refine AXo.yes (f := 0) hev rfl rfl rfl (beqTT hg19) (d_eqI rfl rfl) ?_
        refine AXo.go (f := 0) hev (d_pickT rfl hg19 rfl rfl) ?_
        refine AXo.nil ?_
        refine AX.cond rfl (fun h24 => ?_) (fun h24 => ?_)
        · skip
          refine AX.seq ?_
          refine AX.region ?_
          refine AXo.go (f := 0) hev (d_move rfl) ?_
          refine AXo.go (f := 0) hev ((show Does _ _ _ _ _ _ _ _ _ (.t (.str (s'.drop 8))) _ from d_subS (s := s') (m := 8) rfl rfl ty9 rfl (by first | omega | (simp only [List.length_drop]; omega)))) ?_
          refine AXo.go (f := 0) hev (d_assign rfl) ?_
          refine AXo.nil ?_
          refine AX.seq ?_
          refine AX.draw (f := 0) orders hev ?_
          refine AXd.go rfl (d_move rfl) ?_
          refine AXd.go rfl (d_lenS rfl ty9 rfl) ?_
          refine AXd.go rfl (d_gtI rfl rfl) ?_
          refine AXd.go rfl (d_move rfl) ?_
          refine AXd.split 30 rfl (fun hg30 => ?_) (fun hg30 => ?_)
          · have hlen16 : 16 + 8 < s'.length := by have := of_decide_eq_true hg30; simp only [List.length_drop] at this; omega
            refine AXd.yes rfl rfl rfl (beqTT hg30) rfl (d_move rfl) ?_
            refine AXd.yes rfl rfl rfl (beqTT hg30) rfl (d_callT (rh1 rfl) (hw _ (by first | omega | (simp only [List.length_drop]; omega)))) ?_
            refine AXd.yes rfl rfl rfl (beqTT hg30) rfl (d_move rfl) ?_
            refine AXd.yes rfl rfl rfl (beqTT hg30) rfl (d_subS (m := 8) rfl rfl ty9 rfl (by first | omega | (simp only [List.length_drop]; omega))) ?_
            refine AXd.yes rfl rfl rfl (beqTT hg30) rfl (d_callT (rh1 rfl) (hw _ (by first | omega | (simp only [List.length_drop]; omega)))) ?_
            refine AXd.yes rfl rfl rfl (beqTT hg30) rfl (d_bin rfl rfl rfl) ?_
            refine AXd.yes rfl rfl rfl (beqTT hg30) rfl (d_bin rfl rfl rfl) ?_
            refine AXd.yes rfl rfl rfl (beqTT hg30) rfl (d_eqI rfl rfl) ?_
            refine AXd.go rfl (d_pickT rfl hg30 rfl rfl) ?_
            refine AXd.nil (ex_and2 rfl rfl ?_)
            refine AX.cond rfl (fun h39 => ?_) (fun h39 => ?_)
            · skip
              refine AX.seq ?_
              refine AX.region ?_
              refine AXo.go (f := 0) hev (d_move rfl) ?_
              refine AXo.go (f := 0) hev ((show Does _ _ _ _ _ _ _ _ _ (.t (.str ((s'.drop 8).drop 16))) _ from d_subS (s := (s'.drop 8)) (m := 16) rfl rfl ty9 rfl (by first | omega | (simp only [List.length_drop]; omega)))) ?_
              refine AXo.go (f := 0) hev (d_assign rfl) ?_
              refine AXo.nil ?_
              refine AX.block ?_
              refine AX.loop (α := List UInt8) (fun u => ⟨frm 169 [(0, .t (.str u))], [], 0⟩) (fun u => u.length ≤ s'.length) (fun u => u.length) ((s'.drop 8).drop 16) (Re.sq [] ⟨rfl, trivial⟩ trivial (by decide) rfl rfl (by decide)) (by show List.length _ ≤ _; simp only [List.length_drop]; omega) (fun u hok => ?_)
              refine AX.seq ?_
              refine AX.seq ?_
              refine AX.draw (f := 0) orders hev ?_
              refine AXd.go rfl (d_move rfl) ?_
              refine AXd.go rfl (d_lenS rfl ty9 rfl) ?_
              refine AXd.go rfl (d_gtI rfl rfl) ?_
              refine AXd.go rfl (d_move rfl) ?_
              refine AXd.split 45 rfl (fun hg45 => ?_) (fun hg45 => ?_)
              · have hlen32 : 32 < u.length := by have := of_decide_eq_true hg45; omega
                refine AXd.yes rfl rfl rfl (beqTT hg45) rfl (d_move rfl) ?_
                refine AXd.yes rfl rfl rfl (beqTT hg45) rfl (d_callT (rh1 rfl) (hw _ (by first | omega | (simp only [List.length_drop]; omega)))) ?_
                refine AXd.yes rfl rfl rfl (beqTT hg45) rfl (d_move rfl) ?_
                refine AXd.yes rfl rfl rfl (beqTT hg45) rfl (d_subS (m := 8) rfl rfl ty9 rfl (by first | omega | (simp only [List.length_drop]; omega))) ?_
                refine AXd.yes rfl rfl rfl (beqTT hg45) rfl (d_callT (rh1 rfl) (hw _ (by first | omega | (simp only [List.length_drop]; omega)))) ?_
                refine AXd.yes rfl rfl rfl (beqTT hg45) rfl (d_bin rfl rfl rfl) ?_
                refine AXd.yes rfl rfl rfl (beqTT hg45) rfl (d_move rfl) ?_
                refine AXd.yes rfl rfl rfl (beqTT hg45) rfl (d_subS (m := 16) rfl rfl ty9 rfl (by first | omega | (simp only [List.length_drop]; omega))) ?_
                refine AXd.yes rfl rfl rfl (beqTT hg45) rfl (d_callT (rh1 rfl) (hw _ (by first | omega | (simp only [List.length_drop]; omega)))) ?_
                refine AXd.yes rfl rfl rfl (beqTT hg45) rfl (d_move rfl) ?_
                refine AXd.yes rfl rfl rfl (beqTT hg45) rfl (d_subS (m := 24) rfl rfl ty9 rfl (by first | omega | (simp only [List.length_drop]; omega))) ?_
                refine AXd.yes rfl rfl rfl (beqTT hg45) rfl (d_callT (rh1 rfl) (hw _ (by first | omega | (simp only [List.length_drop]; omega)))) ?_
                refine AXd.yes rfl rfl rfl (beqTT hg45) rfl (d_bin rfl rfl rfl) ?_
                refine AXd.yes rfl rfl rfl (beqTT hg45) rfl (d_bin rfl rfl rfl) ?_
                refine AXd.yes rfl rfl rfl (beqTT hg45) rfl (d_bin rfl rfl rfl) ?_
                refine AXd.yes rfl rfl rfl (beqTT hg45) rfl (d_eqI rfl rfl) ?_
                refine AXd.go rfl (d_pickT rfl hg45 rfl rfl) ?_
                refine AXd.nil (ex_and2 rfl rfl ?_)
                refine AX.cond rfl (fun h62 => ?_) (fun h62 => ?_)
                · skip
                  refine AX.skip ?_
                  refine AX.block ?_
                  refine AX.region ?_
                  refine AXo.go (f := 0) hev (d_move rfl) ?_
                  refine AXo.go (f := 0) hev ((show Does _ _ _ _ _ _ _ _ _ (.t (.str (u.drop 32))) _ from d_subS (s := u) (m := 32) rfl rfl ty9 rfl (by omega))) ?_
                  refine AXo.go (f := 0) hev (d_assign rfl) ?_
                  refine AXo.nil ?_
                  refine AX.outNormal ?_
                  exact ⟨.inl ⟨u.drop 32, by show (u.drop 32).length ≤ _ ∧ (u.drop 32).length < _; rw [List.length_drop]; omega⟩, rfl, (Re.sq [] ⟨rfl, trivial⟩ trivial (by decide) rfl rfl (by decide))⟩
                · skip
                  refine AX.exit ?_
                  refine AX.thenExit ?_
                  refine AX.leave (e := .exit 2) (by simp) ?_
                  refine AX.outHere ?_
                  refine AX.exit ?_
                  refine AX.thenExit ?_
                  refine AX.outHere ?_
                  exact ⟨.inl ⟨u, trivial, by show (u).length < _; first | (simp; done) | (simp only [List.length_drop, List.length_cons]; omega) | (simp only [List.length_drop, List.length_cons] at *; omega)⟩, rfl, (Re.sq [] ⟨rfl, trivial⟩ trivial (by decide) rfl rfl (by decide))⟩
              · skip
                refine AXd.no rfl rfl rfl (beqFT hg45) ?_
                refine AXd.no rfl rfl rfl (beqFT hg45) ?_
                refine AXd.no rfl rfl rfl (beqFT hg45) ?_
                refine AXd.no rfl rfl rfl (beqFT hg45) ?_
                refine AXd.no rfl rfl rfl (beqFT hg45) ?_
                refine AXd.no rfl rfl rfl (beqFT hg45) ?_
                refine AXd.no rfl rfl rfl (beqFT hg45) ?_
                refine AXd.no rfl rfl rfl (beqFT hg45) ?_
                refine AXd.no rfl rfl rfl (beqFT hg45) ?_
                refine AXd.no rfl rfl rfl (beqFT hg45) ?_
                refine AXd.no rfl rfl rfl (beqFT hg45) ?_
                refine AXd.no rfl rfl rfl (beqFT hg45) ?_
                refine AXd.no rfl rfl rfl (beqFT hg45) ?_
                refine AXd.no rfl rfl rfl (beqFT hg45) ?_
                refine AXd.no rfl rfl rfl (beqFT hg45) ?_
                refine AXd.no rfl rfl rfl (beqFT hg45) ?_
                refine AXd.go rfl (d_pickF rfl hg45 rfl rfl) ?_
                refine AXd.nil (ex_and2 rfl rfl ?_)
                refine AX.condF rfl rfl ?_
                refine AX.exit ?_
                refine AX.thenExit ?_
                refine AX.leave (e := .exit 2) (by simp) ?_
                refine AX.outHere ?_
                refine AX.exit ?_
                refine AX.thenExit ?_
                refine AX.outHere ?_
                exact ⟨.inl ⟨u, trivial, by show (u).length < _; first | (simp; done) | (simp only [List.length_drop, List.length_cons]; omega) | (simp only [List.length_drop, List.length_cons] at *; omega)⟩, rfl, (Re.sq [] ⟨rfl, trivial⟩ trivial (by decide) rfl rfl (by decide))⟩
            · skip
              refine AX.skip ?_
              refine AX.exit ?_
              refine AX.thenExit ?_
              refine AX.outHere ?_
              exact ⟨.inl ⟨(s'.drop 8), trivial, by show ((s'.drop 8)).length < _; first | (simp; done) | (simp only [List.length_drop, List.length_cons]; omega) | (simp only [List.length_drop, List.length_cons] at *; omega)⟩, rfl, (Re.sq [] ⟨rfl, trivial⟩ trivial (by decide) rfl rfl (by decide))⟩
          · skip
            refine AXd.no rfl rfl rfl (beqFT hg30) ?_
            refine AXd.no rfl rfl rfl (beqFT hg30) ?_
            refine AXd.no rfl rfl rfl (beqFT hg30) ?_
            refine AXd.no rfl rfl rfl (beqFT hg30) ?_
            refine AXd.no rfl rfl rfl (beqFT hg30) ?_
            refine AXd.no rfl rfl rfl (beqFT hg30) ?_
            refine AXd.no rfl rfl rfl (beqFT hg30) ?_
            refine AXd.no rfl rfl rfl (beqFT hg30) ?_
            refine AXd.go rfl (d_pickF rfl hg30 rfl rfl) ?_
            refine AXd.nil (ex_and2 rfl rfl ?_)
            refine AX.condF rfl rfl ?_
            refine AX.skip ?_
            refine AX.exit ?_
            refine AX.thenExit ?_
            refine AX.outHere ?_
            exact ⟨.inl ⟨(s'.drop 8), trivial, by show ((s'.drop 8)).length < _; first | (simp; done) | (simp only [List.length_drop, List.length_cons]; omega) | (simp only [List.length_drop, List.length_cons] at *; omega)⟩, rfl, (Re.sq [] ⟨rfl, trivial⟩ trivial (by decide) rfl rfl (by decide))⟩
        · skip
          refine AX.skip ?_
          refine AX.exit ?_
          refine AX.thenExit ?_
          refine AX.outHere ?_
          exact ⟨.inl ⟨s', trivial, by show (s').length < _; first | (simp; done) | (simp only [List.length_drop, List.length_cons]; omega) | (simp only [List.length_drop, List.length_cons] at *; omega)⟩, rfl, (Re.sq [] ⟨rfl, trivial⟩ trivial (by decide) rfl rfl (by decide))⟩
      · skip
        refine AXo.no rfl rfl rfl (beqFT hg19) ?_
        refine AXo.no rfl rfl rfl (beqFT hg19) ?_
        refine AXo.no rfl rfl rfl (beqFT hg19) ?_
        refine AXo.no rfl rfl rfl (beqFT hg19) ?_
        refine AXo.go (f := 0) hev (d_pickF rfl hg19 rfl rfl) ?_
        refine AXo.nil ?_
        refine AX.condF rfl rfl ?_
        refine AX.skip ?_
        refine AX.exit ?_
        refine AX.thenExit ?_
        refine AX.outHere ?_
        exact ⟨.inl ⟨s', trivial, by show (s').length < _; first | (simp; done) | (simp only [List.length_drop, List.length_cons]; omega) | (simp only [List.length_drop, List.length_cons] at *; omega)⟩, rfl, (Re.sq [] ⟨rfl, trivial⟩ trivial (by decide) rfl rfl (by decide))⟩
    · skip
      refine AX.skip ?_
      refine AX.seq ?_
      obtain ⟨x, hx, hm⟩ := first_at b
      refine AX.region ?_
      refine AXo.go (f := 0) hev (d_move rfl) ?_
      refine AXo.go (f := 0) hev (d_indexTab rfl rfl ty127 rfl ty5 b.toNat_lt) ?_
      refine AXo.go (f := 0) hev (d_loadT rfl (ld ty5 rfl (part_tab hx))) ?_
      refine AXo.go (f := 0) hev (d_assign rfl) ?_
      refine AXo.nil ?_
      refine AX.seq ?_
      simp only [List.mem_cons, List.not_mem_nil, or_false] at hm
      rcases hm with rfl | rfl | rfl | rfl | rfl | rfl | rfl | rfl | rfl
      · -- 240
        refine AX.region ?_
        refine AXo.go (f := 0) hev (d_move rfl) ?_
        refine AXo.go (f := 0) hev (show Does _ _ _ _ _ _ _ _ _ (.t (.int .u8 0)) _ from d_bin rfl rfl (by kernel_rfl)) ?_
        refine AXo.go (f := 0) hev (show Does _ _ _ _ _ _ _ _ _ (.t (.int .i64 0)) _ from d_conv rfl (fun _ _ _ => by kernel_rfl)) ?_
        refine AXo.go (f := 0) hev (d_assign rfl) ?_
        refine AXo.nil ?_
        refine AX.seq ?_
        refine AX.region ?_
        refine AXo.go (f := 0) hev (d_move rfl) ?_
        refine AXo.go (f := 0) hev (show Does _ _ _ _ _ _ _ _ _ (.t (.int .u8 15)) _ from d_bin rfl rfl (by kernel_rfl)) ?_
        refine AXo.go (f := 0) hev (d_indexTab (m := 15) rfl rfl ty130 rfl ty129 (by decide)) ?_
        refine AXo.go (f := 0) hev (show Does _ _ _ _ _ _ _ _ _ (.t (.agg [.int .u8 0, .int .u8 0])) _ from d_loadT rfl (by kernel_rfl)) ?_
        refine AXo.go (f := 0) hev (d_alloc ty129 rfl rfl) ?_
        refine AXo.go0 (f := 0) hev (d_store rfl rfl (stt ty129 rfl rfl)) ?_
        refine AXo.nil ?_
        refine AX.seq ?_
        refine AX.region ?_
        refine AXo.go (f := 0) hev (d_move rfl) ?_
        refine AXo.nil ?_
        refine AX.block ?_
        refine AX.seq ?_
        refine AX.region ?_
        refine AXo.go (f := 0) hev (d_eqI rfl rfl) ?_
        refine AXo.go (f := 0) hev (d_assign rfl) ?_
        refine AXo.nil ?_
        refine AX.condF rfl (by decide) ?_
        refine AX.seq ?_
        refine AX.region ?_
        refine AXo.go (f := 0) hev (d_eqI rfl rfl) ?_
        refine AXo.go (f := 0) hev (d_assign rfl) ?_
        refine AXo.nil ?_
        refine AX.condF rfl (by decide) ?_
        refine AX.seq ?_
        refine AX.region ?_
        refine AXo.go (f := 0) hev (d_eqI rfl rfl) ?_
        refine AXo.go (f := 0) hev (d_assign rfl) ?_
        refine AXo.nil ?_
        refine AX.condF rfl (by decide) ?_
        refine AX.seq ?_
        refine AX.region ?_
        refine AXo.go (f := 0) hev (d_assign rfl) ?_
        refine AXo.nil ?_
        refine AX.ret ?_
        refine AX.outRet ?_
        refine AX.outRet ?_
        refine AX.leave (e := .ret) (by simp) ?_
        refine AX.outRet ?_
        refine AX.thenRet ?_
        exact ⟨false, .inl rfl⟩
      · -- 241
        refine AX.region ?_
        refine AXo.go (f := 0) hev (d_move rfl) ?_
        refine AXo.go (f := 0) hev (show Does _ _ _ _ _ _ _ _ _ (.t (.int .u8 1)) _ from d_bin rfl rfl (by kernel_rfl)) ?_
        refine AXo.go (f := 0) hev (show Does _ _ _ _ _ _ _ _ _ (.t (.int .i64 1)) _ from d_conv rfl (fun _ _ _ => by kernel_rfl)) ?_
        refine AXo.go (f := 0) hev (d_assign rfl) ?_
        refine AXo.nil ?_
        refine AX.seq ?_
        refine AX.region ?_
        refine AXo.go (f := 0) hev (d_move rfl) ?_
        refine AXo.go (f := 0) hev (show Does _ _ _ _ _ _ _ _ _ (.t (.int .u8 15)) _ from d_bin rfl rfl (by kernel_rfl)) ?_
        refine AXo.go (f := 0) hev (d_indexTab (m := 15) rfl rfl ty130 rfl ty129 (by decide)) ?_
        refine AXo.go (f := 0) hev (show Does _ _ _ _ _ _ _ _ _ (.t (.agg [.int .u8 0, .int .u8 0])) _ from d_loadT rfl (by kernel_rfl)) ?_
        refine AXo.go (f := 0) hev (d_alloc ty129 rfl rfl) ?_
        refine AXo.go0 (f := 0) hev (d_store rfl rfl (stt ty129 rfl rfl)) ?_
        refine AXo.nil ?_
        refine AX.seq ?_
        refine AX.region ?_
        refine AXo.go (f := 0) hev (d_move rfl) ?_
        refine AXo.nil ?_
        refine AX.block ?_
        refine AX.seq ?_
        refine AX.region ?_
        refine AXo.go (f := 0) hev (d_eqI rfl rfl) ?_
        refine AXo.go (f := 0) hev (d_assign rfl) ?_
        refine AXo.nil ?_
        refine AX.condF rfl (by decide) ?_
        refine AX.seq ?_
        refine AX.region ?_
        refine AXo.go (f := 0) hev (d_eqI rfl rfl) ?_
        refine AXo.go (f := 0) hev (d_assign rfl) ?_
        refine AXo.nil ?_
        refine AX.condF rfl (by decide) ?_
        refine AX.seq ?_
        refine AX.region ?_
        refine AXo.go (f := 0) hev (d_eqI rfl rfl) ?_
        refine AXo.go (f := 0) hev (d_assign rfl) ?_
        refine AXo.nil ?_
        refine AX.condF rfl (by decide) ?_
        refine AX.seq ?_
        refine AX.region ?_
        refine AXo.go (f := 0) hev (d_assign rfl) ?_
        refine AXo.nil ?_
        refine AX.ret ?_
        refine AX.outRet ?_
        refine AX.outRet ?_
        refine AX.leave (e := .ret) (by simp) ?_
        refine AX.outRet ?_
        refine AX.thenRet ?_
        exact ⟨false, .inl rfl⟩
      · -- 2
        refine AX.region ?_
        refine AXo.go (f := 0) hev (d_move rfl) ?_
        refine AXo.go (f := 0) hev (show Does _ _ _ _ _ _ _ _ _ (.t (.int .u8 2)) _ from d_bin rfl rfl (by kernel_rfl)) ?_
        refine AXo.go (f := 0) hev (show Does _ _ _ _ _ _ _ _ _ (.t (.int .i64 2)) _ from d_conv rfl (fun _ _ _ => by kernel_rfl)) ?_
        refine AXo.go (f := 0) hev (d_assign rfl) ?_
        refine AXo.nil ?_
        refine AX.seq ?_
        refine AX.region ?_
        refine AXo.go (f := 0) hev (d_move rfl) ?_
        refine AXo.go (f := 0) hev (show Does _ _ _ _ _ _ _ _ _ (.t (.int .u8 0)) _ from d_bin rfl rfl (by kernel_rfl)) ?_
        refine AXo.go (f := 0) hev (d_indexTab (m := 0) rfl rfl ty130 rfl ty129 (by decide)) ?_
        refine AXo.go (f := 0) hev (show Does _ _ _ _ _ _ _ _ _ (.t (.agg [.int .u8 128, .int .u8 191])) _ from d_loadT rfl (by kernel_rfl)) ?_
        refine AXo.go (f := 0) hev (d_alloc ty129 rfl rfl) ?_
        refine AXo.go0 (f := 0) hev (d_store rfl rfl (stt ty129 rfl rfl)) ?_
        refine AXo.nil ?_
        refine AX.seq ?_
        refine AX.region ?_
        refine AXo.go (f := 0) hev (d_move rfl) ?_
        refine AXo.nil ?_
        refine AX.block ?_
        refine AX.seq ?_
        refine AX.region ?_
        refine AXo.go (f := 0) hev (d_eqI rfl rfl) ?_
        refine AXo.go (f := 0) hev (d_assign rfl) ?_
        refine AXo.nil ?_
        refine AX.condT rfl (by decide) ?_
        refine AX.seq ?_
        refine AX.seq ?_
        refine AX.draw (f := 0) orders hev ?_
        refine AXd.go rfl (d_move rfl) ?_
        refine AXd.go rfl (d_lenS rfl ty9 rfl) ?_
        refine AXd.go rfl (d_ltI rfl rfl) ?_
        refine AXd.go rfl (d_move rfl) ?_
        refine AXd.split 81 rfl (fun hg81 => ?_) (fun hg81 => ?_)
        · skip
          refine AXd.no rfl rfl rfl (beqTF hg81) ?_
          refine AXd.no rfl rfl rfl (beqTF hg81) ?_
          refine AXd.no rfl rfl rfl (beqTF hg81) ?_
          refine AXd.no rfl rfl rfl (beqTF hg81) ?_
          refine AXd.no rfl rfl rfl (beqTF hg81) ?_
          refine AXd.go rfl (d_pickT rfl hg81 rfl rfl) ?_
          refine AXd.go rfl (d_move rfl) ?_
          refine AXd.no rfl rfl rfl (beqTF rfl) ?_
          refine AXd.no rfl rfl rfl (beqTF rfl) ?_
          refine AXd.no rfl rfl rfl (beqTF rfl) ?_
          refine AXd.no rfl rfl rfl (beqTF rfl) ?_
          refine AXd.no rfl rfl rfl (beqTF rfl) ?_
          refine AXd.go rfl (d_pickT rfl rfl rfl rfl) ?_
          refine AXd.nil (ex_and2 rfl rfl ?_)
          refine AX.condT rfl rfl ?_
          refine AX.seq ?_
          refine AX.region ?_
          refine AXo.go (f := 0) hev (d_assign rfl) ?_
          refine AXo.nil ?_
          refine AX.ret ?_
          refine AX.thenRet ?_
          refine AX.outRet ?_
          refine AX.outRet ?_
          refine AX.leave (e := .ret) (by simp) ?_
          refine AX.outRet ?_
          refine AX.thenRet ?_
          exact ⟨false, .inl rfl⟩
        · have hl2 : 2 ≤ (b :: s').length := by have := of_decide_eq_false hg81; omega
          refine AXd.yes rfl rfl rfl (beqFF hg81) rfl (d_move rfl) ?_
          refine AXd.yes rfl rfl rfl (beqFF hg81) rfl (d_byte (m := 1) rfl rfl ty9 rfl (List.getElem?_eq_getElem (by omega))) ?_
          refine AXd.yes rfl rfl rfl (beqFF hg81) rfl (d_fieldAddr rfl fo129_0 rfl) ?_
          refine AXd.yes rfl rfl rfl (beqFF hg81) rfl ((by first | exact d_loadT rfl (ld ty5 rfl rfl) | exact d_load rfl (ld ty5 rfl rfl))) ?_
          refine AXd.yes rfl rfl rfl (beqFF hg81) rfl (d_ltI rfl rfl) ?_
          refine AXd.go rfl (d_pickF rfl hg81 rfl rfl) ?_
          refine AXd.go rfl (d_move rfl) ?_
          refine AXd.split 88 rfl (fun hg88 => ?_) (fun hg88 => ?_)
          · skip
            refine AXd.no rfl rfl rfl (beqTF hg88) ?_
            refine AXd.no rfl rfl rfl (beqTF hg88) ?_
            refine AXd.no rfl rfl rfl (beqTF hg88) ?_
            refine AXd.no rfl rfl rfl (beqTF hg88) ?_
            refine AXd.no rfl rfl rfl (beqTF hg88) ?_
            refine AXd.go rfl (d_pickT rfl hg88 rfl rfl) ?_
            refine AXd.nil (ex_and2 rfl rfl ?_)
            refine AX.condT rfl rfl ?_
            refine AX.seq ?_
            refine AX.region ?_
            refine AXo.go (f := 0) hev (d_assign rfl) ?_
            refine AXo.nil ?_
            refine AX.ret ?_
            refine AX.thenRet ?_
            refine AX.outRet ?_
            refine AX.outRet ?_
            refine AX.leave (e := .ret) (by simp) ?_
            refine AX.outRet ?_
            refine AX.thenRet ?_
            exact ⟨false, .inl rfl⟩
          · skip
            refine AXd.yes rfl rfl rfl (beqFF hg88) rfl (d_fieldAddr rfl fo129_1 rfl) ?_
            refine AXd.yes rfl rfl rfl (beqFF hg88) rfl ((by first | exact d_loadT rfl (ld ty5 rfl rfl) | exact d_load rfl (ld ty5 rfl rfl))) ?_
            refine AXd.yes rfl rfl rfl (beqFF hg88) rfl (d_move rfl) ?_
            refine AXd.yes rfl rfl rfl (beqFF hg88) rfl (d_byte (m := 1) rfl rfl ty9 rfl (List.getElem?_eq_getElem (by omega))) ?_
            refine AXd.yes rfl rfl rfl (beqFF hg88) rfl (d_ltI rfl rfl) ?_
            refine AXd.go rfl (d_pickF rfl hg88 rfl rfl) ?_
            refine AXd.nil (ex_and2 rfl rfl ?_)
            refine AX.cond rfl (fun h94 => ?_) (fun h94 => ?_)
            · skip
              refine AX.seq ?_
              refine AX.region ?_
              refine AXo.go (f := 0) hev (d_assign rfl) ?_
              refine AXo.nil ?_
              refine AX.ret ?_
              refine AX.thenRet ?_
              refine AX.outRet ?_
              refine AX.outRet ?_
              refine AX.leave (e := .ret) (by simp) ?_
              refine AX.outRet ?_
              refine AX.thenRet ?_
              exact ⟨false, .inl rfl⟩
            · skip
              refine AX.skip ?_
              refine AX.region ?_
              refine AXo.go (f := 0) hev (d_move rfl) ?_
              refine AXo.go (f := 0) hev ((show Does _ _ _ _ _ _ _ _ _ (.t (.str ((b :: s').drop 2))) _ from d_subS (s := (b :: s')) (m := 2) rfl rfl ty9 rfl (by omega))) ?_
              refine AXo.go (f := 0) hev (d_assign rfl) ?_
              refine AXo.nil ?_
              refine AX.outNormal ?_
              refine AX.outNormal ?_
              exact ⟨.inl ⟨((b :: s').drop 2), trivial, by show (((b :: s').drop 2)).length < _; first | (simp; done) | (simp only [List.length_drop, List.length_cons]; omega) | (simp only [List.length_drop, List.length_cons] at *; omega)⟩, rfl, (Re.sq [] ⟨rfl, trivial⟩ trivial (by decide) rfl rfl (by decide))⟩
      · -- 19
        refine AX.region ?_
        refine AXo.go (f := 0) hev (d_move rfl) ?_
        refine AXo.go (f := 0) hev (show Does _ _ _ _ _ _ _ _ _ (.t (.int .u8 3)) _ from d_bin rfl rfl (by kernel_rfl)) ?_
        refine AXo.go (f := 0) hev (show Does _ _ _ _ _ _ _ _ _ (.t (.int .i64 3)) _ from d_conv rfl (fun _ _ _ => by kernel_rfl)) ?_
        refine AXo.go (f := 0) hev (d_assign rfl) ?_
        refine AXo.nil ?_
        refine AX.seq ?_
        refine AX.region ?_
        refine AXo.go (f := 0) hev (d_move rfl) ?_
        refine AXo.go (f := 0) hev (show Does _ _ _ _ _ _ _ _ _ (.t (.int .u8 1)) _ from d_bin rfl rfl (by kernel_rfl)) ?_
        refine AXo.go (f := 0) hev (d_indexTab (m := 1) rfl rfl ty130 rfl ty129 (by decide)) ?_
        refine AXo.go (f := 0) hev (show Does _ _ _ _ _ _ _ _ _ (.t (.agg [.int .u8 160, .int .u8 191])) _ from d_loadT rfl (by kernel_rfl)) ?_
        refine AXo.go (f := 0) hev (d_alloc ty129 rfl rfl) ?_
        refine AXo.go0 (f := 0) hev (d_store rfl rfl (stt ty129 rfl rfl)) ?_
        refine AXo.nil ?_
        refine AX.seq ?_
        refine AX.region ?_
        refine AXo.go (f := 0) hev (d_move rfl) ?_
        refine AXo.nil ?_
        refine AX.block ?_
        refine AX.seq ?_
        refine AX.region ?_
        refine AXo.go (f := 0) hev (d_eqI rfl rfl) ?_
        refine AXo.go (f := 0) hev (d_assign rfl) ?_
        refine AXo.nil ?_
        refine AX.condF rfl (by decide) ?_
        refine AX.seq ?_
        refine AX.region ?_
        refine AXo.go (f := 0) hev (d_eqI rfl rfl) ?_
        refine AXo.go (f := 0) hev (d_assign rfl) ?_
        refine AXo.nil ?_
        refine AX.condT rfl (by decide) ?_
        refine AX.seq ?_
        refine AX.seq ?_
        refine AX.draw (f := 0) orders hev ?_
        refine AXd.go rfl (d_move rfl) ?_
        refine AXd.go rfl (d_lenS rfl ty9 rfl) ?_
        refine AXd.go rfl (d_ltI rfl rfl) ?_
        refine AXd.go rfl (d_move rfl) ?_
        refine AXd.split 102 rfl (fun hg102 => ?_) (fun hg102 => ?_)
        · skip
          refine AXd.no rfl rfl rfl (beqTF hg102) ?_
          refine AXd.no rfl rfl rfl (beqTF hg102) ?_
          refine AXd.no rfl rfl rfl (beqTF hg102) ?_
          refine AXd.no rfl rfl rfl (beqTF hg102) ?_
          refine AXd.no rfl rfl rfl (beqTF hg102) ?_
          refine AXd.go rfl (d_pickT rfl hg102 rfl rfl) ?_
          refine AXd.go rfl (d_move rfl) ?_
          refine AXd.no rfl rfl rfl (beqTF rfl) ?_
          refine AXd.no rfl rfl rfl (beqTF rfl) ?_
          refine AXd.no rfl rfl rfl (beqTF rfl) ?_
          refine AXd.no rfl rfl rfl (beqTF rfl) ?_
          refine AXd.no rfl rfl rfl (beqTF rfl) ?_
          refine AXd.go rfl (d_pickT rfl rfl rfl rfl) ?_
          refine AXd.go rfl (d_move rfl) ?_
          refine AXd.no rfl rfl rfl (beqTF rfl) ?_
          refine AXd.no rfl rfl rfl (beqTF rfl) ?_
          refine AXd.no rfl rfl rfl (beqTF rfl) ?_
          refine AXd.go rfl (d_pickT rfl rfl rfl rfl) ?_
          refine AXd.go rfl (d_move rfl) ?_
          refine AXd.no rfl rfl rfl (beqTF rfl) ?_
          refine AXd.no rfl rfl rfl (beqTF rfl) ?_
          refine AXd.no rfl rfl rfl (beqTF rfl) ?_
          refine AXd.go rfl (d_pickT rfl rfl rfl rfl) ?_
          refine AXd.nil (ex_and2 rfl rfl ?_)
          refine AX.condT rfl rfl ?_
          refine AX.seq ?_
          refine AX.region ?_
          refine AXo.go (f := 0) hev (d_assign rfl) ?_
          refine AXo.nil ?_
          refine AX.ret ?_
          refine AX.thenRet ?_
          refine AX.outRet ?_
          refine AX.outRet ?_
          refine AX.leave (e := .ret) (by simp) ?_
          refine AX.outRet ?_
          refine AX.thenRet ?_
          exact ⟨false, .inl rfl⟩
        · have hl3 : 3 ≤ (b :: s').length := by have := of_decide_eq_false hg102; omega
          refine AXd.yes rfl rfl rfl (beqFF hg102) rfl (d_move rfl) ?_
          refine AXd.yes rfl rfl rfl (beqFF hg102) rfl (d_byte (m := 1) rfl rfl ty9 rfl (List.getElem?_eq_getElem (by omega))) ?_
          refine AXd.yes rfl rfl rfl (beqFF hg102) rfl (d_fieldAddr rfl fo129_0 rfl) ?_
          refine AXd.yes rfl rfl rfl (beqFF hg102) rfl ((by first | exact d_loadT rfl (ld ty5 rfl rfl) | exact d_load rfl (ld ty5 rfl rfl))) ?_
          refine AXd.yes rfl rfl rfl (beqFF hg102) rfl (d_ltI rfl rfl) ?_
          refine AXd.go rfl (d_pickF rfl hg102 rfl rfl) ?_
          refine AXd.go rfl (d_move rfl) ?_
          refine AXd.split 109 rfl (fun hg109 => ?_) (fun hg109 => ?_)
          · skip
            refine AXd.no rfl rfl rfl (beqTF hg109) ?_
            refine AXd.no rfl rfl rfl (beqTF hg109) ?_
            refine AXd.no rfl rfl rfl (beqTF hg109) ?_
            refine AXd.no rfl rfl rfl (beqTF hg109) ?_
            refine AXd.no rfl rfl rfl (beqTF hg109) ?_
            refine AXd.go rfl (d_pickT rfl hg109 rfl rfl) ?_
            refine AXd.go rfl (d_move rfl) ?_
            refine AXd.no rfl rfl rfl (beqTF rfl) ?_
            refine AXd.no rfl rfl rfl (beqTF rfl) ?_
            refine AXd.no rfl rfl rfl (beqTF rfl) ?_
            refine AXd.go rfl (d_pickT rfl rfl rfl rfl) ?_
            refine AXd.go rfl (d_move rfl) ?_
            refine AXd.no rfl rfl rfl (beqTF rfl) ?_
            refine AXd.no rfl rfl rfl (beqTF rfl) ?_
            refine AXd.no rfl rfl rfl (beqTF rfl) ?_
            refine AXd.go rfl (d_pickT rfl rfl rfl rfl) ?_
            refine AXd.nil (ex_and2 rfl rfl ?_)
            refine AX.condT rfl rfl ?_
            refine AX.seq ?_
            refine AX.region ?_
            refine AXo.go (f := 0) hev (d_assign rfl) ?_
            refine AXo.nil ?_
            refine AX.ret ?_
            refine AX.thenRet ?_
            refine AX.outRet ?_
            refine AX.outRet ?_
            refine AX.leave (e := .ret) (by simp) ?_
            refine AX.outRet ?_
            refine AX.thenRet ?_
            exact ⟨false, .inl rfl⟩
          · skip
            refine AXd.yes rfl rfl rfl (beqFF hg109) rfl (d_fieldAddr rfl fo129_1 rfl) ?_
            refine AXd.yes rfl rfl rfl (beqFF hg109) rfl ((by first | exact d_loadT rfl (ld ty5 rfl rfl) | exact d_load rfl (ld ty5 rfl rfl))) ?_
            refine AXd.yes rfl rfl rfl (beqFF hg109) rfl (d_move rfl) ?_
            refine AXd.yes rfl rfl rfl (beqFF hg109) rfl (d_byte (m := 1) rfl rfl ty9 rfl (List.getElem?_eq_getElem (by omega))) ?_
            refine AXd.yes rfl rfl rfl (beqFF hg109) rfl (d_ltI rfl rfl) ?_
            refine AXd.go rfl (d_pickF rfl hg109 rfl rfl) ?_
            refine AXd.go rfl (d_move rfl) ?_
            refine AXd.split 116 rfl (fun hg116 => ?_) (fun hg116 => ?_)
            · skip
              refine AXd.no rfl rfl rfl (beqTF hg116) ?_
              refine AXd.no rfl rfl rfl (beqTF hg116) ?_
              refine AXd.no rfl rfl rfl (beqTF hg116) ?_
              refine AXd.go rfl (d_pickT rfl hg116 rfl rfl) ?_
              refine AXd.go rfl (d_move rfl) ?_
              refine AXd.no rfl rfl rfl (beqTF rfl) ?_
              refine AXd.no rfl rfl rfl (beqTF rfl) ?_
              refine AXd.no rfl rfl rfl (beqTF rfl) ?_
              refine AXd.go rfl (d_pickT rfl rfl rfl rfl) ?_
              refine AXd.nil (ex_and2 rfl rfl ?_)
              refine AX.condT rfl rfl ?_
              refine AX.seq ?_
              refine AX.region ?_
              refine AXo.go (f := 0) hev (d_assign rfl) ?_
              refine AXo.nil ?_
              refine AX.ret ?_
              refine AX.thenRet ?_
              refine AX.outRet ?_
              refine AX.outRet ?_
              refine AX.leave (e := .ret) (by simp) ?_
              refine AX.outRet ?_
              refine AX.thenRet ?_
              exact ⟨false, .inl rfl⟩
            · skip
              refine AXd.yes rfl rfl rfl (beqFF hg116) rfl (d_move rfl) ?_
              refine AXd.yes rfl rfl rfl (beqFF hg116) rfl (d_byte (m := 2) rfl rfl ty9 rfl (List.getElem?_eq_getElem (by omega))) ?_
              refine AXd.yes rfl rfl rfl (beqFF hg116) rfl (d_ltI rfl rfl) ?_
              refine AXd.go rfl (d_pickF rfl hg116 rfl rfl) ?_
              refine AXd.go rfl (d_move rfl) ?_
              refine AXd.split 121 rfl (fun hg121 => ?_) (fun hg121 => ?_)
              · skip
                refine AXd.no rfl rfl rfl (beqTF hg121) ?_
                refine AXd.no rfl rfl rfl (beqTF hg121) ?_
                refine AXd.no rfl rfl rfl (beqTF hg121) ?_
                refine AXd.go rfl (d_pickT rfl hg121 rfl rfl) ?_
                refine AXd.nil (ex_and2 rfl rfl ?_)
                refine AX.condT rfl rfl ?_
                refine AX.seq ?_
                refine AX.region ?_
                refine AXo.go (f := 0) hev (d_assign rfl) ?_
                refine AXo.nil ?_
                refine AX.ret ?_
                refine AX.thenRet ?_
                refine AX.outRet ?_
                refine AX.outRet ?_
                refine AX.leave (e := .ret) (by simp) ?_
                refine AX.outRet ?_
                refine AX.thenRet ?_
                exact ⟨false, .inl rfl⟩
              · skip
                refine AXd.yes rfl rfl rfl (beqFF hg121) rfl (d_move rfl) ?_
                refine AXd.yes rfl rfl rfl (beqFF hg121) rfl (d_byte (m := 2) rfl rfl ty9 rfl (List.getElem?_eq_getElem (by omega))) ?_
                refine AXd.yes rfl rfl rfl (beqFF hg121) rfl (d_ltI rfl rfl) ?_
                refine AXd.go rfl (d_pickF rfl hg121 rfl rfl) ?_
                refine AXd.nil (ex_and2 rfl rfl ?_)
                refine AX.cond rfl (fun h125 => ?_) (fun h125 => ?_)
                · skip
                  refine AX.seq ?_
                  refine AX.region ?_
                  refine AXo.go (f := 0) hev (d_assign rfl) ?_
                  refine AXo.nil ?_
                  refine AX.ret ?_
                  refine AX.thenRet ?_
                  refine AX.outRet ?_
                  refine AX.outRet ?_
                  refine AX.leave (e := .ret) (by simp) ?_
                  refine AX.outRet ?_
                  refine AX.thenRet ?_
                  exact ⟨false, .inl rfl⟩
                · skip
                  refine AX.skip ?_
                  refine AX.region ?_
                  refine AXo.go (f := 0) hev (d_move rfl) ?_
                  refine AXo.go (f := 0) hev ((show Does _ _ _ _ _ _ _ _ _ (.t (.str ((b :: s').drop 3))) _ from d_subS (s := (b :: s')) (m := 3) rfl rfl ty9 rfl (by omega))) ?_
                  refine AXo.go (f := 0) hev (d_assign rfl) ?_
                  refine AXo.nil ?_
                  refine AX.outNormal ?_
                  refine AX.outNormal ?_
                  exact ⟨.inl ⟨((b :: s').drop 3), trivial, by show (((b :: s').drop 3)).length < _; first | (simp; done) | (simp only [List.length_drop, List.length_cons]; omega) | (simp only [List.length_drop, List.length_cons] at *; omega)⟩, rfl, (Re.sq [] ⟨rfl, trivial⟩ trivial (by decide) rfl rfl (by decide))⟩
      · -- 3
        refine AX.region ?_
        refine AXo.go (f := 0) hev (d_move rfl) ?_
        refine AXo.go (f := 0) hev (show Does _ _ _ _ _ _ _ _ _ (.t (.int .u8 3)) _ from d_bin rfl rfl (by kernel_rfl)) ?_
        refine AXo.go (f := 0) hev (show Does _ _ _ _ _ _ _ _ _ (.t (.int .i64 3)) _ from d_conv rfl (fun _ _ _ => by kernel_rfl)) ?_
        refine AXo.go (f := 0) hev (d_assign rfl) ?_
        refine AXo.nil ?_
        refine AX.seq ?_
        refine AX.region ?_
        refine AXo.go (f := 0) hev (d_move rfl) ?_
        refine AXo.go (f := 0) hev (show Does _ _ _ _ _ _ _ _ _ (.t (.int .u8 0)) _ from d_bin rfl rfl (by kernel_rfl)) ?_
        refine AXo.go (f := 0) hev (d_indexTab (m := 0) rfl rfl ty130 rfl ty129 (by decide)) ?_
        refine AXo.go (f := 0) hev (show Does _ _ _ _ _ _ _ _ _ (.t (.agg [.int .u8 128, .int .u8 191])) _ from d_loadT rfl (by kernel_rfl)) ?_
        refine AXo.go (f := 0) hev (d_alloc ty129 rfl rfl) ?_
        refine AXo.go0 (f := 0) hev (d_store rfl rfl (stt ty129 rfl rfl)) ?_
        refine AXo.nil ?_
        refine AX.seq ?_
        refine AX.region ?_
        refine AXo.go (f := 0) hev (d_move rfl) ?_
        refine AXo.nil ?_
        refine AX.block ?_
        refine AX.seq ?_
        refine AX.region ?_
        refine AXo.go (f := 0) hev (d_eqI rfl rfl) ?_
        refine AXo.go (f := 0) hev (d_assign rfl) ?_
        refine AXo.nil ?_
        refine AX.condF rfl (by decide) ?_
        refine AX.seq ?_
        refine AX.region ?_
        refine AXo.go (f := 0) hev (d_eqI rfl rfl) ?_
        refine AXo.go (f := 0) hev (d_assign rfl) ?_
        refine AXo.nil ?_
        refine AX.condT rfl (by decide) ?_
        refine AX.seq ?_
        refine AX.seq ?_
        refine AX.draw (f := 0) orders hev ?_
        refine AXd.go rfl (d_move rfl) ?_
        refine AXd.go rfl (d_lenS rfl ty9 rfl) ?_
        refine AXd.go rfl (d_ltI rfl rfl) ?_
        refine AXd.go rfl (d_move rfl) ?_
        refine AXd.split 102 rfl (fun hg102 => ?_) (fun hg102 => ?_)
        · skip
          refine AXd.no rfl rfl rfl (beqTF hg102) ?_
          refine AXd.no rfl rfl rfl (beqTF hg102) ?_
          refine AXd.no rfl rfl rfl (beqTF hg102) ?_
          refine AXd.no rfl rfl rfl (beqTF hg102) ?_
          refine AXd.no rfl rfl rfl (beqTF hg102) ?_
          refine AXd.go rfl (d_pickT rfl hg102 rfl rfl) ?_
          refine AXd.go rfl (d_move rfl) ?_
          refine AXd.no rfl rfl rfl (beqTF rfl) ?_
          refine AXd.no rfl rfl rfl (beqTF rfl) ?_
          refine AXd.no rfl rfl rfl (beqTF rfl) ?_
          refine AXd.no rfl rfl rfl (beqTF rfl) ?_
          refine AXd.no rfl rfl rfl (beqTF rfl) ?_
          refine AXd.go rfl (d_pickT rfl rfl rfl rfl) ?_
          refine AXd.go rfl (d_move rfl) ?_
          refine AXd.no rfl rfl rfl (beqTF rfl) ?_
          refine AXd.no rfl rfl rfl (beqTF rfl) ?_
          refine AXd.no rfl rfl rfl (beqTF rfl) ?_
          refine AXd.go rfl (d_pickT rfl rfl rfl rfl) ?_
          refine AXd.go rfl (d_move rfl) ?_
          refine AXd.no rfl rfl rfl (beqTF rfl) ?_
          refine AXd.no rfl rfl rfl (beqTF rfl) ?_
          refine AXd.no rfl rfl rfl (beqTF rfl) ?_
          refine AXd.go rfl (d_pickT rfl rfl rfl rfl) ?_
          refine AXd.nil (ex_and2 rfl rfl ?_)
          refine AX.condT rfl rfl ?_
          refine AX.seq ?_
          refine AX.region ?_
          refine AXo.go (f := 0) hev (d_assign rfl) ?_
          refine AXo.nil ?_
          refine AX.ret ?_
          refine AX.thenRet ?_
          refine AX.outRet ?_
          refine AX.outRet ?_
          refine AX.leave (e := .ret) (by simp) ?_
          refine AX.outRet ?_
          refine AX.thenRet ?_
          exact ⟨false, .inl rfl⟩
        · have hl3 : 3 ≤ (b :: s').length := by have := of_decide_eq_false hg102; omega
          refine AXd.yes rfl rfl rfl (beqFF hg102) rfl (d_move rfl) ?_
          refine AXd.yes rfl rfl rfl (beqFF hg102) rfl (d_byte (m := 1) rfl rfl ty9 rfl (List.getElem?_eq_getElem (by omega))) ?_
          refine AXd.yes rfl rfl rfl (beqFF hg102) rfl (d_fieldAddr rfl fo129_0 rfl) ?_
          refine AXd.yes rfl rfl rfl (beqFF hg102) rfl ((by first | exact d_loadT rfl (ld ty5 rfl rfl) | exact d_load rfl (ld ty5 rfl rfl))) ?_
          refine AXd.yes rfl rfl rfl (beqFF hg102) rfl (d_ltI rfl rfl) ?_
          refine AXd.go rfl (d_pickF rfl hg102 rfl rfl) ?_
          refine AXd.go rfl (d_move rfl) ?_
          refine AXd.split 109 rfl (fun hg109 => ?_) (fun hg109 => ?_)
          · skip
            refine AXd.no rfl rfl rfl (beqTF hg109) ?_
            refine AXd.no rfl rfl rfl (beqTF hg109) ?_
            refine AXd.no rfl rfl rfl (beqTF hg109) ?_
            refine AXd.no rfl rfl rfl (beqTF hg109) ?_
            refine AXd.no rfl rfl rfl (beqTF hg109) ?_
            refine AXd.go rfl (d_pickT rfl hg109 rfl rfl) ?_
            refine AXd.go rfl (d_move rfl) ?_
            refine AXd.no rfl rfl rfl (beqTF rfl) ?_
            refine AXd.no rfl rfl rfl (beqTF rfl) ?_
            refine AXd.no rfl rfl rfl (beqTF rfl) ?_
            refine AXd.go rfl (d_pickT rfl rfl rfl rfl) ?_
            refine AXd.go rfl (d_move rfl) ?_
            refine AXd.no rfl rfl rfl (beqTF rfl) ?_
            refine AXd.no rfl rfl rfl (beqTF rfl) ?_
            refine AXd.no rfl rfl rfl (beqTF rfl) ?_
            refine AXd.go rfl (d_pickT rfl rfl rfl rfl) ?_
            refine AXd.nil (ex_and2 rfl rfl ?_)
            refine AX.condT rfl rfl ?_
            refine AX.seq ?_
            refine AX.region ?_
            refine AXo.go (f := 0) hev (d_assign rfl) ?_
            refine AXo.nil ?_
            refine AX.ret ?_
            refine AX.thenRet ?_
            refine AX.outRet ?_
            refine AX.outRet ?_
            refine AX.leave (e := .ret) (by simp) ?_
            refine AX.outRet ?_
            refine AX.thenRet ?_
            exact ⟨false, .inl rfl⟩
          · skip
            refine AXd.yes rfl rfl rfl (beqFF hg109) rfl (d_fieldAddr rfl fo129_1 rfl) ?_
            refine AXd.yes rfl rfl rfl (beqFF hg109) rfl ((by first | exact d_loadT rfl (ld ty5 rfl rfl) | exact d_load rfl (ld ty5 rfl rfl))) ?_
            refine AXd.yes rfl rfl rfl (beqFF hg109) rfl (d_move rfl) ?_
            refine AXd.yes rfl rfl rfl (beqFF hg109) rfl (d_byte (m := 1) rfl rfl ty9 rfl (List.getElem?_eq_getElem (by omega))) ?_
            refine AXd.yes rfl rfl rfl (beqFF hg109) rfl (d_ltI rfl rfl) ?_
            refine AXd.go rfl (d_pickF rfl hg109 rfl rfl) ?_
            refine AXd.go rfl (d_move rfl) ?_
            refine AXd.split 116 rfl (fun hg116 => ?_) (fun hg116 => ?_)
            · skip
              refine AXd.no rfl rfl rfl (beqTF hg116) ?_
              refine AXd.no rfl rfl rfl (beqTF hg116) ?_
              refine AXd.no rfl rfl rfl (beqTF hg116) ?_
              refine AXd.go rfl (d_pickT rfl hg116 rfl rfl) ?_
              refine AXd.go rfl (d_move rfl) ?_
              refine AXd.no rfl rfl rfl (beqTF rfl) ?_
              refine AXd.no rfl rfl rfl (beqTF rfl) ?_
              refine AXd.no rfl rfl rfl (beqTF rfl) ?_
              refine AXd.go rfl (d_pickT rfl rfl rfl rfl) ?_
              refine AXd.nil (ex_and2 rfl rfl ?_)
              refine AX.condT rfl rfl ?_
              refine AX.seq ?_
              refine AX.region ?_
              refine AXo.go (f := 0) hev (d_assign rfl) ?_
              refine AXo.nil ?_
              refine AX.ret ?_
              refine AX.thenRet ?_
              refine AX.outRet ?_
              refine AX.outRet ?_
              refine AX.leave (e := .ret) (by simp) ?_
              refine AX.outRet ?_
              refine AX.thenRet ?_
              exact ⟨false, .inl rfl⟩
            · skip
              refine AXd.yes rfl rfl rfl (beqFF hg116) rfl (d_move rfl) ?_
              refine AXd.yes rfl rfl rfl (beqFF hg116) rfl (d_byte (m := 2) rfl rfl ty9 rfl (List.getElem?_eq_getElem (by omega))) ?_
              refine AXd.yes rfl rfl rfl (beqFF hg116) rfl (d_ltI rfl rfl) ?_
              refine AXd.go rfl (d_pickF rfl hg116 rfl rfl) ?_
              refine AXd.go rfl (d_move rfl) ?_
              refine AXd.split 121 rfl (fun hg121 => ?_) (fun hg121 => ?_)
              · skip
                refine AXd.no rfl rfl rfl (beqTF hg121) ?_
                refine AXd.no rfl rfl rfl (beqTF hg121) ?_
                refine AXd.no rfl rfl rfl (beqTF hg121) ?_
                refine AXd.go rfl (d_pickT rfl hg121 rfl rfl) ?_
                refine AXd.nil (ex_and2 rfl rfl ?_)
                refine AX.condT rfl rfl ?_
                refine AX.seq ?_
                refine AX.region ?_
                refine AXo.go (f := 0) hev (d_assign rfl) ?_
                refine AXo.nil ?_
                refine AX.ret ?_
                refine AX.thenRet ?_
                refine AX.outRet ?_
                refine AX.outRet ?_
                refine AX.leave (e := .ret) (by simp) ?_
                refine AX.outRet ?_
                refine AX.thenRet ?_
                exact ⟨false, .inl rfl⟩
              · skip
                refine AXd.yes rfl rfl rfl (beqFF hg121) rfl (d_move rfl) ?_
                refine AXd.yes rfl rfl rfl (beqFF hg121) rfl (d_byte (m := 2) rfl rfl ty9 rfl (List.getElem?_eq_getElem (by omega))) ?_
                refine AXd.yes rfl rfl rfl (beqFF hg121) rfl (d_ltI rfl rfl) ?_
                refine AXd.go rfl (d_pickF rfl hg121 rfl rfl) ?_
                refine AXd.nil (ex_and2 rfl rfl ?_)
                refine AX.cond rfl (fun h125 => ?_) (fun h125 => ?_)
                · skip
                  refine AX.seq ?_
                  refine AX.region ?_
                  refine AXo.go (f := 0) hev (d_assign rfl) ?_
                  refine AXo.nil ?_
                  refine AX.ret ?_
                  refine AX.thenRet ?_
                  refine AX.outRet ?_
                  refine AX.outRet ?_
                  refine AX.leave (e := .ret) (by simp) ?_
                  refine AX.outRet ?_
                  refine AX.thenRet ?_
                  exact ⟨false, .inl rfl⟩
                · skip
                  refine AX.skip ?_
                  refine AX.region ?_
                  refine AXo.go (f := 0) hev (d_move rfl) ?_
                  refine AXo.go (f := 0) hev ((show Does _ _ _ _ _ _ _ _ _ (.t (.str ((b :: s').drop 3))) _ from d_subS (s := (b :: s')) (m := 3) rfl rfl ty9 rfl (by omega))) ?_
                  refine AXo.go (f := 0) hev (d_assign rfl) ?_
                  refine AXo.nil ?_
                  refine AX.outNormal ?_
                  refine AX.outNormal ?_
                  exact ⟨.inl ⟨((b :: s').drop 3), trivial, by show (((b :: s').drop 3)).length < _; first | (simp; done) | (simp only [List.length_drop, List.length_cons]; omega) | (simp only [List.length_drop, List.length_cons] at *; omega)⟩, rfl, (Re.sq [] ⟨rfl, trivial⟩ trivial (by decide) rfl rfl (by decide))⟩
      · -- 35
        refine AX.region ?_
        refine AXo.go (f := 0) hev (d_move rfl) ?_
        refine AXo.go (f := 0) hev (show Does _ _ _ _ _ _ _ _ _ (.t (.int .u8 3)) _ from d_bin rfl rfl (by kernel_rfl)) ?_
        refine AXo.go (f := 0) hev (show Does _ _ _ _ _ _ _ _ _ (.t (.int .i64 3)) _ from d_conv rfl (fun _ _ _ => by kernel_rfl)) ?_
        refine AXo.go (f := 0) hev (d_assign rfl) ?_
        refine AXo.nil ?_
        refine AX.seq ?_
        refine AX.region ?_
        refine AXo.go (f := 0) hev (d_move rfl) ?_
        refine AXo.go (f := 0) hev (show Does _ _ _ _ _ _ _ _ _ (.t (.int .u8 2)) _ from d_bin rfl rfl (by kernel_rfl)) ?_
        refine AXo.go (f := 0) hev (d_indexTab (m := 2) rfl rfl ty130 rfl ty129 (by decide)) ?_
        refine AXo.go (f := 0) hev (show Does _ _ _ _ _ _ _ _ _ (.t (.agg [.int .u8 128, .int .u8 159])) _ from d_loadT rfl (by kernel_rfl)) ?_
        refine AXo.go (f := 0) hev (d_alloc ty129 rfl rfl) ?_
        refine AXo.go0 (f := 0) hev (d_store rfl rfl (stt ty129 rfl rfl)) ?_
        refine AXo.nil ?_
        refine AX.seq ?_
        refine AX.region ?_
        refine AXo.go (f := 0) hev (d_move rfl) ?_
        refine AXo.nil ?_
        refine AX.block ?_
        refine AX.seq ?_
        refine AX.region ?_
        refine AXo.go (f := 0) hev (d_eqI rfl rfl) ?_
        refine AXo.go (f := 0) hev (d_assign rfl) ?_
        refine AXo.nil ?_
        refine AX.condF rfl (by decide) ?_
        refine AX.seq ?_
        refine AX.region ?_
        refine AXo.go (f := 0) hev (d_eqI rfl rfl) ?_
        refine AXo.go (f := 0) hev (d_assign rfl) ?_
        refine AXo.nil ?_
        refine AX.condT rfl (by decide) ?_
        refine AX.seq ?_
        refine AX.seq ?_
        refine AX.draw (f := 0) orders hev ?_
        refine AXd.go rfl (d_move rfl) ?_
        refine AXd.go rfl (d_lenS rfl ty9 rfl) ?_
        refine AXd.go rfl (d_ltI rfl rfl) ?_
        refine AXd.go rfl (d_move rfl) ?_
        refine AXd.split 102 rfl (fun hg102 => ?_) (fun hg102 => ?_)
        · skip
          refine AXd.no rfl rfl rfl (beqTF hg102) ?_
          refine AXd.no rfl rfl rfl (beqTF hg102) ?_
          refine AXd.no rfl rfl rfl (beqTF hg102) ?_
          refine AXd.no rfl rfl rfl (beqTF hg102) ?_
          refine AXd.no rfl rfl rfl (beqTF hg102) ?_
          refine AXd.go rfl (d_pickT rfl hg102 rfl rfl) ?_
          refine AXd.go rfl (d_move rfl) ?_
          refine AXd.no rfl rfl rfl (beqTF rfl) ?_
          refine AXd.no rfl rfl rfl (beqTF rfl) ?_
          refine AXd.no rfl rfl rfl (beqTF rfl) ?_
          refine AXd.no rfl rfl rfl (beqTF rfl) ?_
          refine AXd.no rfl rfl rfl (beqTF rfl) ?_
          refine AXd.go rfl (d_pickT rfl rfl rfl rfl) ?_
          refine AXd.go rfl (d_move rfl) ?_
          refine AXd.no rfl rfl rfl (beqTF rfl) ?_
          refine AXd.no rfl rfl rfl (beqTF rfl) ?_
          refine AXd.no rfl rfl rfl (beqTF rfl) ?_
          refine AXd.go rfl (d_pickT rfl rfl rfl rfl) ?_
          refine AXd.go rfl (d_move rfl) ?_
          refine AXd.no rfl rfl rfl (beqTF rfl) ?_
          refine AXd.no rfl rfl rfl (beqTF rfl) ?_
          refine AXd.no rfl rfl rfl (beqTF rfl) ?_
          refine AXd.go rfl (d_pickT rfl rfl rfl rfl) ?_
          refine AXd.nil (ex_and2 rfl rfl ?_)
          refine AX.condT rfl rfl ?_
          refine AX.seq ?_
          refine AX.region ?_
          refine AXo.go (f := 0) hev (d_assign rfl) ?_
          refine AXo.nil ?_
          refine AX.ret ?_
          refine AX.thenRet ?_
          refine AX.outRet ?_
          refine AX.outRet ?_
          refine AX.leave (e := .ret) (by simp) ?_
          refine AX.outRet ?_
          refine AX.thenRet ?_
          exact ⟨false, .inl rfl⟩
        · have hl3 : 3 ≤ (b :: s').length := by have := of_decide_eq_false hg102; omega
          refine AXd.yes rfl rfl rfl (beqFF hg102) rfl (d_move rfl) ?_
          refine AXd.yes rfl rfl rfl (beqFF hg102) rfl (d_byte (m := 1) rfl rfl ty9 rfl (List.getElem?_eq_getElem (by omega))) ?_
          refine AXd.yes rfl rfl rfl (beqFF hg102) rfl (d_fieldAddr rfl fo129_0 rfl) ?_
          refine AXd.yes rfl rfl rfl (beqFF hg102) rfl ((by first | exact d_loadT rfl (ld ty5 rfl rfl) | exact d_load rfl (ld ty5 rfl rfl))) ?_
          refine AXd.yes rfl rfl rfl (beqFF hg102) rfl (d_ltI rfl rfl) ?_
          refine AXd.go rfl (d_pickF rfl hg102 rfl rfl) ?_
          refine AXd.go rfl (d_move rfl) ?_
          refine AXd.split 109 rfl (fun hg109 => ?_) (fun hg109 => ?_)
          · skip
            refine AXd.no rfl rfl rfl (beqTF hg109) ?_
            refine AXd.no rfl rfl rfl (beqTF hg109) ?_
            refine AXd.no rfl rfl rfl (beqTF hg109) ?_
            refine AXd.no rfl rfl rfl (beqTF hg109) ?_
            refine AXd.no rfl rfl rfl (beqTF hg109) ?_
            refine AXd.go rfl (d_pickT rfl hg109 rfl rfl) ?_
            refine AXd.go rfl (d_move rfl) ?_
            refine AXd.no rfl rfl rfl (beqTF rfl) ?_
            refine AXd.no rfl rfl rfl (beqTF rfl) ?_
            refine AXd.no rfl rfl rfl (beqTF rfl) ?_
            refine AXd.go rfl (d_pickT rfl rfl rfl rfl) ?_
            refine AXd.go rfl (d_move rfl) ?_
            refine AXd.no rfl rfl rfl (beqTF rfl) ?_
            refine AXd.no rfl rfl rfl (beqTF rfl) ?_
            refine AXd.no rfl rfl rfl (beqTF rfl) ?_
            refine AXd.go rfl (d_pickT rfl rfl rfl rfl) ?_
            refine AXd.nil (ex_and2 rfl rfl ?_)
            refine AX.condT rfl rfl ?_
            refine AX.seq ?_
            refine AX.region ?_
            refine AXo.go (f := 0) hev (d_assign rfl) ?_
            refine AXo.nil ?_
            refine AX.ret ?_
            refine AX.thenRet ?_
            refine AX.outRet ?_
            refine AX.outRet ?_
            refine AX.leave (e := .ret) (by simp) ?_
            refine AX.outRet ?_
            refine AX.thenRet ?_
            exact ⟨false, .inl rfl⟩
          · skip
            refine AXd.yes rfl rfl rfl (beqFF hg109) rfl (d_fieldAddr rfl fo129_1 rfl) ?_
            refine AXd.yes rfl rfl rfl (beqFF hg109) rfl ((by first | exact d_loadT rfl (ld ty5 rfl rfl) | exact d_load rfl (ld ty5 rfl rfl))) ?_
            refine AXd.yes rfl rfl rfl (beqFF hg109) rfl (d_move rfl) ?_
            refine AXd.yes rfl rfl rfl (beqFF hg109) rfl (d_byte (m := 1) rfl rfl ty9 rfl (List.getElem?_eq_getElem (by omega))) ?_
            refine AXd.yes rfl rfl rfl (beqFF hg109) rfl (d_ltI rfl rfl) ?_
            refine AXd.go rfl (d_pickF rfl hg109 rfl rfl) ?_
            refine AXd.go rfl (d_move rfl) ?_
            refine AXd.split 116 rfl (fun hg116 => ?_) (fun hg116 => ?_)
            · skip
              refine AXd.no rfl rfl rfl (beqTF hg116) ?_
              refine AXd.no rfl rfl rfl (beqTF hg116) ?_
              refine AXd.no rfl rfl rfl (beqTF hg116) ?_
              refine AXd.go rfl (d_pickT rfl hg116 rfl rfl) ?_
              refine AXd.go rfl (d_move rfl) ?_
              refine AXd.no rfl rfl rfl (beqTF rfl) ?_
              refine AXd.no rfl rfl rfl (beqTF rfl) ?_
              refine AXd.no rfl rfl rfl (beqTF rfl) ?_
              refine AXd.go rfl (d_pickT rfl rfl rfl rfl) ?_
              refine AXd.nil (ex_and2 rfl rfl ?_)
              refine AX.condT rfl rfl ?_
              refine AX.seq ?_
              refine AX.region ?_
              refine AXo.go (f := 0) hev (d_assign rfl) ?_
              refine AXo.nil ?_
              refine AX.ret ?_
              refine AX.thenRet ?_
              refine AX.outRet ?_
              refine AX.outRet ?_
              refine AX.leave (e := .ret) (by simp) ?_
              refine AX.outRet ?_
              refine AX.thenRet ?_
              exact ⟨false, .inl rfl⟩
            · skip
              refine AXd.yes rfl rfl rfl (beqFF hg116) rfl (d_move rfl) ?_
              refine AXd.yes rfl rfl rfl (beqFF hg116) rfl (d_byte (m := 2) rfl rfl ty9 rfl (List.getElem?_eq_getElem (by omega))) ?_
              refine AXd.yes rfl rfl rfl (beqFF hg116) rfl (d_ltI rfl rfl) ?_
              refine AXd.go rfl (d_pickF rfl hg116 rfl rfl) ?_
              refine AXd.go rfl (d_move rfl) ?_
              refine AXd.split 121 rfl (fun hg121 => ?_) (fun hg121 => ?_)
              · skip
                refine AXd.no rfl rfl rfl (beqTF hg121) ?_
                refine AXd.no rfl rfl rfl (beqTF hg121) ?_
                refine AXd.no rfl rfl rfl (beqTF hg121) ?_
                refine AXd.go rfl (d_pickT rfl hg121 rfl rfl) ?_
                refine AXd.nil (ex_and2 rfl rfl ?_)
                refine AX.condT rfl rfl ?_
                refine AX.seq ?_
                refine AX.region ?_
                refine AXo.go (f := 0) hev (d_assign rfl) ?_
                refine AXo.nil ?_
                refine AX.ret ?_
                refine AX.thenRet ?_
                refine AX.outRet ?_
                refine AX.outRet ?_
                refine AX.leave (e := .ret) (by simp) ?_
                refine AX.outRet ?_
                refine AX.thenRet ?_
                exact ⟨false, .inl rfl⟩
              · skip
                refine AXd.yes rfl rfl rfl (beqFF hg121) rfl (d_move rfl) ?_
                refine AXd.yes rfl rfl rfl (beqFF hg121) rfl (d_byte (m := 2) rfl rfl ty9 rfl (List.getElem?_eq_getElem (by omega))) ?_
                refine AXd.yes rfl rfl rfl (beqFF hg121) rfl (d_ltI rfl rfl) ?_
                refine AXd.go rfl (d_pickF rfl hg121 rfl rfl) ?_
                refine AXd.nil (ex_and2 rfl rfl ?_)
                refine AX.cond rfl (fun h125 => ?_) (fun h125 => ?_)
                · skip
                  refine AX.seq ?_
                  refine AX.region ?_
                  refine AXo.go (f := 0) hev (d_assign rfl) ?_
                  refine AXo.nil ?_
                  refine AX.ret ?_
                  refine AX.thenRet ?_
                  refine AX.outRet ?_
                  refine AX.outRet ?_
                  refine AX.leave (e := .ret) (by simp) ?_
                  refine AX.outRet ?_
                  refine AX.thenRet ?_
                  exact ⟨false, .inl rfl⟩
                · skip
                  refine AX.skip ?_
                  refine AX.region ?_
                  refine AXo.go (f := 0) hev (d_move rfl) ?_
                  refine AXo.go (f := 0) hev ((show Does _ _ _ _ _ _ _ _ _ (.t (.str ((b :: s').drop 3))) _ from d_subS (s := (b :: s')) (m := 3) rfl rfl ty9 rfl (by omega))) ?_
                  refine AXo.go (f := 0) hev (d_assign rfl) ?_
                  refine AXo.nil ?_
                  refine AX.outNormal ?_
                  refine AX.outNormal ?_
                  exact ⟨.inl ⟨((b :: s').drop 3), trivial, by show (((b :: s').drop 3)).length < _; first | (simp; done) | (simp only [List.length_drop, List.length_cons]; omega) | (simp only [List.length_drop, List.length_cons] at *; omega)⟩, rfl, (Re.sq [] ⟨rfl, trivial⟩ trivial (by decide) rfl rfl (by decide))⟩
      · -- 52
        refine AX.region ?_
        refine AXo.go (f := 0) hev (d_move rfl) ?_
        refine AXo.go (f := 0) hev (show Does _ _ _ _ _ _ _ _ _ (.t (.int .u8 4)) _ from d_bin rfl rfl (by kernel_rfl)) ?_
        refine AXo.go (f := 0) hev (show Does _ _ _ _ _ _ _ _ _ (.t (.int .i64 4)) _ from d_conv rfl (fun _ _ _ => by kernel_rfl)) ?_
        refine AXo.go (f := 0) hev (d_assign rfl) ?_
        refine AXo.nil ?_
        refine AX.seq ?_
        refine AX.region ?_
        refine AXo.go (f := 0) hev (d_move rfl) ?_
        refine AXo.go (f := 0) hev (show Does _ _ _ _ _ _ _ _ _ (.t (.int .u8 3)) _ from d_bin rfl rfl (by kernel_rfl)) ?_
        refine AXo.go (f := 0) hev (d_indexTab (m := 3) rfl rfl ty130 rfl ty129 (by decide)) ?_
        refine AXo.go (f := 0) hev (show Does _ _ _ _ _ _ _ _ _ (.t (.agg [.int .u8 144, .int .u8 191])) _ from d_loadT rfl (by kernel_rfl)) ?_
        refine AXo.go (f := 0) hev (d_alloc ty129 rfl rfl) ?_
        refine AXo.go0 (f := 0) hev (d_store rfl rfl (stt ty129 rfl rfl)) ?_
        refine AXo.nil ?_
        refine AX.seq ?_
        refine AX.region ?_
        refine AXo.go (f := 0) hev (d_move rfl) ?_
        refine AXo.nil ?_
        refine AX.block ?_
        refine AX.seq ?_
        refine AX.region ?_
        refine AXo.go (f := 0) hev (d_eqI rfl rfl) ?_
        refine AXo.go (f := 0) hev (d_assign rfl) ?_
        refine AXo.nil ?_
        refine AX.condF rfl (by decide) ?_
        refine AX.seq ?_
        refine AX.region ?_
        refine AXo.go (f := 0) hev (d_eqI rfl rfl) ?_
        refine AXo.go (f := 0) hev (d_assign rfl) ?_
        refine AXo.nil ?_
        refine AX.condF rfl (by decide) ?_
        refine AX.seq ?_
        refine AX.region ?_
        refine AXo.go (f := 0) hev (d_eqI rfl rfl) ?_
        refine AXo.go (f := 0) hev (d_assign rfl) ?_
        refine AXo.nil ?_
        refine AX.condT rfl (by decide) ?_
        refine AX.seq ?_
        refine AX.seq ?_
        refine AX.draw (f := 0) orders hev ?_
        refine AXd.go rfl (d_move rfl) ?_
        refine AXd.go rfl (d_lenS rfl ty9 rfl) ?_
        refine AXd.go rfl (d_ltI rfl rfl) ?_
        refine AXd.go rfl (d_move rfl) ?_
        refine AXd.split 133 rfl (fun hg133 => ?_) (fun hg133 => ?_)
        · skip
          refine AXd.no rfl rfl rfl (beqTF hg133) ?_
          refine AXd.no rfl rfl rfl (beqTF hg133) ?_
          refine AXd.no rfl rfl rfl (beqTF hg133) ?_
          refine AXd.no rfl rfl rfl (beqTF hg133) ?_
          refine AXd.no rfl rfl rfl (beqTF hg133) ?_
          refine AXd.go rfl (d_pickT rfl hg133 rfl rfl) ?_
          refine AXd.go rfl (d_move rfl) ?_
          refine AXd.no rfl rfl rfl (beqTF rfl) ?_
          refine AXd.no rfl rfl rfl (beqTF rfl) ?_
          refine AXd.no rfl rfl rfl (beqTF rfl) ?_
          refine AXd.no rfl rfl rfl (beqTF rfl) ?_
          refine AXd.no rfl rfl rfl (beqTF rfl) ?_
          refine AXd.go rfl (d_pickT rfl rfl rfl rfl) ?_
          refine AXd.go rfl (d_move rfl) ?_
          refine AXd.no rfl rfl rfl (beqTF rfl) ?_
          refine AXd.no rfl rfl rfl (beqTF rfl) ?_
          refine AXd.no rfl rfl rfl (beqTF rfl) ?_
          refine AXd.go rfl (d_pickT rfl rfl rfl rfl) ?_
          refine AXd.go rfl (d_move rfl) ?_
          refine AXd.no rfl rfl rfl (beqTF rfl) ?_
          refine AXd.no rfl rfl rfl (beqTF rfl) ?_
          refine AXd.no rfl rfl rfl (beqTF rfl) ?_
          refine AXd.go rfl (d_pickT rfl rfl rfl rfl) ?_
          refine AXd.go rfl (d_move rfl) ?_
          refine AXd.no rfl rfl rfl (beqTF rfl) ?_
          refine AXd.no rfl rfl rfl (beqTF rfl) ?_
          refine AXd.no rfl rfl rfl (beqTF rfl) ?_
          refine AXd.go rfl (d_pickT rfl rfl rfl rfl) ?_
          refine AXd.go rfl (d_move rfl) ?_
          refine AXd.no rfl rfl rfl (beqTF rfl) ?_
          refine AXd.no rfl rfl rfl (beqTF rfl) ?_
          refine AXd.no rfl rfl rfl (beqTF rfl) ?_
          refine AXd.go rfl (d_pickT rfl rfl rfl rfl) ?_
          refine AXd.nil (ex_and2 rfl rfl ?_)
          refine AX.condT rfl rfl ?_
          refine AX.seq ?_
          refine AX.region ?_
          refine AXo.go (f := 0) hev (d_assign rfl) ?_
          refine AXo.nil ?_
          refine AX.ret ?_
          refine AX.thenRet ?_
          refine AX.outRet ?_
          refine AX.outRet ?_
          refine AX.leave (e := .ret) (by simp) ?_
          refine AX.outRet ?_
          refine AX.thenRet ?_
          exact ⟨false, .inl rfl⟩
        · have hl4 : 4 ≤ (b :: s').length := by have := of_decide_eq_false hg133; omega
          refine AXd.yes rfl rfl rfl (beqFF hg133) rfl (d_move rfl) ?_
          refine AXd.yes rfl rfl rfl (beqFF hg133) rfl (d_byte (m := 1) rfl rfl ty9 rfl (List.getElem?_eq_getElem (by omega))) ?_
          refine AXd.yes rfl rfl rfl (beqFF hg133) rfl (d_fieldAddr rfl fo129_0 rfl) ?_
          refine AXd.yes rfl rfl rfl (beqFF hg133) rfl ((by first | exact d_loadT rfl (ld ty5 rfl rfl) | exact d_load rfl (ld ty5 rfl rfl))) ?_
          refine AXd.yes rfl rfl rfl (beqFF hg133) rfl (d_ltI rfl rfl) ?_
          refine AXd.go rfl (d_pickF rfl hg133 rfl rfl) ?_
          refine AXd.go rfl (d_move rfl) ?_
          refine AXd.split 140 rfl (fun hg140 => ?_) (fun hg140 => ?_)
          · skip
            refine AXd.no rfl rfl rfl (beqTF hg140) ?_
            refine AXd.no rfl rfl rfl (beqTF hg140) ?_
            refine AXd.no rfl rfl rfl (beqTF hg140) ?_
            refine AXd.no rfl rfl rfl (beqTF hg140) ?_
            refine AXd.no rfl rfl rfl (beqTF hg140) ?_
            refine AXd.go rfl (d_pickT rfl hg140 rfl rfl) ?_
            refine AXd.go rfl (d_move rfl) ?_
            refine AXd.no rfl rfl rfl (beqTF rfl) ?_
            refine AXd.no rfl rfl rfl (beqTF rfl) ?_
            refine AXd.no rfl rfl rfl (beqTF rfl) ?_
            refine AXd.go rfl (d_pickT rfl rfl rfl rfl) ?_
            refine AXd.go rfl (d_move rfl) ?_
            refine AXd.no rfl rfl rfl (beqTF rfl) ?_
            refine AXd.no rfl rfl rfl (beqTF rfl) ?_
            refine AXd.no rfl rfl rfl (beqTF rfl) ?_
            refine AXd.go rfl (d_pickT rfl rfl rfl rfl) ?_
            refine AXd.go rfl (d_move rfl) ?_
            refine AXd.no rfl rfl rfl (beqTF rfl) ?_
            refine AXd.no rfl rfl rfl (beqTF rfl) ?_
            refine AXd.no rfl rfl rfl (beqTF rfl) ?_
            refine AXd.go rfl (d_pickT rfl rfl rfl rfl) ?_
            refine AXd.go rfl (d_move rfl) ?_
            refine AXd.no rfl rfl rfl (beqTF rfl) ?_
            refine AXd.no rfl rfl rfl (beqTF rfl) ?_
            refine AXd.no rfl rfl rfl (beqTF rfl) ?_
            refine AXd.go rfl (d_pickT rfl rfl rfl rfl) ?_
            refine AXd.nil (ex_and2 rfl rfl ?_)
            refine AX.condT rfl rfl ?_
            refine AX.seq ?_
            refine AX.region ?_
            refine AXo.go (f := 0) hev (d_assign rfl) ?_
            refine AXo.nil ?_
            refine AX.ret ?_
            refine AX.thenRet ?_
            refine AX.outRet ?_
            refine AX.outRet ?_
            refine AX.leave (e := .ret) (by simp) ?_
            refine AX.outRet ?_
            refine AX.thenRet ?_
            exact ⟨false, .inl rfl⟩
          · skip
            refine AXd.yes rfl rfl rfl (beqFF hg140) rfl (d_fieldAddr rfl fo129_1 rfl) ?_
            refine AXd.yes rfl rfl rfl (beqFF hg140) rfl ((by first | exact d_loadT rfl (ld ty5 rfl rfl) | exact d_load rfl (ld ty5 rfl rfl))) ?_
            refine AXd.yes rfl rfl rfl (beqFF hg140) rfl (d_move rfl) ?_
            refine AXd.yes rfl rfl rfl (beqFF hg140) rfl (d_byte (m := 1) rfl rfl ty9 rfl (List.getElem?_eq_getElem (by omega))) ?_
            refine AXd.yes rfl rfl rfl (beqFF hg140) rfl (d_ltI rfl rfl) ?_
            refine AXd.go rfl (d_pickF rfl hg140 rfl rfl) ?_
            refine AXd.go rfl (d_move rfl) ?_
            refine AXd.split 147 rfl (fun hg147 => ?_) (fun hg147 => ?_)
            · skip
              refine AXd.no rfl rfl rfl (beqTF hg147) ?_
              refine AXd.no rfl rfl rfl (beqTF hg147) ?_
              refine AXd.no rfl rfl rfl (beqTF hg147) ?_
              refine AXd.go rfl (d_pickT rfl hg147 rfl rfl) ?_
              refine AXd.go rfl (d_move rfl) ?_
              refine AXd.no rfl rfl rfl (beqTF rfl) ?_
              refine AXd.no rfl rfl rfl (beqTF rfl) ?_
              refine AXd.no rfl rfl rfl (beqTF rfl) ?_
              refine AXd.go rfl (d_pickT rfl rfl rfl rfl) ?_
              refine AXd.go rfl (d_move rfl) ?_
              refine AXd.no rfl rfl rfl (beqTF rfl) ?_
              refine AXd.no rfl rfl rfl (beqTF rfl) ?_
              refine AXd.no rfl rfl rfl (beqTF rfl) ?_
              refine AXd.go rfl (d_pickT rfl rfl rfl rfl) ?_
              refine AXd.go rfl (d_move rfl) ?_
              refine AXd.no rfl rfl rfl (beqTF rfl) ?_
              refine AXd.no rfl rfl rfl (beqTF rfl) ?_
              refine AXd.no rfl rfl rfl (beqTF rfl) ?_
              refine AXd.go rfl (d_pickT rfl rfl rfl rfl) ?_
              refine AXd.nil (ex_and2 rfl rfl ?_)
              refine AX.condT rfl rfl ?_
              refine AX.seq ?_
              refine AX.region ?_
              refine AXo.go (f := 0) hev (d_assign rfl) ?_
              refine AXo.nil ?_
              refine AX.ret ?_
              refine AX.thenRet ?_
              refine AX.outRet ?_
              refine AX.outRet ?_
              refine AX.leave (e := .ret) (by simp) ?_
              refine AX.outRet ?_
              refine AX.thenRet ?_
              exact ⟨false, .inl rfl⟩
            · skip
              refine AXd.yes rfl rfl rfl (beqFF hg147) rfl (d_move rfl) ?_
              refine AXd.yes rfl rfl rfl (beqFF hg147) rfl (d_byte (m := 2) rfl rfl ty9 rfl (List.getElem?_eq_getElem (by omega))) ?_
              refine AXd.yes rfl rfl rfl (beqFF hg147) rfl (d_ltI rfl rfl) ?_
              refine AXd.go rfl (d_pickF rfl hg147 rfl rfl) ?_
              refine AXd.go rfl (d_move rfl) ?_
              refine AXd.split 152 rfl (fun hg152 => ?_) (fun hg152 => ?_)
              · skip
                refine AXd.no rfl rfl rfl (beqTF hg152) ?_
                refine AXd.no rfl rfl rfl (beqTF hg152) ?_
                refine AXd.no rfl rfl rfl (beqTF hg152) ?_
                refine AXd.go rfl (d_pickT rfl hg152 rfl rfl) ?_
                refine AXd.go rfl (d_move rfl) ?_
                refine AXd.no rfl rfl rfl (beqTF rfl) ?_
                refine AXd.no rfl rfl rfl (beqTF rfl) ?_
                refine AXd.no rfl rfl rfl (beqTF rfl) ?_
                refine AXd.go rfl (d_pickT rfl rfl rfl rfl) ?_
                refine AXd.go rfl (d_move rfl) ?_
                refine AXd.no rfl rfl rfl (beqTF rfl) ?_
                refine AXd.no rfl rfl rfl (beqTF rfl) ?_
                refine AXd.no rfl rfl rfl (beqTF rfl) ?_
                refine AXd.go rfl (d_pickT rfl rfl rfl rfl) ?_
                refine AXd.nil (ex_and2 rfl rfl ?_)
                refine AX.condT rfl rfl ?_
                refine AX.seq ?_
                refine AX.region ?_
                refine AXo.go (f := 0) hev (d_assign rfl) ?_
                refine AXo.nil ?_
                refine AX.ret ?_
                refine AX.thenRet ?_
                refine AX.outRet ?_
                refine AX.outRet ?_
                refine AX.leave (e := .ret) (by simp) ?_
                refine AX.outRet ?_
                refine AX.thenRet ?_
                exact ⟨false, .inl rfl⟩
              · skip
                refine AXd.yes rfl rfl rfl (beqFF hg152) rfl (d_move rfl) ?_
                refine AXd.yes rfl rfl rfl (beqFF hg152) rfl (d_byte (m := 2) rfl rfl ty9 rfl (List.getElem?_eq_getElem (by omega))) ?_
                refine AXd.yes rfl rfl rfl (beqFF hg152) rfl (d_ltI rfl rfl) ?_
                refine AXd.go rfl (d_pickF rfl hg152 rfl rfl) ?_
                refine AXd.go rfl (d_move rfl) ?_
                refine AXd.split 157 rfl (fun hg157 => ?_) (fun hg157 => ?_)
                · skip
                  refine AXd.no rfl rfl rfl (beqTF hg157) ?_
                  refine AXd.no rfl rfl rfl (beqTF hg157) ?_
                  refine AXd.no rfl rfl rfl (beqTF hg157) ?_
                  refine AXd.go rfl (d_pickT rfl hg157 rfl rfl) ?_
                  refine AXd.go rfl (d_move rfl) ?_
                  refine AXd.no rfl rfl rfl (beqTF rfl) ?_
                  refine AXd.no rfl rfl rfl (beqTF rfl) ?_
                  refine AXd.no rfl rfl rfl (beqTF rfl) ?_
                  refine AXd.go rfl (d_pickT rfl rfl rfl rfl) ?_
                  refine AXd.nil (ex_and2 rfl rfl ?_)
                  refine AX.condT rfl rfl ?_
                  refine AX.seq ?_
                  refine AX.region ?_
                  refine AXo.go (f := 0) hev (d_assign rfl) ?_
                  refine AXo.nil ?_
                  refine AX.ret ?_
                  refine AX.thenRet ?_
                  refine AX.outRet ?_
                  refine AX.outRet ?_
                  refine AX.leave (e := .ret) (by simp) ?_
                  refine AX.outRet ?_
                  refine AX.thenRet ?_
                  exact ⟨false, .inl rfl⟩
                · skip
                  refine AXd.yes rfl rfl rfl (beqFF hg157) rfl (d_move rfl) ?_
                  refine AXd.yes rfl rfl rfl (beqFF hg157) rfl (d_byte (m := 3) rfl rfl ty9 rfl (List.getElem?_eq_getElem (by omega))) ?_
                  refine AXd.yes rfl rfl rfl (beqFF hg157) rfl (d_ltI rfl rfl) ?_
                  refine AXd.go rfl (d_pickF rfl hg157 rfl rfl) ?_
                  refine AXd.go rfl (d_move rfl) ?_
                  refine AXd.split 162 rfl (fun hg162 => ?_) (fun hg162 => ?_)
                  · skip
                    refine AXd.no rfl rfl rfl (beqTF hg162) ?_
                    refine AXd.no rfl rfl rfl (beqTF hg162) ?_
                    refine AXd.no rfl rfl rfl (beqTF hg162) ?_
                    refine AXd.go rfl (d_pickT rfl hg162 rfl rfl) ?_
                    refine AXd.nil (ex_and2 rfl rfl ?_)
                    refine AX.condT rfl rfl ?_
                    refine AX.seq ?_
                    refine AX.region ?_
                    refine AXo.go (f := 0) hev (d_assign rfl) ?_
                    refine AXo.nil ?_
                    refine AX.ret ?_
                    refine AX.thenRet ?_
                    refine AX.outRet ?_
                    refine AX.outRet ?_
                    refine AX.leave (e := .ret) (by simp) ?_
                    refine AX.outRet ?_
                    refine AX.thenRet ?_
                    exact ⟨false, .inl rfl⟩
                  · skip
                    refine AXd.yes rfl rfl rfl (beqFF hg162) rfl (d_move rfl) ?_
                    refine AXd.yes rfl rfl rfl (beqFF hg162) rfl (d_byte (m := 3) rfl rfl ty9 rfl (List.getElem?_eq_getElem (by omega))) ?_
                    refine AXd.yes rfl rfl rfl (beqFF hg162) rfl (d_ltI rfl rfl) ?_
                    refine AXd.go rfl (d_pickF rfl hg162 rfl rfl) ?_
                    refine AXd.nil (ex_and2 rfl rfl ?_)
                    refine AX.cond rfl (fun h166 => ?_) (fun h166 => ?_)
                    · skip
                      refine AX.seq ?_
                      refine AX.region ?_
                      refine AXo.go (f := 0) hev (d_assign rfl) ?_
                      refine AXo.nil ?_
                      refine AX.ret ?_
                      refine AX.thenRet ?_
                      refine AX.outRet ?_
                      refine AX.outRet ?_
                      refine AX.leave (e := .ret) (by simp) ?_
                      refine AX.outRet ?_
                      refine AX.thenRet ?_
                      exact ⟨false, .inl rfl⟩
                    · skip
                      refine AX.skip ?_
                      refine AX.region ?_
                      refine AXo.go (f := 0) hev (d_move rfl) ?_
                      refine AXo.go (f := 0) hev ((show Does _ _ _ _ _ _ _ _ _ (.t (.str ((b :: s').drop 4))) _ from d_subS (s := (b :: s')) (m := 4) rfl rfl ty9 rfl (by omega))) ?_
                      refine AXo.go (f := 0) hev (d_assign rfl) ?_
                      refine AXo.nil ?_
                      refine AX.outNormal ?_
                      refine AX.outNormal ?_
                      exact ⟨.inl ⟨((b :: s').drop 4), trivial, by show (((b :: s').drop 4)).length < _; first | (simp; done) | (simp only [List.length_drop, List.length_cons]; omega) | (simp only [List.length_drop, List.length_cons] at *; omega)⟩, rfl, (Re.sq [] ⟨rfl, trivial⟩ trivial (by decide) rfl rfl (by decide))⟩
      · -- 4
        refine AX.region ?_
        refine AXo.go (f := 0) hev (d_move rfl) ?_
        refine AXo.go (f := 0) hev (show Does _ _ _ _ _ _ _ _ _ (.t (.int .u8 4)) _ from d_bin rfl rfl (by kernel_rfl)) ?_
        refine AXo.go (f := 0) hev (show Does _ _ _ _ _ _ _ _ _ (.t (.int .i64 4)) _ from d_conv rfl (fun _ _ _ => by kernel_rfl)) ?_
        refine AXo.go (f := 0) hev (d_assign rfl) ?_
        refine AXo.nil ?_
        refine AX.seq ?_
        refine AX.region ?_
        refine AXo.go (f := 0) hev (d_move rfl) ?_
        refine AXo.go (f := 0) hev (show Does _ _ _ _ _ _ _ _ _ (.t (.int .u8 0)) _ from d_bin rfl rfl (by kernel_rfl)) ?_
        refine AXo.go (f := 0) hev (d_indexTab (m := 0) rfl rfl ty130 rfl ty129 (by decide)) ?_
        refine AXo.go (f := 0) hev (show Does _ _ _ _ _ _ _ _ _ (.t (.agg [.int .u8 128, .int .u8 191])) _ from d_loadT rfl (by kernel_rfl)) ?_
        refine AXo.go (f := 0) hev (d_alloc ty129 rfl rfl) ?_
        refine AXo.go0 (f := 0) hev (d_store rfl rfl (stt ty129 rfl rfl)) ?_
        refine AXo.nil ?_
        refine AX.seq ?_
        refine AX.region ?_
        refine AXo.go (f := 0) hev (d_move rfl) ?_
        refine AXo.nil ?_
        refine AX.block ?_
        refine AX.seq ?_
        refine AX.region ?_
        refine AXo.go (f := 0) hev (d_eqI rfl rfl) ?_
        refine AXo.go (f := 0) hev (d_assign rfl) ?_
        refine AXo.nil ?_
        refine AX.condF rfl (by decide) ?_
        refine AX.seq ?_
        refine AX.region ?_
        refine AXo.go (f := 0) hev (d_eqI rfl rfl) ?_
        refine AXo.go (f := 0) hev (d_assign rfl) ?_
        refine AXo.nil ?_
        refine AX.condF rfl (by decide) ?_
        refine AX.seq ?_
        refine AX.region ?_
        refine AXo.go (f := 0) hev (d_eqI rfl rfl) ?_
        refine AXo.go (f := 0) hev (d_assign rfl) ?_
        refine AXo.nil ?_
        refine AX.condT rfl (by decide) ?_
        refine AX.seq ?_
        refine AX.seq ?_
        refine AX.draw (f := 0) orders hev ?_
        refine AXd.go rfl (d_move rfl) ?_
        refine AXd.go rfl (d_lenS rfl ty9 rfl) ?_
        refine AXd.go rfl (d_ltI rfl rfl) ?_
        refine AXd.go rfl (d_move rfl) ?_
        refine AXd.split 133 rfl (fun hg133 => ?_) (fun hg133 => ?_)
        · skip
          refine AXd.no rfl rfl rfl (beqTF hg133) ?_
          refine AXd.no rfl rfl rfl (beqTF hg133) ?_
          refine AXd.no rfl rfl rfl (beqTF hg133) ?_
          refine AXd.no rfl rfl rfl (beqTF hg133) ?_
          refine AXd.no rfl rfl rfl (beqTF hg133) ?_
          refine AXd.go rfl (d_pickT rfl hg133 rfl rfl) ?_
          refine AXd.go rfl (d_move rfl) ?_
          refine AXd.no rfl rfl rfl (beqTF rfl) ?_
          refine AXd.no rfl rfl rfl (beqTF rfl) ?_
          refine AXd.no rfl rfl rfl (beqTF rfl) ?_
          refine AXd.no rfl rfl rfl (beqTF rfl) ?_
          refine AXd.no rfl rfl rfl (beqTF rfl) ?_
          refine AXd.go rfl (d_pickT rfl rfl rfl rfl) ?_
          refine AXd.go rfl (d_move rfl) ?_
          refine AXd.no rfl rfl rfl (beqTF rfl) ?_
          refine AXd.no rfl rfl rfl (beqTF rfl) ?_
          refine AXd.no rfl rfl rfl (beqTF rfl) ?_
          refine AXd.go rfl (d_pickT rfl rfl rfl rfl) ?_
          refine AXd.go rfl (d_move rfl) ?_
          refine AXd.no rfl rfl rfl (beqTF rfl) ?_
          refine AXd.no rfl rfl rfl (beqTF rfl) ?_
          refine AXd.no rfl rfl rfl (beqTF rfl) ?_
          refine AXd.go rfl (d_pickT rfl rfl rfl rfl) ?_
          refine AXd.go rfl (d_move rfl) ?_
          refine AXd.no rfl rfl rfl (beqTF rfl) ?_
          refine AXd.no rfl rfl rfl (beqTF rfl) ?_
          refine AXd.no rfl rfl rfl (beqTF rfl) ?_
          refine AXd.go rfl (d_pickT rfl rfl rfl rfl) ?_
          refine AXd.go rfl (d_move rfl) ?_
          refine AXd.no rfl rfl rfl (beqTF rfl) ?_
          refine AXd.no rfl rfl rfl (beqTF rfl) ?_
          refine AXd.no rfl rfl rfl (beqTF rfl) ?_
          refine AXd.go rfl (d_pickT rfl rfl rfl rfl) ?_
          refine AXd.nil (ex_and2 rfl rfl ?_)
          refine AX.condT rfl rfl ?_
          refine AX.seq ?_
          refine AX.region ?_
          refine AXo.go (f := 0) hev (d_assign rfl) ?_
          refine AXo.nil ?_
          refine AX.ret ?_
          refine AX.thenRet ?_
          refine AX.outRet ?_
          refine AX.outRet ?_
          refine AX.leave (e := .ret) (by simp) ?_
          refine AX.outRet ?_
          refine AX.thenRet ?_
          exact ⟨false, .inl rfl⟩
        · have hl4 : 4 ≤ (b :: s').length := by have := of_decide_eq_false hg133; omega
          refine AXd.yes rfl rfl rfl (beqFF hg133) rfl (d_move rfl) ?_
          refine AXd.yes rfl rfl rfl (beqFF hg133) rfl (d_byte (m := 1) rfl rfl ty9 rfl (List.getElem?_eq_getElem (by omega))) ?_
          refine AXd.yes rfl rfl rfl (beqFF hg133) rfl (d_fieldAddr rfl fo129_0 rfl) ?_
          refine AXd.yes rfl rfl rfl (beqFF hg133) rfl ((by first | exact d_loadT rfl (ld ty5 rfl rfl) | exact d_load rfl (ld ty5 rfl rfl))) ?_
          refine AXd.yes rfl rfl rfl (beqFF hg133) rfl (d_ltI rfl rfl) ?_
          refine AXd.go rfl (d_pickF rfl hg133 rfl rfl) ?_
          refine AXd.go rfl (d_move rfl) ?_
          refine AXd.split 140 rfl (fun hg140 => ?_) (fun hg140 => ?_)
          · skip
            refine AXd.no rfl rfl rfl (beqTF hg140) ?_
            refine AXd.no rfl rfl rfl (beqTF hg140) ?_
            refine AXd.no rfl rfl rfl (beqTF hg140) ?_
            refine AXd.no rfl rfl rfl (beqTF hg140) ?_
            refine AXd.no rfl rfl rfl (beqTF hg140) ?_
            refine AXd.go rfl (d_pickT rfl hg140 rfl rfl) ?_
            refine AXd.go rfl (d_move rfl) ?_
            refine AXd.no rfl rfl rfl (beqTF rfl) ?_
            refine AXd.no rfl rfl rfl (beqTF rfl) ?_
            refine AXd.no rfl rfl rfl (beqTF rfl) ?_
            refine AXd.go rfl (d_pickT rfl rfl rfl rfl) ?_
            refine AXd.go rfl (d_move rfl) ?_
            refine AXd.no rfl rfl rfl (beqTF rfl) ?_
            refine AXd.no rfl rfl rfl (beqTF rfl) ?_
            refine AXd.no rfl rfl rfl (beqTF rfl) ?_
            refine AXd.go rfl (d_pickT rfl rfl rfl rfl) ?_
            refine AXd.go rfl (d_move rfl) ?_
            refine AXd.no rfl rfl rfl (beqTF rfl) ?_
            refine AXd.no rfl rfl rfl (beqTF rfl) ?_
            refine AXd.no rfl rfl rfl (beqTF rfl) ?_
            refine AXd.go rfl (d_pickT rfl rfl rfl rfl) ?_
            refine AXd.go rfl (d_move rfl) ?_
            refine AXd.no rfl rfl rfl (beqTF rfl) ?_
            refine AXd.no rfl rfl rfl (beqTF rfl) ?_
            refine AXd.no rfl rfl rfl (beqTF rfl) ?_
            refine AXd.go rfl (d_pickT rfl rfl rfl rfl) ?_
            refine AXd.nil (ex_and2 rfl rfl ?_)
            refine AX.condT rfl rfl ?_
            refine AX.seq ?_
            refine AX.region ?_
            refine AXo.go (f := 0) hev (d_assign rfl) ?_
            refine AXo.nil ?_
            refine AX.ret ?_
            refine AX.thenRet ?_
            refine AX.outRet ?_
            refine AX.outRet ?_
            refine AX.leave (e := .ret) (by simp) ?_
            refine AX.outRet ?_
            refine AX.thenRet ?_
            exact ⟨false, .inl rfl⟩
          · skip
            refine AXd.yes rfl rfl rfl (beqFF hg140) rfl (d_fieldAddr rfl fo129_1 rfl) ?_
            refine AXd.yes rfl rfl rfl (beqFF hg140) rfl ((by first | exact d_loadT rfl (ld ty5 rfl rfl) | exact d_load rfl (ld ty5 rfl rfl))) ?_
            refine AXd.yes rfl rfl rfl (beqFF hg140) rfl (d_move rfl) ?_
            refine AXd.yes rfl rfl rfl (beqFF hg140) rfl (d_byte (m := 1) rfl rfl ty9 rfl (List.getElem?_eq_getElem (by omega))) ?_
            refine AXd.yes rfl rfl rfl (beqFF hg140) rfl (d_ltI rfl rfl) ?_
            refine AXd.go rfl (d_pickF rfl hg140 rfl rfl) ?_
            refine AXd.go rfl (d_move rfl) ?_
            refine AXd.split 147 rfl (fun hg147 => ?_) (fun hg147 => ?_)
            · skip
              refine AXd.no rfl rfl rfl (beqTF hg147) ?_
              refine AXd.no rfl rfl rfl (beqTF hg147) ?_
              refine AXd.no rfl rfl rfl (beqTF hg147) ?_
              refine AXd.go rfl (d_pickT rfl hg147 rfl rfl) ?_
              refine AXd.go rfl (d_move rfl) ?_
              refine AXd.no rfl rfl rfl (beqTF rfl) ?_
              refine AXd.no rfl rfl rfl (beqTF rfl) ?_
              refine AXd.no rfl rfl rfl (beqTF rfl) ?_
              refine AXd.go rfl (d_pickT rfl rfl rfl rfl) ?_
              refine AXd.go rfl (d_move rfl) ?_
              refine AXd.no rfl rfl rfl (beqTF rfl) ?_
              refine AXd.no rfl rfl rfl (beqTF rfl) ?_
              refine AXd.no rfl rfl rfl (beqTF rfl) ?_
              refine AXd.go rfl (d_pickT rfl rfl rfl rfl) ?_
              refine AXd.go rfl (d_move rfl) ?_
              refine AXd.no rfl rfl rfl (beqTF rfl) ?_
              refine AXd.no rfl rfl rfl (beqTF rfl) ?_
              refine AXd.no rfl rfl rfl (beqTF rfl) ?_
              refine AXd.go rfl (d_pickT rfl rfl rfl rfl) ?_
              refine AXd.nil (ex_and2 rfl rfl ?_)
              refine AX.condT rfl rfl ?_
              refine AX.seq ?_
              refine AX.region ?_
              refine AXo.go (f := 0) hev (d_assign rfl) ?_
              refine AXo.nil ?_
              refine AX.ret ?_
              refine AX.thenRet ?_
              refine AX.outRet ?_
              refine AX.outRet ?_
              refine AX.leave (e := .ret) (by simp) ?_
              refine AX.outRet ?_
              refine AX.thenRet ?_
              exact ⟨false, .inl rfl⟩
            · skip
              refine AXd.yes rfl rfl rfl (beqFF hg147) rfl (d_move rfl) ?_
              refine AXd.yes rfl rfl rfl (beqFF hg147) rfl (d_byte (m := 2) rfl rfl ty9 rfl (List.getElem?_eq_getElem (by omega))) ?_
              refine AXd.yes rfl rfl rfl (beqFF hg147) rfl (d_ltI rfl rfl) ?_
              refine AXd.go rfl (d_pickF rfl hg147 rfl rfl) ?_
              refine AXd.go rfl (d_move rfl) ?_
              refine AXd.split 152 rfl (fun hg152 => ?_) (fun hg152 => ?_)
              · skip
                refine AXd.no rfl rfl rfl (beqTF hg152) ?_
                refine AXd.no rfl rfl rfl (beqTF hg152) ?_
                refine AXd.no rfl rfl rfl (beqTF hg152) ?_
                refine AXd.go rfl (d_pickT rfl hg152 rfl rfl) ?_
                refine AXd.go rfl (d_move rfl) ?_
                refine AXd.no rfl rfl rfl (beqTF rfl) ?_
                refine AXd.no rfl rfl rfl (beqTF rfl) ?_
                refine AXd.no rfl rfl rfl (beqTF rfl) ?_
                refine AXd.go rfl (d_pickT rfl rfl rfl rfl) ?_
                refine AXd.go rfl (d_move rfl) ?_
                refine AXd.no rfl rfl rfl (beqTF rfl) ?_
                refine AXd.no rfl rfl rfl (beqTF rfl) ?_
                refine AXd.no rfl rfl rfl (beqTF rfl) ?_
                refine AXd.go rfl (d_pickT rfl rfl rfl rfl) ?_
                refine AXd.nil (ex_and2 rfl rfl ?_)
                refine AX.condT rfl rfl ?_
                refine AX.seq ?_
                refine AX.region ?_
                refine AXo.go (f := 0) hev (d_assign rfl) ?_
                refine AXo.nil ?_
                refine AX.ret ?_
                refine AX.thenRet ?_
                refine AX.outRet ?_
                refine AX.outRet ?_
                refine AX.leave (e := .ret) (by simp) ?_
                refine AX.outRet ?_
                refine AX.thenRet ?_
                exact ⟨false, .inl rfl⟩
              · skip
                refine AXd.yes rfl rfl rfl (beqFF hg152) rfl (d_move rfl) ?_
                refine AXd.yes rfl rfl rfl (beqFF hg152) rfl (d_byte (m := 2) rfl rfl ty9 rfl (List.getElem?_eq_getElem (by omega))) ?_
                refine AXd.yes rfl rfl rfl (beqFF hg152) rfl (d_ltI rfl rfl) ?_
                refine AXd.go rfl (d_pickF rfl hg152 rfl rfl) ?_
                refine AXd.go rfl (d_move rfl) ?_
                refine AXd.split 157 rfl (fun hg157 => ?_) (fun hg157 => ?_)
                · skip
                  refine AXd.no rfl rfl rfl (beqTF hg157) ?_
                  refine AXd.no rfl rfl rfl (beqTF hg157) ?_
                  refine AXd.no rfl rfl rfl (beqTF hg157) ?_
                  refine AXd.go rfl (d_pickT rfl hg157 rfl rfl) ?_
                  refine AXd.go rfl (d_move rfl) ?_
                  refine AXd.no rfl rfl rfl (beqTF rfl) ?_
                  refine AXd.no rfl rfl rfl (beqTF rfl) ?_
                  refine AXd.no rfl rfl rfl (beqTF rfl) ?_
                  refine AXd.go rfl (d_pickT rfl rfl rfl rfl) ?_
                  refine AXd.nil (ex_and2 rfl rfl ?_)
                  refine AX.condT rfl rfl ?_
                  refine AX.seq ?_
                  refine AX.region ?_
                  refine AXo.go (f := 0) hev (d_assign rfl) ?_
                  refine AXo.nil ?_
                  refine AX.ret ?_
                  refine AX.thenRet ?_
                  refine AX.outRet ?_
                  refine AX.outRet ?_
                  refine AX.leave (e := .ret) (by simp) ?_
                  refine AX.outRet ?_
                  refine AX.thenRet ?_
                  exact ⟨false, .inl rfl⟩
                · skip
                  refine AXd.yes rfl rfl rfl (beqFF hg157) rfl (d_move rfl) ?_
                  refine AXd.yes rfl rfl rfl (beqFF hg157) rfl (d_byte (m := 3) rfl rfl ty9 rfl (List.getElem?_eq_getElem (by omega))) ?_
                  refine AXd.yes rfl rfl rfl (beqFF hg157) rfl (d_ltI rfl rfl) ?_
                  refine AXd.go rfl (d_pickF rfl hg157 rfl rfl) ?_
                  refine AXd.go rfl (d_move rfl) ?_
                  refine AXd.split 162 rfl (fun hg162 => ?_) (fun hg162 => ?_)
                  · skip
                    refine AXd.no rfl rfl rfl (beqTF hg162) ?_
                    refine AXd.no rfl rfl rfl (beqTF hg162) ?_
                    refine AXd.no rfl rfl rfl (beqTF hg162) ?_
                    refine AXd.go rfl (d_pickT rfl hg162 rfl rfl) ?_
                    refine AXd.nil (ex_and2 rfl rfl ?_)
                    refine AX.condT rfl rfl ?_
                    refine AX.seq ?_
                    refine AX.region ?_
                    refine AXo.go (f := 0) hev (d_assign rfl) ?_
                    refine AXo.nil ?_
                    refine AX.ret ?_
                    refine AX.thenRet ?_
                    refine AX.outRet ?_
                    refine AX.outRet ?_
                    refine AX.leave (e := .ret) (by simp) ?_
                    refine AX.outRet ?_
                    refine AX.thenRet ?_
                    exact ⟨false, .inl rfl⟩
                  · skip
                    refine AXd.yes rfl rfl rfl (beqFF hg162) rfl (d_move rfl) ?_
                    refine AXd.yes rfl rfl rfl (beqFF hg162) rfl (d_byte (m := 3) rfl rfl ty9 rfl (List.getElem?_eq_getElem (by omega))) ?_
                    refine AXd.yes rfl rfl rfl (beqFF hg162) rfl (d_ltI rfl rfl) ?_
                    refine AXd.go rfl (d_pickF rfl hg162 rfl rfl) ?_
                    refine AXd.nil (ex_and2 rfl rfl ?_)
                    refine AX.cond rfl (fun h166 => ?_) (fun h166 => ?_)
                    · skip
                      refine AX.seq ?_
                      refine AX.region ?_
                      refine AXo.go (f := 0) hev (d_assign rfl) ?_
                      refine AXo.nil ?_
                      refine AX.ret ?_
                      refine AX.thenRet ?_
                      refine AX.outRet ?_
                      refine AX.outRet ?_
                      refine AX.leave (e := .ret) (by simp) ?_
                      refine AX.outRet ?_
                      refine AX.thenRet ?_
                      exact ⟨false, .inl rfl⟩
                    · skip
                      refine AX.skip ?_
                      refine AX.region ?_
                      refine AXo.go (f := 0) hev (d_move rfl) ?_
                      refine AXo.go (f := 0) hev ((show Does _ _ _ _ _ _ _ _ _ (.t (.str ((b :: s').drop 4))) _ from d_subS (s := (b :: s')) (m := 4) rfl rfl ty9 rfl (by omega))) ?_
                      refine AXo.go (f := 0) hev (d_assign rfl) ?_
                      refine AXo.nil ?_
                      refine AX.outNormal ?_
                      refine AX.outNormal ?_
                      exact ⟨.inl ⟨((b :: s').drop 4), trivial, by show (((b :: s').drop 4)).length < _; first | (simp; done) | (simp only [List.length_drop, List.length_cons]; omega) | (simp only [List.length_drop, List.length_cons] at *; omega)⟩, rfl, (Re.sq [] ⟨rfl, trivial⟩ trivial (by decide) rfl rfl (by decide))⟩
      · -- 68
        refine AX.region ?_
        refine AXo.go (f := 0) hev (d_move rfl) ?_
        refine AXo.go (f := 0) hev (show Does _ _ _ _ _ _ _ _ _ (.t (.int .u8 4)) _ from d_bin rfl rfl (by kernel_rfl)) ?_
        refine AXo.go (f := 0) hev (show Does _ _ _ _ _ _ _ _ _ (.t (.int .i64 4)) _ from d_conv rfl (fun _ _ _ => by kernel_rfl)) ?_
        refine AXo.go (f := 0) hev (d_assign rfl) ?_
        refine AXo.nil ?_
        refine AX.seq ?_
        refine AX.region ?_
        refine AXo.go (f := 0) hev (d_move rfl) ?_
        refine AXo.go (f := 0) hev (show Does _ _ _ _ _ _ _ _ _ (.t (.int .u8 4)) _ from d_bin rfl rfl (by kernel_rfl)) ?_
        refine AXo.go (f := 0) hev (d_indexTab (m := 4) rfl rfl ty130 rfl ty129 (by decide)) ?_
        refine AXo.go (f := 0) hev (show Does _ _ _ _ _ _ _ _ _ (.t (.agg [.int .u8 128, .int .u8 143])) _ from d_loadT rfl (by kernel_rfl)) ?_
        refine AXo.go (f := 0) hev (d_alloc ty129 rfl rfl) ?_
        refine AXo.go0 (f := 0) hev (d_store rfl rfl (stt ty129 rfl rfl)) ?_
        refine AXo.nil ?_
        refine AX.seq ?_
        refine AX.region ?_
        refine AXo.go (f := 0) hev (d_move rfl) ?_
        refine AXo.nil ?_
        refine AX.block ?_
        refine AX.seq ?_
        refine AX.region ?_
        refine AXo.go (f := 0) hev (d_eqI rfl rfl) ?_
        refine AXo.go (f := 0) hev (d_assign rfl) ?_
        refine AXo.nil ?_
        refine AX.condF rfl (by decide) ?_
        refine AX.seq ?_
        refine AX.region ?_
        refine AXo.go (f := 0) hev (d_eqI rfl rfl) ?_
        refine AXo.go (f := 0) hev (d_assign rfl) ?_
        refine AXo.nil ?_
        refine AX.condF rfl (by decide) ?_
        refine AX.seq ?_
        refine AX.region ?_
        refine AXo.go (f := 0) hev (d_eqI rfl rfl) ?_
        refine AXo.go (f := 0) hev (d_assign rfl) ?_
        refine AXo.nil ?_
        refine AX.condT rfl (by decide) ?_
        refine AX.seq ?_
        refine AX.seq ?_
        refine AX.draw (f := 0) orders hev ?_
        refine AXd.go rfl (d_move rfl) ?_
        refine AXd.go rfl (d_lenS rfl ty9 rfl) ?_
        refine AXd.go rfl (d_ltI rfl rfl) ?_
        refine AXd.go rfl (d_move rfl) ?_
        refine AXd.split 133 rfl (fun hg133 => ?_) (fun hg133 => ?_)
        · skip
          refine AXd.no rfl rfl rfl (beqTF hg133) ?_
          refine AXd.no rfl rfl rfl (beqTF hg133) ?_
          refine AXd.no rfl rfl rfl (beqTF hg133) ?_
          refine AXd.no rfl rfl rfl (beqTF hg133) ?_
          refine AXd.no rfl rfl rfl (beqTF hg133) ?_
          refine AXd.go rfl (d_pickT rfl hg133 rfl rfl) ?_
          refine AXd.go rfl (d_move rfl) ?_
          refine AXd.no rfl rfl rfl (beqTF rfl) ?_
          refine AXd.no rfl rfl rfl (beqTF rfl) ?_
          refine AXd.no rfl rfl rfl (beqTF rfl) ?_
          refine AXd.no rfl rfl rfl (beqTF rfl) ?_
          refine AXd.no rfl rfl rfl (beqTF rfl) ?_
          refine AXd.go rfl (d_pickT rfl rfl rfl rfl) ?_
          refine AXd.go rfl (d_move rfl) ?_
          refine AXd.no rfl rfl rfl (beqTF rfl) ?_
          refine AXd.no rfl rfl rfl (beqTF rfl) ?_
          refine AXd.no rfl rfl rfl (beqTF rfl) ?_
          refine AXd.go rfl (d_pickT rfl rfl rfl rfl) ?_
          refine AXd.go rfl (d_move rfl) ?_
          refine AXd.no rfl rfl rfl (beqTF rfl) ?_
          refine AXd.no rfl rfl rfl (beqTF rfl) ?_
          refine AXd.no rfl rfl rfl (beqTF rfl) ?_
          refine AXd.go rfl (d_pickT rfl rfl rfl rfl) ?_
          refine AXd.go rfl (d_move rfl) ?_
          refine AXd.no rfl rfl rfl (beqTF rfl) ?_
          refine AXd.no rfl rfl rfl (beqTF rfl) ?_
          refine AXd.no rfl rfl rfl (beqTF rfl) ?_
          refine AXd.go rfl (d_pickT rfl rfl rfl rfl) ?_
          refine AXd.go rfl (d_move rfl) ?_
          refine AXd.no rfl rfl rfl (beqTF rfl) ?_
          refine AXd.no rfl rfl rfl (beqTF rfl) ?_
          refine AXd.no rfl rfl rfl (beqTF rfl) ?_
          refine AXd.go rfl (d_pickT rfl rfl rfl rfl) ?_
          refine AXd.nil (ex_and2 rfl rfl ?_)
          refine AX.condT rfl rfl ?_
          refine AX.seq ?_
          refine AX.region ?_
          refine AXo.go (f := 0) hev (d_assign rfl) ?_
          refine AXo.nil ?_
          refine AX.ret ?_
          refine AX.thenRet ?_
          refine AX.outRet ?_
          refine AX.outRet ?_
          refine AX.leave (e := .ret) (by simp) ?_
          refine AX.outRet ?_
          refine AX.thenRet ?_
          exact ⟨false, .inl rfl⟩
        · have hl4 : 4 ≤ (b :: s').length := by have := of_decide_eq_false hg133; omega
          refine AXd.yes rfl rfl rfl (beqFF hg133) rfl (d_move rfl) ?_
          refine AXd.yes rfl rfl rfl (beqFF hg133) rfl (d_byte (m := 1) rfl rfl ty9 rfl (List.getElem?_eq_getElem (by omega))) ?_
          refine AXd.yes rfl rfl rfl (beqFF hg133) rfl (d_fieldAddr rfl fo129_0 rfl) ?_
          refine AXd.yes rfl rfl rfl (beqFF hg133) rfl ((by first | exact d_loadT rfl (ld ty5 rfl rfl) | exact d_load rfl (ld ty5 rfl rfl))) ?_
          refine AXd.yes rfl rfl rfl (beqFF hg133) rfl (d_ltI rfl rfl) ?_
          refine AXd.go rfl (d_pickF rfl hg133 rfl rfl) ?_
          refine AXd.go rfl (d_move rfl) ?_
          refine AXd.split 140 rfl (fun hg140 => ?_) (fun hg140 => ?_)
          · skip
            refine AXd.no rfl rfl rfl (beqTF hg140) ?_
            refine AXd.no rfl rfl rfl (beqTF hg140) ?_
            refine AXd.no rfl rfl rfl (beqTF hg140) ?_
            refine AXd.no rfl rfl rfl (beqTF hg140) ?_
            refine AXd.no rfl rfl rfl (beqTF hg140) ?_
            refine AXd.go rfl (d_pickT rfl hg140 rfl rfl) ?_
            refine AXd.go rfl (d_move rfl) ?_
            refine AXd.no rfl rfl rfl (beqTF rfl) ?_
            refine AXd.no rfl rfl rfl (beqTF rfl) ?_
            refine AXd.no rfl rfl rfl (beqTF rfl) ?_
            refine AXd.go rfl (d_pickT rfl rfl rfl rfl) ?_
            refine AXd.go rfl (d_move rfl) ?_
            refine AXd.no rfl rfl rfl (beqTF rfl) ?_
            refine AXd.no rfl rfl rfl (beqTF rfl) ?_
            refine AXd.no rfl rfl rfl (beqTF rfl) ?_
            refine AXd.go rfl (d_pickT rfl rfl rfl rfl) ?_
            refine AXd.go rfl (d_move rfl) ?_
            refine AXd.no rfl rfl rfl (beqTF rfl) ?_
            refine AXd.no rfl rfl rfl (beqTF rfl) ?_
            refine AXd.no rfl rfl rfl (beqTF rfl) ?_
            refine AXd.go rfl (d_pickT rfl rfl rfl rfl) ?_
            refine AXd.go rfl (d_move rfl) ?_
            refine AXd.no rfl rfl rfl (beqTF rfl) ?_
            refine AXd.no rfl rfl rfl (beqTF rfl) ?_
            refine AXd.no rfl rfl rfl (beqTF rfl) ?_
            refine AXd.go rfl (d_pickT rfl rfl rfl rfl) ?_
            refine AXd.nil (ex_and2 rfl rfl ?_)
            refine AX.condT rfl rfl ?_
            refine AX.seq ?_
            refine AX.region ?_
            refine AXo.go (f := 0) hev (d_assign rfl) ?_
            refine AXo.nil ?_
            refine AX.ret ?_
            refine AX.thenRet ?_
            refine AX.outRet ?_
            refine AX.outRet ?_
            refine AX.leave (e := .ret) (by simp) ?_
            refine AX.outRet ?_
            refine AX.thenRet ?_
            exact ⟨false, .inl rfl⟩
          · skip
            refine AXd.yes rfl rfl rfl (beqFF hg140) rfl (d_fieldAddr rfl fo129_1 rfl) ?_
            refine AXd.yes rfl rfl rfl (beqFF hg140) rfl ((by first | exact d_loadT rfl (ld ty5 rfl rfl) | exact d_load rfl (ld ty5 rfl rfl))) ?_
            refine AXd.yes rfl rfl rfl (beqFF hg140) rfl (d_move rfl) ?_
            refine AXd.yes rfl rfl rfl (beqFF hg140) rfl (d_byte (m := 1) rfl rfl ty9 rfl (List.getElem?_eq_getElem (by omega))) ?_
            refine AXd.yes rfl rfl rfl (beqFF hg140) rfl (d_ltI rfl rfl) ?_
            refine AXd.go rfl (d_pickF rfl hg140 rfl rfl) ?_
            refine AXd.go rfl (d_move rfl) ?_
            refine AXd.split 147 rfl (fun hg147 => ?_) (fun hg147 => ?_)
            · skip
              refine AXd.no rfl rfl rfl (beqTF hg147) ?_
              refine AXd.no rfl rfl rfl (beqTF hg147) ?_
              refine AXd.no rfl rfl rfl (beqTF hg147) ?_
              refine AXd.go rfl (d_pickT rfl hg147 rfl rfl) ?_
              refine AXd.go rfl (d_move rfl) ?_
              refine AXd.no rfl rfl rfl (beqTF rfl) ?_
              refine AXd.no rfl rfl rfl (beqTF rfl) ?_
              refine AXd.no rfl rfl rfl (beqTF rfl) ?_
              refine AXd.go rfl (d_pickT rfl rfl rfl rfl) ?_
              refine AXd.go rfl (d_move rfl) ?_
              refine AXd.no rfl rfl rfl (beqTF rfl) ?_
              refine AXd.no rfl rfl rfl (beqTF rfl) ?_
              refine AXd.no rfl rfl rfl (beqTF rfl) ?_
              refine AXd.go rfl (d_pickT rfl rfl rfl rfl) ?_
              refine AXd.go rfl (d_move rfl) ?_
              refine AXd.no rfl rfl rfl (beqTF rfl) ?_
              refine AXd.no rfl rfl rfl (beqTF rfl) ?_
              refine AXd.no rfl rfl rfl (beqTF rfl) ?_
              refine AXd.go rfl (d_pickT rfl rfl rfl rfl) ?_
              refine AXd.nil (ex_and2 rfl rfl ?_)
              refine AX.condT rfl rfl ?_
              refine AX.seq ?_
              refine AX.region ?_
              refine AXo.go (f := 0) hev (d_assign rfl) ?_
              refine AXo.nil ?_
              refine AX.ret ?_
              refine AX.thenRet ?_
              refine AX.outRet ?_
              refine AX.outRet ?_
              refine AX.leave (e := .ret) (by simp) ?_
              refine AX.outRet ?_
              refine AX.thenRet ?_
              exact ⟨false, .inl rfl⟩
            · skip
              refine AXd.yes rfl rfl rfl (beqFF hg147) rfl (d_move rfl) ?_
              refine AXd.yes rfl rfl rfl (beqFF hg147) rfl (d_byte (m := 2) rfl rfl ty9 rfl (List.getElem?_eq_getElem (by omega))) ?_
              refine AXd.yes rfl rfl rfl (beqFF hg147) rfl (d_ltI rfl rfl) ?_
              refine AXd.go rfl (d_pickF rfl hg147 rfl rfl) ?_
              refine AXd.go rfl (d_move rfl) ?_
              refine AXd.split 152 rfl (fun hg152 => ?_) (fun hg152 => ?_)
              · skip
                refine AXd.no rfl rfl rfl (beqTF hg152) ?_
                refine AXd.no rfl rfl rfl (beqTF hg152) ?_
                refine AXd.no rfl rfl rfl (beqTF hg152) ?_
                refine AXd.go rfl (d_pickT rfl hg152 rfl rfl) ?_
                refine AXd.go rfl (d_move rfl) ?_
                refine AXd.no rfl rfl rfl (beqTF rfl) ?_
                refine AXd.no rfl rfl rfl (beqTF rfl) ?_
                refine AXd.no rfl rfl rfl (beqTF rfl) ?_
                refine AXd.go rfl (d_pickT rfl rfl rfl rfl) ?_
                refine AXd.go rfl (d_move rfl) ?_
                refine AXd.no rfl rfl rfl (beqTF rfl) ?_
                refine AXd.no rfl rfl rfl (beqTF rfl) ?_
                refine AXd.no rfl rfl rfl (beqTF rfl) ?_
                refine AXd.go rfl (d_pickT rfl rfl rfl rfl) ?_
                refine AXd.nil (ex_and2 rfl rfl ?_)
                refine AX.condT rfl rfl ?_
                refine AX.seq ?_
                refine AX.region ?_
                refine AXo.go (f := 0) hev (d_assign rfl) ?_
                refine AXo.nil ?_
                refine AX.ret ?_
                refine AX.thenRet ?_
                refine AX.outRet ?_
                refine AX.outRet ?_
                refine AX.leave (e := .ret) (by simp) ?_
                refine AX.outRet ?_
                refine AX.thenRet ?_
                exact ⟨false, .inl rfl⟩
              · skip
                refine AXd.yes rfl rfl rfl (beqFF hg152) rfl (d_move rfl) ?_
                refine AXd.yes rfl rfl rfl (beqFF hg152) rfl (d_byte (m := 2) rfl rfl ty9 rfl (List.getElem?_eq_getElem (by omega))) ?_
                refine AXd.yes rfl rfl rfl (beqFF hg152) rfl (d_ltI rfl rfl) ?_
                refine AXd.go rfl (d_pickF rfl hg152 rfl rfl) ?_
                refine AXd.go rfl (d_move rfl) ?_
                refine AXd.split 157 rfl (fun hg157 => ?_) (fun hg157 => ?_)
                · skip
                  refine AXd.no rfl rfl rfl (beqTF hg157) ?_
                  refine AXd.no rfl rfl rfl (beqTF hg157) ?_
                  refine AXd.no rfl rfl rfl (beqTF hg157) ?_
                  refine AXd.go rfl (d_pickT rfl hg157 rfl rfl) ?_
                  refine AXd.go rfl (d_move rfl) ?_
                  refine AXd.no rfl rfl rfl (beqTF rfl) ?_
                  refine AXd.no rfl rfl rfl (beqTF rfl) ?_
                  refine AXd.no rfl rfl rfl (beqTF rfl) ?_
                  refine AXd.go rfl (d_pickT rfl rfl rfl rfl) ?_
                  refine AXd.nil (ex_and2 rfl rfl ?_)
                  refine AX.condT rfl rfl ?_
                  refine AX.seq ?_
                  refine AX.region ?_
                  refine AXo.go (f := 0) hev (d_assign rfl) ?_
                  refine AXo.nil ?_
                  refine AX.ret ?_
                  refine AX.thenRet ?_
                  refine AX.outRet ?_
                  refine AX.outRet ?_
                  refine AX.leave (e := .ret) (by simp) ?_
                  refine AX.outRet ?_
                  refine AX.thenRet ?_
                  exact ⟨false, .inl rfl⟩
                · skip
                  refine AXd.yes rfl rfl rfl (beqFF hg157) rfl (d_move rfl) ?_
                  refine AXd.yes rfl rfl rfl (beqFF hg157) rfl (d_byte (m := 3) rfl rfl ty9 rfl (List.getElem?_eq_getElem (by omega))) ?_
                  refine AXd.yes rfl rfl rfl (beqFF hg157) rfl (d_ltI rfl rfl) ?_
                  refine AXd.go rfl (d_pickF rfl hg157 rfl rfl) ?_
                  refine AXd.go rfl (d_move rfl) ?_
                  refine AXd.split 162 rfl (fun hg162 => ?_) (fun hg162 => ?_)
                  · skip
                    refine AXd.no rfl rfl rfl (beqTF hg162) ?_
                    refine AXd.no rfl rfl rfl (beqTF hg162) ?_
                    refine AXd.no rfl rfl rfl (beqTF hg162) ?_
                    refine AXd.go rfl (d_pickT rfl hg162 rfl rfl) ?_
                    refine AXd.nil (ex_and2 rfl rfl ?_)
                    refine AX.condT rfl rfl ?_
                    refine AX.seq ?_
                    refine AX.region ?_
                    refine AXo.go (f := 0) hev (d_assign rfl) ?_
                    refine AXo.nil ?_
                    refine AX.ret ?_
                    refine AX.thenRet ?_
                    refine AX.outRet ?_
                    refine AX.outRet ?_
                    refine AX.leave (e := .ret) (by simp) ?_
                    refine AX.outRet ?_
                    refine AX.thenRet ?_
                    exact ⟨false, .inl rfl⟩
                  · skip
                    refine AXd.yes rfl rfl rfl (beqFF hg162) rfl (d_move rfl) ?_
                    refine AXd.yes rfl rfl rfl (beqFF hg162) rfl (d_byte (m := 3) rfl rfl ty9 rfl (List.getElem?_eq_getElem (by omega))) ?_
                    refine AXd.yes rfl rfl rfl (beqFF hg162) rfl (d_ltI rfl rfl) ?_
                    refine AXd.go rfl (d_pickF rfl hg162 rfl rfl) ?_
                    refine AXd.nil (ex_and2 rfl rfl ?_)
                    refine AX.cond rfl (fun h166 => ?_) (fun h166 => ?_)
                    · skip
                      refine AX.seq ?_
                      refine AX.region ?_
                      refine AXo.go (f := 0) hev (d_assign rfl) ?_
                      refine AXo.nil ?_
                      refine AX.ret ?_
                      refine AX.thenRet ?_
                      refine AX.outRet ?_
                      refine AX.outRet ?_
                      refine AX.leave (e := .ret) (by simp) ?_
                      refine AX.outRet ?_
                      refine AX.thenRet ?_
                      exact ⟨false, .inl rfl⟩
                    · skip
                      refine AX.skip ?_
                      refine AX.region ?_
                      refine AXo.go (f := 0) hev (d_move rfl) ?_
                      refine AXo.go (f := 0) hev ((show Does _ _ _ _ _ _ _ _ _ (.t (.str ((b :: s').drop 4))) _ from d_subS (s := (b :: s')) (m := 4) rfl rfl ty9 rfl (by omega))) ?_
                      refine AXo.go (f := 0) hev (d_assign rfl) ?_
                      refine AXo.nil ?_
                      refine AX.outNormal ?_
                      refine AX.outNormal ?_
                      exact ⟨.inl ⟨((b :: s').drop 4), trivial, by show (((b :: s').drop 4)).length < _; first | (simp; done) | (simp only [List.length_drop, List.length_cons]; omega) | (simp only [List.length_drop, List.length_cons] at *; omega)⟩, rfl, (Re.sq [] ⟨rfl, trivial⟩ trivial (by decide) rfl rfl (by decide))⟩
  · skip
    refine AX.exit ?_
    refine AX.thenExit ?_
    refine AX.leave (e := .exit 0) (by simp) ?_
    refine AX.outHere ?_
    refine AX.seq ?_
    refine AX.region ?_
    refine AXo.go (f := 0) hev (d_assign rfl) ?_
    refine AXo.nil ?_
    refine AX.ret ?_
    exact ⟨true, .inl rfl⟩
end
end Go.Proofs.YtijfhoelihclbaaGreatDoor.w
