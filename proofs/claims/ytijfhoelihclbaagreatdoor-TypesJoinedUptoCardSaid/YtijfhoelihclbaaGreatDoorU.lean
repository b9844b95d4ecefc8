/- What two types are both, told exactly. -/
import Derived.Test.YtijfhoelihclbaaGreatDoorT
namespace Go.Proofs.YtijfhoelihclbaaGreatDoor.w
open Go Go.Abs Go.Abs.Ty
set_option linter.unusedVariables false
set_option maxRecDepth 100000
set_option maxHeartbeats 2000000
noncomputable section
theorem bl45 {m : Int} : bld (cf m).P 45 = some ([.t (.str []), .t (.int .u8 0), .t (.str []), .nils, .nils], [(0, 1), (1, 4)]) := by kernel_rfl

theorem uni_os {D : Tree → Prop} (hform : Form D) {os : List Tree} (h : ∀ o ∈ os, D o) : Uni true 4 os := fun o ho => by
  obtain ⟨k, s, o1, b1, rfl, _⟩ := hform o (h o ho)
  exact ⟨rfl, rfl, rfl⟩
theorem uni_bs {D : Tree → Prop} (hform : Form D) {bs : List Tree} (h : Ats D bs) : Uni true 5 bs := fun e he => by
  obtain ⟨nm, r, rfl, hd⟩ := h e he
  obtain ⟨k, s, o1, b1, er, _⟩ := hform _ hd
  obtain rfl := Tree.agg.inj er
  exact ⟨rfl, rfl, rfl⟩
theorem own_step (m : Int) (D : Tree → Prop) (hform : Form D) (hO : ∀ x, D x → R1 (cf m) 20 x x) (x : Tree) (hx : Step D x) : R1 (cf m) 20 x x := by
  obtain ⟨k, s, os, bs, rfl, l1, l2, h1, h2⟩ := hx
  have u1 := uni_os hform h1
  have u2 := uni_bs hform h2
  rcases os with _ | ⟨o, os⟩ <;> rcases bs with _ | ⟨b, bs⟩
  · exact own_00 m D hform hO k s
  · exact own_01 m D hform hO k s _ (by simp) l2 h2 u2
  · exact own_10 m D hform hO k s _ (by simp) l1 h1 u1
  · exact own_11 m D hform hO k s _ (by simp) l1 h1 u1 _ (by simp) l2 h2 u2
theorem own_ty (m : Int) : ∀ n x, Dp n x → R1 (cf m) 20 x x
  | 0, x, hx => by subst hx; exact own_step m _ form0 (fun x h => h.elim) ty0 step0
  | n + 1, x, hx => own_step m (Dp n) (Dp.formD n) (own_ty m n) x hx

theorem joinAs_snoc {J : Tree → Tree → Tree × Int} : ∀ {xs ys l : List Tree} {x y : Tree}, xs.length = ys.length → joinAs J xs ys = some l → joinAs J (xs ++ [x]) (ys ++ [y]) = if (J (atT x) (atT y)).2 = 0 ∧ atN x = atN y then some (l ++ [mkA (atN x) (J (atT x) (atT y)).1]) else none
  | [], [], l, x, y, _, h => by
    simp only [joinAs, Option.some.injEq] at h
    subst h
    simp only [List.nil_append, joinAs]
    split <;> rfl
  | a :: xs, b :: ys, l, x, y, hl, h => by
    simp only [joinAs] at h
    split at h
    · rename_i hc
      cases hr : joinAs J xs ys with
      | none => rw [hr] at h; simp at h
      | some l' =>
        rw [hr] at h
        simp only [Option.map_some, Option.some.injEq] at h
        subst h
        have ih := joinAs_snoc (x := x) (y := y) (by simpa using hl) hr
        simp only [List.cons_append, joinAs, if_pos hc, ih]
        split <;> rfl
    · simp at h
  | [], _ :: _, _, _, _, hl, _ => by simp at hl
  | _ :: _, [], _, _, _, hl, _ => by simp at hl
theorem joinAs_front {J : Tree → Tree → Tree × Int} : ∀ {xs ys : List Tree} {n : Nat}, xs.length = ys.length → joinAs J (xs.take n) (ys.take n) = none → joinAs J xs ys = none
  | [], [], n, _, h => by simp [joinAs] at h
  | a :: xs, b :: ys, 0, _, h => by simp [joinAs] at h
  | a :: xs, b :: ys, n + 1, hl, h => by
    simp only [List.take_succ_cons, joinAs] at h ⊢
    split at h
    · rename_i hc
      rw [if_pos hc]
      cases hr : joinAs J (xs.take n) (ys.take n) with
      | some l => rw [hr] at h; simp at h
      | none => rw [joinAs_front (by simpa using hl) hr]; rfl
    · rename_i hc; rw [if_neg hc]
  | [], _ :: _, _, hl, _ => by simp at hl
  | _ :: _, [], _, hl, _ => by simp at hl
theorem joinAs_step {J : Tree → Tree → Tree × Int} {xs ys acc : List Tree} {i : Nat} {x y : Tree} (hl : xs.length = ys.length) (hx : xs[i]? = some x) (hy : ys[i]? = some y) (h : joinAs J (xs.take i) (ys.take i) = some acc) :
    joinAs J (xs.take (i + 1)) (ys.take (i + 1)) = if (J (atT x) (atT y)).2 = 0 ∧ atN x = atN y then some (acc ++ [mkA (atN x) (J (atT x) (atT y)).1]) else none := by
  rw [take_snoc hx, take_snoc hy]
  exact joinAs_snoc (by simp [hl]) h
theorem joinAs_good {J : Tree → Tree → Tree × Int} {xs ys acc : List Tree} {i : Nat} {n n2 : List UInt8} {r r2 cs : List Tree} (hl : xs.length = ys.length) (hx : xs[i]? = some (.agg (.str n :: r))) (hy : ys[i]? = some (.agg (.str n2 :: r2))) (h : joinAs J (xs.take i) (ys.take i) = some acc)
    (hw : (J (.agg r) (.agg r2)).2 = 0) (hn : n = n2) (e : (J (.agg r) (.agg r2)).1 = .agg cs) : joinAs J (xs.take (i + 1)) (ys.take (i + 1)) = some (acc ++ [.agg (.str n :: cs)]) := by
  rw [joinAs_step hl hx hy h]
  have : (J (atT (.agg (.str n :: r))) (atT (.agg (.str n2 :: r2)))).2 = 0 ∧ atN (.agg (.str n :: r)) = atN (.agg (.str n2 :: r2)) := ⟨hw, hn⟩
  rw [if_pos this]
  show some (acc ++ [mkA n (J (.agg r) (.agg r2)).1]) = _
  rw [e]; rfl
theorem joinAs_bad {J : Tree → Tree → Tree × Int} {xs ys acc : List Tree} {i : Nat} {n n2 : List UInt8} {r r2 : List Tree} (hl : xs.length = ys.length) (hx : xs[i]? = some (.agg (.str n :: r))) (hy : ys[i]? = some (.agg (.str n2 :: r2))) (h : joinAs J (xs.take i) (ys.take i) = some acc)
    (hw : (J (.agg r) (.agg r2)).2 ≠ 0 ∨ n ≠ n2) : joinAs J xs ys = none := joinAs_front (n := i + 1) hl (by
  rw [joinAs_step hl hx hy h]
  have : ¬ ((J (atT (.agg (.str n :: r))) (atT (.agg (.str n2 :: r2)))).2 = 0 ∧ atN (.agg (.str n :: r)) = atN (.agg (.str n2 :: r2))) := fun q => hw.elim (fun h => h q.1) (fun h => h q.2)
  rw [if_neg this])
theorem joinAs_whole {J : Tree → Tree → Tree × Int} {xs ys acc : List Tree} {i : Nat} (hl : xs.length = ys.length) (hi : i = xs.length) (h : joinAs J (xs.take i) (ys.take i) = some acc) : joinAs J xs ys = some acc := by
  subst hi
  rwa [List.take_length, hl, List.take_length] at h

theorem join_at (m : Int) (D SD : Tree → Prop) (J : Tree → Tree → Tree × Int) (hform : Form D) (hJ : ∀ x y, D x → D y → R2 (cf m) 12 x y (.tup [(J x y).1, .int .i64 (J x y).2])) (hJf : ∀ x y, D x → D y → ∃ k s os bs, (J x y).1 = mkTy k s os bs)
    (hO : ∀ x, SD x → R1 (cf m) 20 x x) (hOf : ∀ x, SD x → R1 (cf m) 46 x (ofT x)) (k : Int) (s : List UInt8) (os bs : List Tree) (k2 : Int) (s2 : List UInt8) (os2 bs2 : List Tree) (hs1 : SD (mkTy k s os bs)) (hs2 : SD (mkTy k2 s2 os2 bs2)) (ho1 : D (ofT (mkTy k s os bs))) (ho2 : D (ofT (mkTy k2 s2 os2 bs2)))
    (lb : bs.length ≤ 4194304) (lb2 : bs2.length ≤ 4194304) (hb : Ats D bs) (hb2 : Ats D bs2) : R2 (cf m) 12 (mkTy k s os bs) (mkTy k2 s2 os2 bs2) (.tup [(joinS J (mkTy k s os bs) (mkTy k2 s2 os2 bs2)).1, .int .i64 (joinS J (mkTy k s os bs) (mkTy k2 s2 os2 bs2)).2]) := by
  obtain ⟨ev, hev, e_own, e_of, e_join⟩ : ∃ ev, CallOk (cf m) ev ∧ Has ev 20 (pc1 SD (fun x => x)) ∧ Has ev 46 (pc1 SD ofT) ∧ Has ev 12 (pc2 (fun x y => D x ∧ D y) fun x y => .tup [(J x y).1, .int .i64 (J x y).2]) := ⟨_, (oneEv_ok (pc1_ok hO) (oneEv_ok (pc1_ok hOf) (oneEv_ok (pc2_ok fun x y h => hJ x y h.1 h.2) noEv_ok))), has_here, (has_there rfl has_here), (has_there rfl (has_there rfl has_here))⟩
  refine CallRel.of_ex ?_
  refine AX.start 129 2 Tryz.func12 rfl (by decide) rfl rfl (by decide) ?_
  refine AX.seq ?_
  refine AX.region ?_
  refine AXo.go (f := 0) hev (d_box rfl rfl) ?_
  refine AXo.go (f := 0) hev (d_box rfl rfl) ?_
  refine AXo.go (f := 0) hev (d_alloc ty38 rfl rfl) ?_
  refine AXo.go (f := 0) hev (d_assign rfl) ?_
  refine AXo.nil ?_
  refine AX.seq ?_
  refine AX.seq ?_
  refine AX.region ?_
  refine AXo.go (f := 0) hev (d_fieldAddr rfl fo38_0 rfl) ?_
  refine AXo.go (f := 0) hev (d_loadT rfl (ld ty35 rfl rfl)) ?_
  refine AXo.go (f := 0) hev (d_eqI rfl rfl) ?_
  refine AXo.nil ?_
  refine AX.cond rfl (fun hc1 => ?_) (fun hc1 => ?_)
  · skip
    have dhc1 := eq_of_beq hc1
    refine AX.region ?_
    refine AXo.go (f := 0) hev (d_load rfl (ld ty38 rfl rfl)) ?_
    refine AXo.go (f := 0) hev (d_load rfl (ld ty38 rfl rfl)) ?_
    refine AXo.go0 (f := 0) hev (d_store rfl rfl (stt ty38 rfl rfl)) ?_
    refine AXo.go0 (f := 0) hev (d_store rfl rfl (stt ty38 rfl rfl)) ?_
    refine AXo.nil ?_
    refine AX.seq ?_
    refine AX.seq ?_
    refine AX.region ?_
    refine AXo.go (f := 0) hev (d_fieldAddr rfl fo38_0 rfl) ?_
    refine AXo.go (f := 0) hev (d_loadT rfl (ld ty35 rfl rfl)) ?_
    refine AXo.go (f := 0) hev (d_eqI rfl rfl) ?_
    refine AXo.nil ?_
    refine AX.cond rfl (fun hc2 => ?_) (fun hc2 => ?_)
    · skip
      have dhc2 := eq_of_beq hc2
      refine AX.seq ?_
      refine AX.region ?_
      refine AXo.go (f := 0) hev (d_build rfl bl38 rfl rfl) ?_
      refine AXo.go0 (f := 0) hev (d_store rfl rfl (stt ty38 rfl rfl)) ?_
      refine AXo.go (f := 0) hev (d_assign rfl) ?_
      refine AXo.nil ?_
      refine AX.ret ?_
      refine AX.thenRet ?_
      have hres : joinS J (mkTy k s os bs) (mkTy k2 s2 os2 bs2) = (.agg [.int .u8 0, .str [], .sl [], .sl []], 0) := by
        rw [joinS_mk]
        rw [if_pos (eq_of_beq hc1)]
        rw [if_pos (eq_of_beq hc2)]
        rfl
      show ∃ _ : Unit, Fin2 (cf m) _ 0 (.ret (.t (.tup [(joinS J (mkTy k s os bs) (mkTy k2 s2 os2 bs2)).1, .int .i64 (joinS J (mkTy k s os bs) (mkTy k2 s2 os2 bs2)).2])) [] []) _ _
      rw [hres]
      exact ⟨(), .inl rfl⟩
    · skip
      have dhc2 := ne_of_beq_false hc2
      refine AX.skip ?_
      refine AX.seq ?_
      refine AX.seq ?_
      refine AX.region ?_
      refine AXo.go (f := 0) hev (d_fieldAddr rfl fo38_0 rfl) ?_
      refine AXo.go (f := 0) hev (d_loadT rfl (ld ty35 rfl rfl)) ?_
      refine AXo.go (f := 0) hev (d_eqI rfl rfl) ?_
      refine AXo.nil ?_
      refine AX.condT rfl hc1 ?_
      refine AX.seq ?_
      refine AX.region ?_
      refine AXo.go (f := 0) hev (d_load rfl (ld ty38 rfl rfl)) ?_
      refine AXo.go (f := 0) hev (d_callT (rh1 rfl) (has1 e_own hs1)) ?_
      refine AXo.go0 (f := 0) hev (d_store rfl rfl (stt ty38 rfl rfl)) ?_
      refine AXo.go (f := 0) hev (d_assign rfl) ?_
      refine AXo.nil ?_
      refine AX.ret ?_
      refine AX.thenRet ?_
      have hres : joinS J (mkTy k s os bs) (mkTy k2 s2 os2 bs2) = (.agg [.int .u8 k, .str s, .sl os, .sl bs], 0) := by
        rw [joinS_mk]
        rw [if_pos (eq_of_beq hc1)]
        rw [if_neg (ne_of_beq_false hc2)]
        rfl
      show ∃ _ : Unit, Fin2 (cf m) _ 0 (.ret (.t (.tup [(joinS J (mkTy k s os bs) (mkTy k2 s2 os2 bs2)).1, .int .i64 (joinS J (mkTy k s os bs) (mkTy k2 s2 os2 bs2)).2])) [] []) _ _
      rw [hres]
      exact ⟨(), .inl rfl⟩
  · skip
    have dhc1 := ne_of_beq_false hc1
    refine AX.skip ?_
    refine AX.seq ?_
    refine AX.seq ?_
    refine AX.region ?_
    refine AXo.go (f := 0) hev (d_fieldAddr rfl fo38_0 rfl) ?_
    refine AXo.go (f := 0) hev (d_loadT rfl (ld ty35 rfl rfl)) ?_
    refine AXo.go (f := 0) hev (d_eqI rfl rfl) ?_
    refine AXo.nil ?_
    refine AX.condF rfl hc1 ?_
    refine AX.skip ?_
    refine AX.seq ?_
    refine AX.seq ?_
    refine AX.region ?_
    refine AXo.go (f := 0) hev (d_fieldAddr rfl fo38_0 rfl) ?_
    refine AXo.go (f := 0) hev (d_loadT rfl (ld ty35 rfl rfl)) ?_
    refine AXo.go (f := 0) hev (d_eqI rfl rfl) ?_
    refine AXo.nil ?_
    refine AX.cond rfl (fun hc3 => ?_) (fun hc3 => ?_)
    · skip
      have dhc3 := eq_of_beq hc3
      refine AX.seq ?_
      refine AX.region ?_
      refine AXo.go (f := 0) hev (d_load rfl (ld ty38 rfl rfl)) ?_
      refine AXo.go (f := 0) hev (d_callT (rh1 rfl) (has1 e_own hs2)) ?_
      refine AXo.go0 (f := 0) hev (d_store rfl rfl (stt ty38 rfl rfl)) ?_
      refine AXo.go (f := 0) hev (d_assign rfl) ?_
      refine AXo.nil ?_
      refine AX.ret ?_
      refine AX.thenRet ?_
      have hres : joinS J (mkTy k s os bs) (mkTy k2 s2 os2 bs2) = (.agg [.int .u8 k2, .str s2, .sl os2, .sl bs2], 0) := by
        rw [joinS_mk]
        rw [if_neg (ne_of_beq_false hc1)]
        rw [if_pos (eq_of_beq hc3)]
        rfl
      show ∃ _ : Unit, Fin2 (cf m) _ 0 (.ret (.t (.tup [(joinS J (mkTy k s os bs) (mkTy k2 s2 os2 bs2)).1, .int .i64 (joinS J (mkTy k s os bs) (mkTy k2 s2 os2 bs2)).2])) [] []) _ _
      rw [hres]
      exact ⟨(), .inl rfl⟩
    · skip
      have dhc3 := ne_of_beq_false hc3
      refine AX.skip ?_
      refine AX.seq ?_
      refine AX.region ?_
      refine AXo.go (f := 0) hev (d_fieldAddr rfl fo38_0 rfl) ?_
      refine AXo.go (f := 0) hev (d_loadT rfl (ld ty35 rfl rfl)) ?_
      refine AXo.go (f := 0) hev (d_build rfl bl38 rfl rfl) ?_
      refine AXo.go (f := 0) hev (d_alloc ty38 rfl rfl) ?_
      refine AXo.go0 (f := 0) hev (d_store rfl rfl (stt ty38 rfl rfl)) ?_
      refine AXo.nil ?_
      refine AX.seq ?_
      refine AX.seq ?_
      refine AX.region ?_
      refine AXo.go (f := 0) hev (d_fieldAddr rfl fo38_0 rfl) ?_
      refine AXo.go (f := 0) hev (d_loadT rfl (ld ty35 rfl rfl)) ?_
      refine AXo.go (f := 0) hev (d_fieldAddr rfl fo38_0 rfl) ?_
      refine AXo.go (f := 0) hev (d_loadT rfl (ld ty35 rfl rfl)) ?_
      refine AXo.go (f := 0) hev (d_neI rfl rfl) ?_
      refine AXo.go (f := 0) hev (d_move rfl) ?_
      refine AXo.split 36 rfl (fun hg4 => ?_) (fun hg4 => ?_)
      · skip
        have dhg4 := ne_of_bne_true hg4
        refine AXo.no rfl rfl rfl (beqTF hg4) ?_
        refine AXo.no rfl rfl rfl (beqTF hg4) ?_
        refine AXo.no rfl rfl rfl (beqTF hg4) ?_
        refine AXo.go (f := 0) hev (d_pickT rfl hg4 rfl rfl) ?_
        refine AXo.go (f := 0) hev (d_move rfl) ?_
        refine AXo.no rfl rfl rfl (beqTF rfl) ?_
        refine AXo.no rfl rfl rfl (beqTF rfl) ?_
        refine AXo.no rfl rfl rfl (beqTF rfl) ?_
        refine AXo.no rfl rfl rfl (beqTF rfl) ?_
        refine AXo.no rfl rfl rfl (beqTF rfl) ?_
        refine AXo.no rfl rfl rfl (beqTF rfl) ?_
        refine AXo.no rfl rfl rfl (beqTF rfl) ?_
        refine AXo.no rfl rfl rfl (beqTF rfl) ?_
        refine AXo.none rfl rfl rfl ?_
        refine AXo.none rfl rfl rfl ?_
        refine AXo.none rfl rfl rfl ?_
        refine AXo.no rfl rfl rfl (beqTF rfl) ?_
        refine AXo.go (f := 0) hev (d_pickT rfl rfl rfl rfl) ?_
        refine AXo.nil ?_
        refine AX.condT rfl rfl ?_
        refine AX.seq ?_
        refine AX.region ?_
        refine AXo.go (f := 0) hev (d_build rfl bl38 rfl rfl) ?_
        refine AXo.go0 (f := 0) hev (d_store rfl rfl (stt ty38 rfl rfl)) ?_
        refine AXo.go (f := 0) hev (d_assign rfl) ?_
        refine AXo.nil ?_
        refine AX.ret ?_
        refine AX.thenRet ?_
        have hres : joinS J (mkTy k s os bs) (mkTy k2 s2 os2 bs2) = (.agg [.int .u8 0, .str [], .sl [], .sl []], 7) := by
          rw [joinS_mk]
          rw [if_neg (ne_of_beq_false hc1)]
          rw [if_neg (ne_of_beq_false hc3)]
          rw [joinC_mk]
          rw [if_pos (.inl (ne_of_bne_true hg4))]
          rfl
        show ∃ _ : Unit, Fin2 (cf m) _ 0 (.ret (.t (.tup [(joinS J (mkTy k s os bs) (mkTy k2 s2 os2 bs2)).1, .int .i64 (joinS J (mkTy k s os bs) (mkTy k2 s2 os2 bs2)).2])) [] []) _ _
        rw [hres]
        exact ⟨(), .inl rfl⟩
      · skip
        have dhg4 := eq_of_bne_false hg4
        refine AXo.yes (f := 0) hev rfl rfl rfl (beqFF hg4) (d_fieldAddr rfl fo38_0 rfl) ?_
        refine AXo.yes (f := 0) hev rfl rfl rfl (beqFF hg4) (d_loadT rfl (ld ty35 rfl rfl)) ?_
        refine AXo.yes (f := 0) hev rfl rfl rfl (beqFF hg4) (d_geI rfl rfl) ?_
        refine AXo.go (f := 0) hev (d_pickF rfl hg4 rfl rfl) ?_
        refine AXo.go (f := 0) hev (d_move rfl) ?_
        refine AXo.split 41 rfl (fun hg5 => ?_) (fun hg5 => ?_)
        · skip
          have dhg5 := of_decide_eq_true hg5
          refine AXo.no rfl rfl rfl (beqTF hg5) ?_
          refine AXo.no rfl rfl rfl (beqTF hg5) ?_
          refine AXo.no rfl rfl rfl (beqTF hg5) ?_
          refine AXo.no rfl rfl rfl (beqTF hg5) ?_
          refine AXo.no rfl rfl rfl (beqTF hg5) ?_
          refine AXo.no rfl rfl rfl (beqTF hg5) ?_
          refine AXo.no rfl rfl rfl (beqTF hg5) ?_
          refine AXo.no rfl rfl rfl (beqTF hg5) ?_
          refine AXo.none rfl rfl rfl ?_
          refine AXo.none rfl rfl rfl ?_
          refine AXo.none rfl rfl rfl ?_
          refine AXo.no rfl rfl rfl (beqTF hg5) ?_
          refine AXo.go (f := 0) hev (d_pickT rfl hg5 rfl rfl) ?_
          refine AXo.nil ?_
          refine AX.condT rfl rfl ?_
          refine AX.seq ?_
          refine AX.region ?_
          refine AXo.go (f := 0) hev (d_build rfl bl38 rfl rfl) ?_
          refine AXo.go0 (f := 0) hev (d_store rfl rfl (stt ty38 rfl rfl)) ?_
          refine AXo.go (f := 0) hev (d_assign rfl) ?_
          refine AXo.nil ?_
          refine AX.ret ?_
          refine AX.thenRet ?_
          have hres : joinS J (mkTy k s os bs) (mkTy k2 s2 os2 bs2) = (.agg [.int .u8 0, .str [], .sl [], .sl []], 7) := by
            rw [joinS_mk]
            rw [if_neg (ne_of_beq_false hc1)]
            rw [if_neg (ne_of_beq_false hc3)]
            rw [joinC_mk]
            rw [if_pos (.inr (.inl (of_decide_eq_true hg5)))]
            rfl
          show ∃ _ : Unit, Fin2 (cf m) _ 0 (.ret (.t (.tup [(joinS J (mkTy k s os bs) (mkTy k2 s2 os2 bs2)).1, .int .i64 (joinS J (mkTy k s os bs) (mkTy k2 s2 os2 bs2)).2])) [] []) _ _
          rw [hres]
          exact ⟨(), .inl rfl⟩
        · skip
          have dhg5 := of_decide_eq_false hg5
          refine AXo.yes (f := 0) hev rfl rfl rfl (beqFF hg5) (d_fieldAddr rfl fo38_3 rfl) ?_
          refine AXo.yes (f := 0) hev rfl rfl rfl (beqFF hg5) (d_load rfl (ld ty31 rfl rfl)) ?_
          refine AXo.yes (f := 0) hev rfl rfl rfl (beqFF hg5) (d_lenT rfl ty31 rfl) ?_
          refine AXo.yes (f := 0) hev rfl rfl rfl (beqFF hg5) (d_fieldAddr rfl fo38_3 rfl) ?_
          refine AXo.yes (f := 0) hev rfl rfl rfl (beqFF hg5) (d_load rfl (ld ty31 rfl rfl)) ?_
          refine AXo.yes (f := 0) hev rfl rfl rfl (beqFF hg5) (d_lenT rfl ty31 rfl) ?_
          refine AXo.yes (f := 0) hev rfl rfl rfl (beqFF hg5) (d_neI rfl rfl) ?_
          refine AXo.yes (f := 0) hev rfl rfl rfl (beqFF hg5) (d_move rfl) ?_
          refine AXo.split 49 rfl (fun hg6 => ?_) (fun hg6 => ?_)
          · skip
            have dhg6 := ne_of_bne_true hg6
            refine AXo.yes (f := 0) hev rfl rfl rfl (beqTT hg6) (d_fieldAddr rfl fo38_0 rfl) ?_
            refine AXo.yes (f := 0) hev rfl rfl rfl (beqTT hg6) (d_loadT rfl (ld ty35 rfl rfl)) ?_
            refine AXo.yes (f := 0) hev rfl rfl rfl (beqTT hg6) (d_eqI rfl rfl) ?_
            refine AXo.yes (f := 0) hev rfl rfl rfl (beqFF hg5) (d_pickT rfl hg6 rfl rfl) ?_
            refine AXo.go (f := 0) hev (d_pickF rfl hg5 rfl rfl) ?_
            refine AXo.nil ?_
            refine AX.cond rfl (fun hc7 => ?_) (fun hc7 => ?_)
            · skip
              have dhc7 := eq_of_beq hc7
              refine AX.seq ?_
              refine AX.region ?_
              refine AXo.go (f := 0) hev (d_build rfl bl38 rfl rfl) ?_
              refine AXo.go0 (f := 0) hev (d_store rfl rfl (stt ty38 rfl rfl)) ?_
              refine AXo.go (f := 0) hev (d_assign rfl) ?_
              refine AXo.nil ?_
              refine AX.ret ?_
              refine AX.thenRet ?_
              have hres : joinS J (mkTy k s os bs) (mkTy k2 s2 os2 bs2) = (.agg [.int .u8 0, .str [], .sl [], .sl []], 7) := by
                rw [joinS_mk]
                rw [if_neg (ne_of_beq_false hc1)]
                rw [if_neg (ne_of_beq_false hc3)]
                rw [joinC_mk]
                rw [if_pos (.inr (.inr ⟨fun e => ne_of_bne_true hg6 (by rw [e]), eq_of_beq hc7⟩))]
                rfl
              show ∃ _ : Unit, Fin2 (cf m) _ 0 (.ret (.t (.tup [(joinS J (mkTy k s os bs) (mkTy k2 s2 os2 bs2)).1, .int .i64 (joinS J (mkTy k s os bs) (mkTy k2 s2 os2 bs2)).2])) [] []) _ _
              rw [hres]
              exact ⟨(), .inl rfl⟩
            · skip
              have dhc7 := ne_of_beq_false hc7
              refine AX.skip ?_
              refine AX.seq ?_
              refine AX.seq ?_
              refine AX.region ?_
              refine AXo.go (f := 0) hev (d_fieldAddr rfl fo38_0 rfl) ?_
              refine AXo.go (f := 0) hev (d_loadT rfl (ld ty35 rfl rfl)) ?_
              refine AXo.nil ?_
              refine AX.block ?_
              refine AX.seq ?_
              refine AX.region ?_
              refine AXo.go (f := 0) hev (d_eqI rfl rfl) ?_
              refine AXo.go (f := 0) hev (d_assign rfl) ?_
              refine AXo.nil ?_
              refine AX.cond rfl (fun hc8 => ?_) (fun hc8 => ?_)
              · skip
                have dhc8 := eq_of_beq hc8
                refine AX.seq ?_
                refine AX.region ?_
                refine AXo.go (f := 0) hev (d_fieldAddr rfl fo38_1 rfl) ?_
                refine AXo.go (f := 0) hev (d_loadT rfl (ld ty9 rfl rfl)) ?_
                refine AXo.go (f := 0) hev (d_fieldAddr rfl fo38_1 rfl) ?_
                refine AXo.go (f := 0) hev (d_loadT rfl (ld ty9 rfl rfl)) ?_
                refine AXo.go (f := 0) hev (d_eqS rfl rfl) ?_
                refine AXo.nil ?_
                refine AX.cond rfl (fun hc9 => ?_) (fun hc9 => ?_)
                · skip
                  have dhc9 := eq_of_beq hc9
                  refine AX.region ?_
                  refine AXo.go (f := 0) hev (d_fieldAddr rfl fo38_1 rfl) ?_
                  refine AXo.go (f := 0) hev (d_loadT rfl (ld ty9 rfl rfl)) ?_
                  refine AXo.go (f := 0) hev (d_fieldAddr rfl fo38_1 rfl) ?_
                  refine AXo.go0 (f := 0) hev (d_store rfl rfl (stt ty9 rfl rfl)) ?_
                  refine AXo.nil ?_
                  refine AX.outNormal ?_
                  refine AX.seq ?_
                  refine AX.region ?_
                  refine AXo.go (f := 0) hev (d_load rfl (ld ty38 rfl rfl)) ?_
                  refine AXo.go0 (f := 0) hev (d_store rfl rfl (stt ty38 rfl rfl)) ?_
                  refine AXo.go (f := 0) hev (d_assign rfl) ?_
                  refine AXo.nil ?_
                  refine AX.ret ?_
                  have hres : joinS J (mkTy k s os bs) (mkTy k2 s2 os2 bs2) = (.agg [.int .u8 k, .str s, .sl [], .sl []], 0) := by
                    rw [joinS_mk]
                    rw [if_neg (ne_of_beq_false hc1)]
                    rw [if_neg (ne_of_beq_false hc3)]
                    rw [joinC_mk]
                    rw [if_neg (fun h => h.elim (fun h => h (eq_of_bne_false hg4)) (fun h => h.elim (fun h => of_decide_eq_false hg5 h) (fun h => ne_of_beq_false hc7 h.2)))]
                    rw [if_pos (eq_of_beq hc8), if_pos (eq_of_beq hc9)]
                    rw [eq_of_beq hc8]; rfl
                  show ∃ _ : Unit, Fin2 (cf m) _ 0 (.ret (.t (.tup [(joinS J (mkTy k s os bs) (mkTy k2 s2 os2 bs2)).1, .int .i64 (joinS J (mkTy k s os bs) (mkTy k2 s2 os2 bs2)).2])) [] []) _ _
                  rw [hres]
                  exact ⟨(), .inl rfl⟩
                · skip
                  have dhc9 := ne_of_beq_false hc9
                  refine AX.skip ?_
                  refine AX.outNormal ?_
                  refine AX.seq ?_
                  refine AX.region ?_
                  refine AXo.go (f := 0) hev (d_load rfl (ld ty38 rfl rfl)) ?_
                  refine AXo.go0 (f := 0) hev (d_store rfl rfl (stt ty38 rfl rfl)) ?_
                  refine AXo.go (f := 0) hev (d_assign rfl) ?_
                  refine AXo.nil ?_
                  refine AX.ret ?_
                  have hres : joinS J (mkTy k s os bs) (mkTy k2 s2 os2 bs2) = (.agg [.int .u8 k, .str [], .sl [], .sl []], 0) := by
                    rw [joinS_mk]
                    rw [if_neg (ne_of_beq_false hc1)]
                    rw [if_neg (ne_of_beq_false hc3)]
                    rw [joinC_mk]
                    rw [if_neg (fun h => h.elim (fun h => h (eq_of_bne_false hg4)) (fun h => h.elim (fun h => of_decide_eq_false hg5 h) (fun h => ne_of_beq_false hc7 h.2)))]
                    rw [if_pos (eq_of_beq hc8), if_neg (ne_of_beq_false hc9)]
                    rw [eq_of_beq hc8]; rfl
                  show ∃ _ : Unit, Fin2 (cf m) _ 0 (.ret (.t (.tup [(joinS J (mkTy k s os bs) (mkTy k2 s2 os2 bs2)).1, .int .i64 (joinS J (mkTy k s os bs) (mkTy k2 s2 os2 bs2)).2])) [] []) _ _
                  rw [hres]
                  exact ⟨(), .inl rfl⟩
              · skip
                have dhc8 := ne_of_beq_false hc8
                refine AX.seq ?_
                refine AX.region ?_
                refine AXo.go (f := 0) hev (d_eqI rfl rfl) ?_
                refine AXo.go (f := 0) hev (d_assign rfl) ?_
                refine AXo.nil ?_
                refine AX.cond rfl (fun hc10 => ?_) (fun hc10 => ?_)
                · skip
                  have dhc10 := eq_of_beq hc10
                  refine AX.seq ?_
                  refine AX.draw (f := 0) orders hev ?_
                  refine AXd.go rfl (d_load rfl (ld ty38 rfl rfl)) ?_
                  refine AXd.go rfl (d_callT (rh1 rfl) (has1 e_of hs1)) ?_
                  refine AXd.go rfl (d_load rfl (ld ty38 rfl rfl)) ?_
                  refine AXd.go rfl (d_callT (rh1 rfl) (has1 e_of hs2)) ?_
                  obtain ⟨k_11, s_11, os_11, bs_11, e0_11⟩ := hJf _ _ ho1 ho2
                  have e1_11 : (J (ofT (.agg [.int .u8 k, .str s, .sl os, .sl bs])) (ofT (.agg [.int .u8 k2, .str s2, .sl os2, .sl bs2]))).1 = .agg [.int .u8 k_11, .str s_11, .sl os_11, .sl bs_11] := e0_11
                  obtain ⟨w_11, e2_11⟩ : ∃ w, (J (ofT (.agg [.int .u8 k, .str s, .sl os, .sl bs])) (ofT (.agg [.int .u8 k2, .str s2, .sl os2, .sl bs2]))).2 = w := ⟨_, rfl⟩
                  have ej_11 := has2 e_join (x := (ofT (.agg [.int .u8 k, .str s, .sl os, .sl bs]))) (y := (ofT (.agg [.int .u8 k2, .str s2, .sl os2, .sl bs2]))) ⟨ho1, ho2⟩
                  rw [e1_11, e2_11] at ej_11
                  refine AXd.go rfl (d_callT (rh2 rfl rfl) ej_11) ?_
                  refine AXd.go rfl (d_move rfl) ?_
                  refine AXd.go rfl (d_extract rfl rfl) ?_
                  refine AXd.go rfl (d_extract rfl rfl) ?_
                  refine AXd.go rfl (d_alloc ty38 rfl rfl) ?_
                  refine AXd.go0 rfl (d_store rfl rfl (stt ty38 rfl rfl)) ?_
                  refine AXd.go rfl (d_assign rfl) ?_
                  refine AXd.nil (ex_and2 rfl rfl ?_)
                  refine AX.seq ?_
                  refine AX.seq ?_
                  refine AX.region ?_
                  refine AXo.go (f := 0) hev (d_move rfl) ?_
                  refine AXo.go (f := 0) hev (d_neI rfl rfl) ?_
                  refine AXo.nil ?_
                  refine AX.cond rfl (fun hc12 => ?_) (fun hc12 => ?_)
                  · skip
                    have dhc12 := ne_of_bne_true hc12
                    refine AX.seq ?_
                    refine AX.region ?_
                    refine AXo.go (f := 0) hev (d_build rfl bl38 rfl rfl) ?_
                    refine AXo.go (f := 0) hev (d_move rfl) ?_
                    refine AXo.go0 (f := 0) hev (d_store rfl rfl (stt ty38 rfl rfl)) ?_
                    refine AXo.go (f := 0) hev (d_assign rfl) ?_
                    refine AXo.nil ?_
                    refine AX.ret ?_
                    refine AX.thenRet ?_
                    refine AX.outRet ?_
                    refine AX.thenRet ?_
                    have hres : joinS J (mkTy k s os bs) (mkTy k2 s2 os2 bs2) = (.agg [.int .u8 0, .str [], .sl [], .sl []], w_11) := by
                      rw [joinS_mk]
                      rw [if_neg (ne_of_beq_false hc1)]
                      rw [if_neg (ne_of_beq_false hc3)]
                      rw [joinC_mk]
                      rw [if_neg (fun h => h.elim (fun h => h (eq_of_bne_false hg4)) (fun h => h.elim (fun h => of_decide_eq_false hg5 h) (fun h => ne_of_beq_false hc7 h.2)))]
                      rw [if_neg (ne_of_beq_false hc8), if_pos (eq_of_beq hc10)]
                      exact (if_neg (fun h => ne_of_bne_true hc12 (e2_11.symm.trans h))).trans (congrArg (fun z => (ty0, z)) e2_11)
                    show ∃ _ : Unit, Fin2 (cf m) _ 0 (.ret (.t (.tup [(joinS J (mkTy k s os bs) (mkTy k2 s2 os2 bs2)).1, .int .i64 (joinS J (mkTy k s os bs) (mkTy k2 s2 os2 bs2)).2])) [] []) _ _
                    rw [hres]
                    exact ⟨(), .inl rfl⟩
                  · skip
                    have dhc12 := eq_of_bne_false hc12
                    refine AX.skip ?_
                    refine AX.region ?_
                    refine AXo.go (f := 0) hev (d_load rfl (ld ty38 rfl rfl)) ?_
                    refine AXo.go (f := 0) hev (d_lit1 rfl rfl ty36 rfl ty38 rfl rfl ⟨rfl, rfl, rfl⟩) ?_
                    refine AXo.go (f := 0) hev (d_fieldAddr rfl fo38_2 rfl) ?_
                    refine AXo.go0 (f := 0) hev (d_store rfl rfl (stt ty36 rfl rfl)) ?_
                    refine AXo.nil ?_
                    refine AX.outNormal ?_
                    refine AX.seq ?_
                    refine AX.region ?_
                    refine AXo.go (f := 0) hev (d_load rfl (ld ty38 rfl rfl)) ?_
                    refine AXo.go0 (f := 0) hev (d_store rfl rfl (stt ty38 rfl rfl)) ?_
                    refine AXo.go (f := 0) hev (d_assign rfl) ?_
                    refine AXo.nil ?_
                    refine AX.ret ?_
                    have hres : joinS J (mkTy k s os bs) (mkTy k2 s2 os2 bs2) = (.agg [.int .u8 k, .str [], .sl [.agg [.int .u8 k_11, .str s_11, .sl os_11, .sl bs_11]], .sl []], 0) := by
                      rw [joinS_mk]
                      rw [if_neg (ne_of_beq_false hc1)]
                      rw [if_neg (ne_of_beq_false hc3)]
                      rw [joinC_mk]
                      rw [if_neg (fun h => h.elim (fun h => h (eq_of_bne_false hg4)) (fun h => h.elim (fun h => of_decide_eq_false hg5 h) (fun h => ne_of_beq_false hc7 h.2)))]
                      rw [if_neg (ne_of_beq_false hc8), if_pos (eq_of_beq hc10)]
                      refine (if_pos (e2_11.trans (eq_of_bne_false hc12))).trans ?_; rw [show (J (ofT (mkTy k s os bs)) (ofT (mkTy k2 s2 os2 bs2))).1 = _ from e1_11, eq_of_beq hc10]; rfl
                    show ∃ _ : Unit, Fin2 (cf m) _ 0 (.ret (.t (.tup [(joinS J (mkTy k s os bs) (mkTy k2 s2 os2 bs2)).1, .int .i64 (joinS J (mkTy k s os bs) (mkTy k2 s2 os2 bs2)).2])) [] []) _ _
                    rw [hres]
                    exact ⟨(), .inl rfl⟩
                · skip
                  have dhc10 := ne_of_beq_false hc10
                  refine AX.seq ?_
                  refine AX.region ?_
                  refine AXo.go (f := 0) hev (d_eqI rfl rfl) ?_
                  refine AXo.go (f := 0) hev (d_assign rfl) ?_
                  refine AXo.nil ?_
                  refine AX.condF rfl hc7 ?_
                  refine AX.skip ?_
                  refine AX.outNormal ?_
                  refine AX.seq ?_
                  refine AX.region ?_
                  refine AXo.go (f := 0) hev (d_load rfl (ld ty38 rfl rfl)) ?_
                  refine AXo.go0 (f := 0) hev (d_store rfl rfl (stt ty38 rfl rfl)) ?_
                  refine AXo.go (f := 0) hev (d_assign rfl) ?_
                  refine AXo.nil ?_
                  refine AX.ret ?_
                  have hres : joinS J (mkTy k s os bs) (mkTy k2 s2 os2 bs2) = (.agg [.int .u8 k, .str [], .sl [], .sl []], 0) := by
                    rw [joinS_mk]
                    rw [if_neg (ne_of_beq_false hc1)]
                    rw [if_neg (ne_of_beq_false hc3)]
                    rw [joinC_mk]
                    rw [if_neg (fun h => h.elim (fun h => h (eq_of_bne_false hg4)) (fun h => h.elim (fun h => of_decide_eq_false hg5 h) (fun h => ne_of_beq_false hc7 h.2)))]
                    rw [if_neg (ne_of_beq_false hc8), if_neg (ne_of_beq_false hc10), if_neg (ne_of_beq_false hc7)]; rfl
                  show ∃ _ : Unit, Fin2 (cf m) _ 0 (.ret (.t (.tup [(joinS J (mkTy k s os bs) (mkTy k2 s2 os2 bs2)).1, .int .i64 (joinS J (mkTy k s os bs) (mkTy k2 s2 os2 bs2)).2])) [] []) _ _
                  rw [hres]
                  exact ⟨(), .inl rfl⟩
          · skip
            have dhg6 := eq_of_bne_false hg6
            have hlen : bs.length = bs2.length := by have := eq_of_bne_false hg6; omega
            refine AXo.no rfl rfl rfl (beqFT hg6) ?_
            refine AXo.no rfl rfl rfl (beqFT hg6) ?_
            refine AXo.no rfl rfl rfl (beqFT hg6) ?_
            refine AXo.yes (f := 0) hev rfl rfl rfl (beqFF hg5) (d_pickF rfl hg6 rfl rfl) ?_
            refine AXo.go (f := 0) hev (d_pickF rfl hg5 rfl rfl) ?_
            refine AXo.nil ?_
            refine AX.condF rfl rfl ?_
            refine AX.skip ?_
            refine AX.seq ?_
            refine AX.seq ?_
            refine AX.region ?_
            refine AXo.go (f := 0) hev (d_fieldAddr rfl fo38_0 rfl) ?_
            refine AXo.go (f := 0) hev (d_loadT rfl (ld ty35 rfl rfl)) ?_
            refine AXo.nil ?_
            refine AX.block ?_
            refine AX.seq ?_
            refine AX.region ?_
            refine AXo.go (f := 0) hev (d_eqI rfl rfl) ?_
            refine AXo.go (f := 0) hev (d_assign rfl) ?_
            refine AXo.nil ?_
            refine AX.cond rfl (fun hc13 => ?_) (fun hc13 => ?_)
            · skip
              have dhc13 := eq_of_beq hc13
              refine AX.seq ?_
              refine AX.region ?_
              refine AXo.go (f := 0) hev (d_fieldAddr rfl fo38_1 rfl) ?_
              refine AXo.go (f := 0) hev (d_loadT rfl (ld ty9 rfl rfl)) ?_
              refine AXo.go (f := 0) hev (d_fieldAddr rfl fo38_1 rfl) ?_
              refine AXo.go (f := 0) hev (d_loadT rfl (ld ty9 rfl rfl)) ?_
              refine AXo.go (f := 0) hev (d_eqS rfl rfl) ?_
              refine AXo.nil ?_
              refine AX.cond rfl (fun hc14 => ?_) (fun hc14 => ?_)
              · skip
                have dhc14 := eq_of_beq hc14
                refine AX.region ?_
                refine AXo.go (f := 0) hev (d_fieldAddr rfl fo38_1 rfl) ?_
                refine AXo.go (f := 0) hev (d_loadT rfl (ld ty9 rfl rfl)) ?_
                refine AXo.go (f := 0) hev (d_fieldAddr rfl fo38_1 rfl) ?_
                refine AXo.go0 (f := 0) hev (d_store rfl rfl (stt ty9 rfl rfl)) ?_
                refine AXo.nil ?_
                refine AX.outNormal ?_
                refine AX.seq ?_
                refine AX.region ?_
                refine AXo.go (f := 0) hev (d_load rfl (ld ty38 rfl rfl)) ?_
                refine AXo.go0 (f := 0) hev (d_store rfl rfl (stt ty38 rfl rfl)) ?_
                refine AXo.go (f := 0) hev (d_assign rfl) ?_
                refine AXo.nil ?_
                refine AX.ret ?_
                have hres : joinS J (mkTy k s os bs) (mkTy k2 s2 os2 bs2) = (.agg [.int .u8 k, .str s, .sl [], .sl []], 0) := by
                  rw [joinS_mk]
                  rw [if_neg (ne_of_beq_false hc1)]
                  rw [if_neg (ne_of_beq_false hc3)]
                  rw [joinC_mk]
                  rw [if_neg (fun h => h.elim (fun h => h (eq_of_bne_false hg4)) (fun h => h.elim (fun h => of_decide_eq_false hg5 h) (fun h => h.1 (by have := eq_of_bne_false hg6; omega))))]
                  rw [if_pos (eq_of_beq hc13), if_pos (eq_of_beq hc14)]
                  rw [eq_of_beq hc13]; rfl
                show ∃ _ : Unit, Fin2 (cf m) _ 0 (.ret (.t (.tup [(joinS J (mkTy k s os bs) (mkTy k2 s2 os2 bs2)).1, .int .i64 (joinS J (mkTy k s os bs) (mkTy k2 s2 os2 bs2)).2])) [] []) _ _
                rw [hres]
                exact ⟨(), .inl rfl⟩
              · skip
                have dhc14 := ne_of_beq_false hc14
                refine AX.skip ?_
                refine AX.outNormal ?_
                refine AX.seq ?_
                refine AX.region ?_
                refine AXo.go (f := 0) hev (d_load rfl (ld ty38 rfl rfl)) ?_
                refine AXo.go0 (f := 0) hev (d_store rfl rfl (stt ty38 rfl rfl)) ?_
                refine AXo.go (f := 0) hev (d_assign rfl) ?_
                refine AXo.nil ?_
                refine AX.ret ?_
                have hres : joinS J (mkTy k s os bs) (mkTy k2 s2 os2 bs2) = (.agg [.int .u8 k, .str [], .sl [], .sl []], 0) := by
                  rw [joinS_mk]
                  rw [if_neg (ne_of_beq_false hc1)]
                  rw [if_neg (ne_of_beq_false hc3)]
                  rw [joinC_mk]
                  rw [if_neg (fun h => h.elim (fun h => h (eq_of_bne_false hg4)) (fun h => h.elim (fun h => of_decide_eq_false hg5 h) (fun h => h.1 (by have := eq_of_bne_false hg6; omega))))]
                  rw [if_pos (eq_of_beq hc13), if_neg (ne_of_beq_false hc14)]
                  rw [eq_of_beq hc13]; rfl
                show ∃ _ : Unit, Fin2 (cf m) _ 0 (.ret (.t (.tup [(joinS J (mkTy k s os bs) (mkTy k2 s2 os2 bs2)).1, .int .i64 (joinS J (mkTy k s os bs) (mkTy k2 s2 os2 bs2)).2])) [] []) _ _
                rw [hres]
                exact ⟨(), .inl rfl⟩
            · skip
              have dhc13 := ne_of_beq_false hc13
              refine AX.seq ?_
              refine AX.region ?_
              refine AXo.go (f := 0) hev (d_eqI rfl rfl) ?_
              refine AXo.go (f := 0) hev (d_assign rfl) ?_
              refine AXo.nil ?_
              refine AX.cond rfl (fun hc15 => ?_) (fun hc15 => ?_)
              · skip
                have dhc15 := eq_of_beq hc15
                refine AX.seq ?_
                refine AX.draw (f := 0) orders hev ?_
                refine AXd.go rfl (d_load rfl (ld ty38 rfl rfl)) ?_
                refine AXd.go rfl (d_callT (rh1 rfl) (has1 e_of hs1)) ?_
                refine AXd.go rfl (d_load rfl (ld ty38 rfl rfl)) ?_
                refine AXd.go rfl (d_callT (rh1 rfl) (has1 e_of hs2)) ?_
                obtain ⟨k_16, s_16, os_16, bs_16, e0_16⟩ := hJf _ _ ho1 ho2
                have e1_16 : (J (ofT (.agg [.int .u8 k, .str s, .sl os, .sl bs])) (ofT (.agg [.int .u8 k2, .str s2, .sl os2, .sl bs2]))).1 = .agg [.int .u8 k_16, .str s_16, .sl os_16, .sl bs_16] := e0_16
                obtain ⟨w_16, e2_16⟩ : ∃ w, (J (ofT (.agg [.int .u8 k, .str s, .sl os, .sl bs])) (ofT (.agg [.int .u8 k2, .str s2, .sl os2, .sl bs2]))).2 = w := ⟨_, rfl⟩
                have ej_16 := has2 e_join (x := (ofT (.agg [.int .u8 k, .str s, .sl os, .sl bs]))) (y := (ofT (.agg [.int .u8 k2, .str s2, .sl os2, .sl bs2]))) ⟨ho1, ho2⟩
                rw [e1_16, e2_16] at ej_16
                refine AXd.go rfl (d_callT (rh2 rfl rfl) ej_16) ?_
                refine AXd.go rfl (d_move rfl) ?_
                refine AXd.go rfl (d_extract rfl rfl) ?_
                refine AXd.go rfl (d_extract rfl rfl) ?_
                refine AXd.go rfl (d_alloc ty38 rfl rfl) ?_
                refine AXd.go0 rfl (d_store rfl rfl (stt ty38 rfl rfl)) ?_
                refine AXd.go rfl (d_assign rfl) ?_
                refine AXd.nil (ex_and2 rfl rfl ?_)
                refine AX.seq ?_
                refine AX.seq ?_
                refine AX.region ?_
                refine AXo.go (f := 0) hev (d_move rfl) ?_
                refine AXo.go (f := 0) hev (d_neI rfl rfl) ?_
                refine AXo.nil ?_
                refine AX.cond rfl (fun hc17 => ?_) (fun hc17 => ?_)
                · skip
                  have dhc17 := ne_of_bne_true hc17
                  refine AX.seq ?_
                  refine AX.region ?_
                  refine AXo.go (f := 0) hev (d_build rfl bl38 rfl rfl) ?_
                  refine AXo.go (f := 0) hev (d_move rfl) ?_
                  refine AXo.go0 (f := 0) hev (d_store rfl rfl (stt ty38 rfl rfl)) ?_
                  refine AXo.go (f := 0) hev (d_assign rfl) ?_
                  refine AXo.nil ?_
                  refine AX.ret ?_
                  refine AX.thenRet ?_
                  refine AX.outRet ?_
                  refine AX.thenRet ?_
                  have hres : joinS J (mkTy k s os bs) (mkTy k2 s2 os2 bs2) = (.agg [.int .u8 0, .str [], .sl [], .sl []], w_16) := by
                    rw [joinS_mk]
                    rw [if_neg (ne_of_beq_false hc1)]
                    rw [if_neg (ne_of_beq_false hc3)]
                    rw [joinC_mk]
                    rw [if_neg (fun h => h.elim (fun h => h (eq_of_bne_false hg4)) (fun h => h.elim (fun h => of_decide_eq_false hg5 h) (fun h => h.1 (by have := eq_of_bne_false hg6; omega))))]
                    rw [if_neg (ne_of_beq_false hc13), if_pos (eq_of_beq hc15)]
                    exact (if_neg (fun h => ne_of_bne_true hc17 (e2_16.symm.trans h))).trans (congrArg (fun z => (ty0, z)) e2_16)
                  show ∃ _ : Unit, Fin2 (cf m) _ 0 (.ret (.t (.tup [(joinS J (mkTy k s os bs) (mkTy k2 s2 os2 bs2)).1, .int .i64 (joinS J (mkTy k s os bs) (mkTy k2 s2 os2 bs2)).2])) [] []) _ _
                  rw [hres]
                  exact ⟨(), .inl rfl⟩
                · skip
                  have dhc17 := eq_of_bne_false hc17
                  refine AX.skip ?_
                  refine AX.region ?_
                  refine AXo.go (f := 0) hev (d_load rfl (ld ty38 rfl rfl)) ?_
                  refine AXo.go (f := 0) hev (d_lit1 rfl rfl ty36 rfl ty38 rfl rfl ⟨rfl, rfl, rfl⟩) ?_
                  refine AXo.go (f := 0) hev (d_fieldAddr rfl fo38_2 rfl) ?_
                  refine AXo.go0 (f := 0) hev (d_store rfl rfl (stt ty36 rfl rfl)) ?_
                  refine AXo.nil ?_
                  refine AX.outNormal ?_
                  refine AX.seq ?_
                  refine AX.region ?_
                  refine AXo.go (f := 0) hev (d_load rfl (ld ty38 rfl rfl)) ?_
                  refine AXo.go0 (f := 0) hev (d_store rfl rfl (stt ty38 rfl rfl)) ?_
                  refine AXo.go (f := 0) hev (d_assign rfl) ?_
                  refine AXo.nil ?_
                  refine AX.ret ?_
                  have hres : joinS J (mkTy k s os bs) (mkTy k2 s2 os2 bs2) = (.agg [.int .u8 k, .str [], .sl [.agg [.int .u8 k_16, .str s_16, .sl os_16, .sl bs_16]], .sl []], 0) := by
                    rw [joinS_mk]
                    rw [if_neg (ne_of_beq_false hc1)]
                    rw [if_neg (ne_of_beq_false hc3)]
                    rw [joinC_mk]
                    rw [if_neg (fun h => h.elim (fun h => h (eq_of_bne_false hg4)) (fun h => h.elim (fun h => of_decide_eq_false hg5 h) (fun h => h.1 (by have := eq_of_bne_false hg6; omega))))]
                    rw [if_neg (ne_of_beq_false hc13), if_pos (eq_of_beq hc15)]
                    refine (if_pos (e2_16.trans (eq_of_bne_false hc17))).trans ?_; rw [show (J (ofT (mkTy k s os bs)) (ofT (mkTy k2 s2 os2 bs2))).1 = _ from e1_16, eq_of_beq hc15]; rfl
                  show ∃ _ : Unit, Fin2 (cf m) _ 0 (.ret (.t (.tup [(joinS J (mkTy k s os bs) (mkTy k2 s2 os2 bs2)).1, .int .i64 (joinS J (mkTy k s os bs) (mkTy k2 s2 os2 bs2)).2])) [] []) _ _
                  rw [hres]
                  exact ⟨(), .inl rfl⟩
              · skip
                have dhc15 := ne_of_beq_false hc15
                refine AX.seq ?_
                refine AX.region ?_
                refine AXo.go (f := 0) hev (d_eqI rfl rfl) ?_
                refine AXo.go (f := 0) hev (d_assign rfl) ?_
                refine AXo.nil ?_
                refine AX.cond rfl (fun hc18 => ?_) (fun hc18 => ?_)
                · skip
                  have dhc18 := eq_of_beq hc18
                  refine AX.seq ?_
                  refine AX.region ?_
                  refine AXo.go (f := 0) hev (d_fieldAddr rfl fo38_3 rfl) ?_
                  refine AXo.go (f := 0) hev (d_load rfl (ld ty31 rfl rfl)) ?_
                  refine AXo.go (f := 0) hev (d_lenT rfl ty31 rfl) ?_
                  refine AXo.go (f := 0) hev (d_move rfl) ?_
                  refine AXo.nil ?_
                  refine AX.block ?_
                  refine AX.loop (α := Nat × List Tree) (fun x => (match x.2 with | [] => ⟨frm 129 [(3, .ptr (.loc [0]) 0), (4, .ptr (.loc [1]) 0), (6, .ptr (.loc [2]) 0), (88, .t (.sl bs)), (89, .t (.int .i64 ((bs.length : Nat) : Int))), (90, .t (.int .i64 ((x.1 : Nat) : Int)))], [(.loc [0], .cells 38 [.t (.int .u8 k2), .t (.str s2), .t (.sl os2), .t (.sl bs2)]), (.loc [1], .cells 38 [.t (.int .u8 0), .t (.str []), .nils, .nils]), (.loc [2], .cells 38 [.t (.int .u8 k), .t (.str []), .nils, .nils])], 3⟩ | _ :: _ => ⟨frm 129 [(3, .ptr (.loc [0]) 0), (4, .ptr (.loc [1]) 0), (6, .ptr (.loc [2]) 0), (88, .t (.sl bs)), (89, .t (.int .i64 ((bs.length : Nat) : Int))), (90, .t (.int .i64 ((x.1 : Nat) : Int)))], [(.loc [0], .cells 38 [.t (.int .u8 k2), .t (.str s2), .t (.sl os2), .t (.sl bs2)]), (.loc [1], .cells 38 [.t (.int .u8 0), .t (.str []), .nils, .nils]), (.loc [2], .cells 38 [.t (.int .u8 k), .t (.str []), .nils, .ref (.loc [3]) 0 x.2.length]), (.loc [3], .arr (45, true) 5 false ((flat x.2).map .t))], 4⟩)) (fun x => (x.1 ≤ bs.length) ∧ (joinAs J (bs.take x.1) (bs2.take x.1) = some x.2) ∧ (Uni true 5 x.2) ∧ (x.2.length ≤ x.1)) (fun x => bs.length - x.1) (⟨0, []⟩) (Re.sq [.loc [1], .loc [2], .loc [16]] ⟨rfl, rfl, rfl, rfl, rfl, rfl, trivial⟩ ⟨⟨.loc [1], _, rfl, rfl, .inl rfl⟩, ⟨.loc [2], _, rfl, rfl, .inl rfl⟩, ⟨.loc [16], _, rfl, rfl, .inl rfl⟩, trivial⟩ (by decide) rfl rfl (by decide)) ⟨Nat.zero_le _, rfl, Uni.nil, Nat.le_refl _⟩ (fun x hok => ?_)
                  obtain ⟨i_19, acc_19⟩ := x
                  replace hok : (i_19 ≤ bs.length) ∧ (joinAs J (bs.take i_19) (bs2.take i_19) = some acc_19) ∧ (Uni true 5 acc_19) ∧ (acc_19.length ≤ i_19) := hok
                  obtain ⟨hok_19_0, hok_19_1, hok_19_2, hok_19_3⟩ := hok
                  rcases acc_19 with _ | ⟨a0_19, ar_19⟩
                  · skip
                    show AX _ _ ⟨frm 129 [(3, .ptr (.loc [0]) 0), (4, .ptr (.loc [1]) 0), (6, .ptr (.loc [2]) 0), (88, .t (.sl bs)), (89, .t (.int .i64 ((bs.length : Nat) : Int))), (90, .t (.int .i64 ((i_19 : Nat) : Int)))], [(.loc [0], .cells 38 [.t (.int .u8 k2), .t (.str s2), .t (.sl os2), .t (.sl bs2)]), (.loc [1], .cells 38 [.t (.int .u8 0), .t (.str []), .nils, .nils]), (.loc [2], .cells 38 [.t (.int .u8 k), .t (.str []), .nils, .nils])], 3⟩ _
                    refine AX.seq ?_
                    refine AX.region ?_
                    refine AXo.go (f := 0) hev (d_ltI rfl rfl) ?_
                    refine AXo.nil ?_
                    refine AX.seq ?_
                    refine AX.cond rfl (fun hc20 => ?_) (fun hc20 => ?_)
                    · skip
                      have dhc20 := of_decide_eq_true hc20
                      refine AX.skip ?_
                      refine AX.seq ?_
                      refine AX.block ?_
                      refine AX.seq ?_
                      refine AX.region ?_
                      refine AXo.go (f := 0) hev (d_move rfl) ?_
                      obtain ⟨e21, he21⟩ : ∃ e, bs[i_19]? = some e := ⟨bs[i_19]'(by first | omega | (simp; omega)), List.getElem?_eq_getElem _⟩
                      obtain ⟨nm_22, r_22, rfl, hd_22⟩ := hb e21 (List.mem_of_getElem? he21)
                      obtain ⟨k_22, s_22, os_22, bs_22, er_22, lo_22, lb_22⟩ := hform _ hd_22
                      obtain rfl : r_22 = [.int .u8 k_22, .str s_22, .sl os_22, .sl bs_22] := Tree.agg.inj er_22
                      refine AXo.go (f := 0) hev (d_indexT (m := i_19) rfl rfl ty31 rfl ty45 he21 rfl) ?_
                      refine AXo.go (f := 0) hev (d_load rfl (ld ty45 rfl rfl)) ?_
                      refine AXo.go (f := 0) hev (d_alloc ty45 rfl rfl) ?_
                      refine AXo.go (f := 0) hev (d_assign rfl) ?_
                      refine AXo.go0 (f := 0) hev (d_store rfl rfl (stt ty45 rfl rfl)) ?_
                      refine AXo.nil ?_
                      refine AX.seq ?_
                      refine AX.region ?_
                      refine AXo.go (f := 0) hev (d_fieldAddr rfl fo38_3 rfl) ?_
                      refine AXo.go (f := 0) hev (d_load rfl (ld ty31 rfl rfl)) ?_
                      refine AXo.go (f := 0) hev (d_move rfl) ?_
                      obtain ⟨e23, he23⟩ : ∃ e, bs2[i_19]? = some e := ⟨bs2[i_19]'(by first | omega | (simp; omega)), List.getElem?_eq_getElem _⟩
                      obtain ⟨nm_24, r_24, rfl, hd_24⟩ := hb2 e23 (List.mem_of_getElem? he23)
                      obtain ⟨k_24, s_24, os_24, bs_24, er_24, lo_24, lb_24⟩ := hform _ hd_24
                      obtain rfl : r_24 = [.int .u8 k_24, .str s_24, .sl os_24, .sl bs_24] := Tree.agg.inj er_24
                      refine AXo.go (f := 0) hev (d_indexT (m := i_19) rfl rfl ty31 rfl ty45 he23 rfl) ?_
                      refine AXo.go (f := 0) hev (d_load rfl (ld ty45 rfl rfl)) ?_
                      refine AXo.go (f := 0) hev (d_alloc ty45 rfl rfl) ?_
                      refine AXo.go0 (f := 0) hev (d_store rfl rfl (stt ty45 rfl rfl)) ?_
                      refine AXo.nil ?_
                      refine AX.seq ?_
                      refine AX.region ?_
                      refine AXo.go (f := 0) hev (d_fieldAddr rfl fo45_1 rfl) ?_
                      refine AXo.go (f := 0) hev (d_load rfl (ld ty38 rfl rfl)) ?_
                      refine AXo.go (f := 0) hev (d_fieldAddr rfl fo45_1 rfl) ?_
                      refine AXo.go (f := 0) hev (d_load rfl (ld ty38 rfl rfl)) ?_
                      obtain ⟨k_25, s_25, os_25, bs_25, e0_25⟩ := hJf _ _ hd_22 hd_24
                      have e1_25 : (J (.agg [.int .u8 k_22, .str s_22, .sl os_22, .sl bs_22]) (.agg [.int .u8 k_24, .str s_24, .sl os_24, .sl bs_24])).1 = .agg [.int .u8 k_25, .str s_25, .sl os_25, .sl bs_25] := e0_25
                      obtain ⟨w_25, e2_25⟩ : ∃ w, (J (.agg [.int .u8 k_22, .str s_22, .sl os_22, .sl bs_22]) (.agg [.int .u8 k_24, .str s_24, .sl os_24, .sl bs_24])).2 = w := ⟨_, rfl⟩
                      have ej_25 := has2 e_join (x := (.agg [.int .u8 k_22, .str s_22, .sl os_22, .sl bs_22])) (y := (.agg [.int .u8 k_24, .str s_24, .sl os_24, .sl bs_24])) ⟨hd_22, hd_24⟩
                      rw [e1_25, e2_25] at ej_25
                      refine AXo.go (f := 0) hev (d_callT (rh2 rfl rfl) ej_25) ?_
                      refine AXo.go (f := 0) hev (d_move rfl) ?_
                      refine AXo.go (f := 0) hev (d_extract rfl rfl) ?_
                      refine AXo.go (f := 0) hev (d_extract rfl rfl) ?_
                      refine AXo.go (f := 0) hev (d_alloc ty38 rfl rfl) ?_
                      refine AXo.go0 (f := 0) hev (d_store rfl rfl (stt ty38 rfl rfl)) ?_
                      refine AXo.go (f := 0) hev (d_assign rfl) ?_
                      refine AXo.nil ?_
                      refine AX.seq ?_
                      refine AX.seq ?_
                      refine AX.region ?_
                      refine AXo.go (f := 0) hev (d_move rfl) ?_
                      refine AXo.go (f := 0) hev (d_neI rfl rfl) ?_
                      refine AXo.go (f := 0) hev (d_move rfl) ?_
                      refine AXo.split 110 rfl (fun hg26 => ?_) (fun hg26 => ?_)
                      · skip
                        have dhg26 := ne_of_bne_true hg26
                        refine AXo.no rfl rfl rfl (beqTF hg26) ?_
                        refine AXo.no rfl rfl rfl (beqTF hg26) ?_
                        refine AXo.no rfl rfl rfl (beqTF hg26) ?_
                        refine AXo.no rfl rfl rfl (beqTF hg26) ?_
                        refine AXo.no rfl rfl rfl (beqTF hg26) ?_
                        refine AXo.go (f := 0) hev (d_pickT rfl hg26 rfl rfl) ?_
                        refine AXo.nil ?_
                        refine AX.condT rfl rfl ?_
                        refine AX.seq ?_
                        refine AX.region ?_
                        refine AXo.go (f := 0) hev (d_build rfl bl38 rfl rfl) ?_
                        refine AXo.go0 (f := 0) hev (d_store rfl rfl (stt ty38 rfl rfl)) ?_
                        refine AXo.go (f := 0) hev (d_assign rfl) ?_
                        refine AXo.nil ?_
                        refine AX.ret ?_
                        refine AX.thenRet ?_
                        refine AX.outRet ?_
                        refine AX.thenRet ?_
                        refine AX.leave (e := .ret) (by simp) ?_
                        refine AX.outRet ?_
                        refine AX.outRet ?_
                        refine AX.thenRet ?_
                        have hres : joinS J (mkTy k s os bs) (mkTy k2 s2 os2 bs2) = (.agg [.int .u8 0, .str [], .sl [], .sl []], 7) := by
                          rw [joinS_mk]
                          rw [if_neg (ne_of_beq_false hc1)]
                          rw [if_neg (ne_of_beq_false hc3)]
                          rw [joinC_mk]
                          rw [if_neg (fun h => h.elim (fun h => h (eq_of_bne_false hg4)) (fun h => h.elim (fun h => of_decide_eq_false hg5 h) (fun h => h.1 (by have := eq_of_bne_false hg6; omega))))]
                          rw [if_neg (ne_of_beq_false hc13), if_neg (ne_of_beq_false hc15), if_pos (eq_of_beq hc18)]
                          rw [joinAs_bad hlen he21 he23 hok_19_1 (.inl (fun h => ne_of_bne_true hg26 (e2_25.symm.trans h)))]; rfl
                        show ∃ _ : Unit, Fin2 (cf m) _ 0 (.ret (.t (.tup [(joinS J (mkTy k s os bs) (mkTy k2 s2 os2 bs2)).1, .int .i64 (joinS J (mkTy k s os bs) (mkTy k2 s2 os2 bs2)).2])) [] []) _ _
                        rw [hres]
                        exact ⟨(), .inl rfl⟩
                      · skip
                        have dhg26 := eq_of_bne_false hg26
                        refine AXo.yes (f := 0) hev rfl rfl rfl (beqFF hg26) (d_fieldAddr rfl fo45_0 rfl) ?_
                        refine AXo.yes (f := 0) hev rfl rfl rfl (beqFF hg26) (d_loadT rfl (ld ty9 rfl rfl)) ?_
                        refine AXo.yes (f := 0) hev rfl rfl rfl (beqFF hg26) (d_fieldAddr rfl fo45_0 rfl) ?_
                        refine AXo.yes (f := 0) hev rfl rfl rfl (beqFF hg26) (d_loadT rfl (ld ty9 rfl rfl)) ?_
                        refine AXo.yes (f := 0) hev rfl rfl rfl (beqFF hg26) (d_neS rfl rfl) ?_
                        refine AXo.go (f := 0) hev (d_pickF rfl hg26 rfl rfl) ?_
                        refine AXo.nil ?_
                        refine AX.cond rfl (fun hc27 => ?_) (fun hc27 => ?_)
                        · skip
                          have dhc27 := ne_of_beq_false (of_not_t hc27)
                          refine AX.seq ?_
                          refine AX.region ?_
                          refine AXo.go (f := 0) hev (d_build rfl bl38 rfl rfl) ?_
                          refine AXo.go0 (f := 0) hev (d_store rfl rfl (stt ty38 rfl rfl)) ?_
                          refine AXo.go (f := 0) hev (d_assign rfl) ?_
                          refine AXo.nil ?_
                          refine AX.ret ?_
                          refine AX.thenRet ?_
                          refine AX.outRet ?_
                          refine AX.thenRet ?_
                          refine AX.leave (e := .ret) (by simp) ?_
                          refine AX.outRet ?_
                          refine AX.outRet ?_
                          refine AX.thenRet ?_
                          have hres : joinS J (mkTy k s os bs) (mkTy k2 s2 os2 bs2) = (.agg [.int .u8 0, .str [], .sl [], .sl []], 7) := by
                            rw [joinS_mk]
                            rw [if_neg (ne_of_beq_false hc1)]
                            rw [if_neg (ne_of_beq_false hc3)]
                            rw [joinC_mk]
                            rw [if_neg (fun h => h.elim (fun h => h (eq_of_bne_false hg4)) (fun h => h.elim (fun h => of_decide_eq_false hg5 h) (fun h => h.1 (by have := eq_of_bne_false hg6; omega))))]
                            rw [if_neg (ne_of_beq_false hc13), if_neg (ne_of_beq_false hc15), if_pos (eq_of_beq hc18)]
                            rw [joinAs_bad hlen he21 he23 hok_19_1 (.inr (ne_of_beq_false (of_not_t hc27)))]; rfl
                          show ∃ _ : Unit, Fin2 (cf m) _ 0 (.ret (.t (.tup [(joinS J (mkTy k s os bs) (mkTy k2 s2 os2 bs2)).1, .int .i64 (joinS J (mkTy k s os bs) (mkTy k2 s2 os2 bs2)).2])) [] []) _ _
                          rw [hres]
                          exact ⟨(), .inl rfl⟩
                        · skip
                          have dhc27 := eq_of_beq (of_not_f hc27)
                          refine AX.skip ?_
                          refine AX.region ?_
                          refine AXo.go (f := 0) hev (d_fieldAddr rfl fo38_3 rfl) ?_
                          refine AXo.go (f := 0) hev (d_load rfl (ld ty31 rfl rfl)) ?_
                          refine AXo.go (f := 0) hev (d_fieldAddr rfl fo45_0 rfl) ?_
                          refine AXo.go (f := 0) hev (d_loadT rfl (ld ty9 rfl rfl)) ?_
                          refine AXo.go (f := 0) hev (d_load rfl (ld ty38 rfl rfl)) ?_
                          refine AXo.go (f := 0) hev (d_build rfl bl45 rfl rfl) ?_
                          refine AXo.go (f := 0) hev (d_lit1 rfl rfl ty31 rfl ty45 rfl rfl ⟨rfl, rfl, rfl⟩) ?_
                          refine AXo.go (f := 0) hev (d_appN app31 rfl rfl (.inr rfl) (Uni.cons ⟨rfl, rfl, rfl⟩ Uni.nil) (by simp) (by show _ * 88 ≤ 70368744177664; first | omega | (simp only [List.length_append, List.length_cons, List.length_nil, List.length_singleton] at *; omega) | (simp; done) | (simp; omega))) ?_
                          refine AXo.go (f := 0) hev (d_fieldAddr rfl fo38_3 rfl) ?_
                          refine AXo.go0 (f := 0) hev (d_store rfl rfl (stt ty31 rfl rfl)) ?_
                          refine AXo.nil ?_
                          refine AX.outNormal ?_
                          refine AX.region ?_
                          refine AXo.go (f := 0) hev (d_add64 rfl rfl (by omega) (by omega)) ?_
                          refine AXo.go (f := 0) hev (d_move rfl) ?_
                          refine AXo.nil ?_
                          exact ⟨.inl ⟨⟨i_19 + 1, ([.agg [.str nm_22, .int .u8 k_25, .str s_25, .sl os_25, .sl bs_25]] : List Tree)⟩, ⟨⟨(by show (i_19 + 1) ≤ bs.length; first | omega | (simp only [List.length_append, List.length_cons, List.length_nil, List.length_singleton] at *; omega) | (simp; done) | (simp; omega)), (joinAs_good hlen he21 he23 hok_19_1 (e2_25.trans (eq_of_bne_false hg26)) (eq_of_beq (of_not_f hc27)) e1_25), (by exact (Uni.cons ⟨rfl, rfl, rfl⟩ .nil)), (by show ([.agg [.str nm_22, .int .u8 k_25, .str s_25, .sl os_25, .sl bs_25]] : List Tree).length ≤ (i_19 + 1); first | omega | (simp only [List.length_append, List.length_cons, List.length_nil, List.length_singleton] at *; omega) | (simp; done) | (simp; omega))⟩, (by show (bs.length - (i_19 + 1)) < (bs.length - i_19); omega)⟩⟩, rfl, Re.sq [.loc [0], .loc [1], .loc [2], .loc [44]] ⟨rfl, rfl, rfl, rfl, rfl, rfl, trivial⟩ ⟨⟨.loc [0], _, rfl, rfl, .inl rfl⟩, ⟨.loc [1], _, rfl, rfl, .inl rfl⟩, ⟨.loc [2], _, rfl, rfl, .inl rfl⟩, ⟨.loc [44], _, rfl, rfl, .inl rn_row⟩, trivial⟩ (by decide) rfl rfl (by decide)⟩
                    · skip
                      have dhc20 := of_decide_eq_false hc20
                      refine AX.exit ?_
                      refine AX.thenExit ?_
                      refine AX.leave (e := .exit 1) (by simp) ?_
                      refine AX.outHere ?_
                      refine AX.outNormal ?_
                      refine AX.seq ?_
                      refine AX.region ?_
                      refine AXo.go (f := 0) hev (d_load rfl (ld ty38 rfl rfl)) ?_
                      refine AXo.go0 (f := 0) hev (d_store rfl rfl (stt ty38 rfl rfl)) ?_
                      refine AXo.go (f := 0) hev (d_assign rfl) ?_
                      refine AXo.nil ?_
                      refine AX.ret ?_
                      have hres : joinS J (mkTy k s os bs) (mkTy k2 s2 os2 bs2) = (.agg [.int .u8 k, .str [], .sl [], .sl []], 0) := by
                        rw [joinS_mk]
                        rw [if_neg (ne_of_beq_false hc1)]
                        rw [if_neg (ne_of_beq_false hc3)]
                        rw [joinC_mk]
                        rw [if_neg (fun h => h.elim (fun h => h (eq_of_bne_false hg4)) (fun h => h.elim (fun h => of_decide_eq_false hg5 h) (fun h => h.1 (by have := eq_of_bne_false hg6; omega))))]
                        rw [if_neg (ne_of_beq_false hc13), if_neg (ne_of_beq_false hc15), if_pos (eq_of_beq hc18)]
                        rw [joinAs_whole hlen (by omega) hok_19_1, eq_of_beq hc18]; rfl
                      show ∃ _ : Unit, Fin2 (cf m) _ 0 (.ret (.t (.tup [(joinS J (mkTy k s os bs) (mkTy k2 s2 os2 bs2)).1, .int .i64 (joinS J (mkTy k s os bs) (mkTy k2 s2 os2 bs2)).2])) [] []) _ _
                      rw [hres]
                      exact ⟨(), .inl rfl⟩
                  · skip
                    show AX _ _ ⟨frm 129 [(3, .ptr (.loc [0]) 0), (4, .ptr (.loc [1]) 0), (6, .ptr (.loc [2]) 0), (88, .t (.sl bs)), (89, .t (.int .i64 ((bs.length : Nat) : Int))), (90, .t (.int .i64 ((i_19 : Nat) : Int)))], [(.loc [0], .cells 38 [.t (.int .u8 k2), .t (.str s2), .t (.sl os2), .t (.sl bs2)]), (.loc [1], .cells 38 [.t (.int .u8 0), .t (.str []), .nils, .nils]), (.loc [2], .cells 38 [.t (.int .u8 k), .t (.str []), .nils, .ref (.loc [3]) 0 ((a0_19 :: ar_19).length)]), (.loc [3], .arr (45, true) 5 false ((flat (a0_19 :: ar_19)).map .t))], 4⟩ _
                    refine AX.seq ?_
                    refine AX.region ?_
                    refine AXo.go (f := 0) hev (d_ltI rfl rfl) ?_
                    refine AXo.nil ?_
                    refine AX.seq ?_
                    refine AX.cond rfl (fun hc28 => ?_) (fun hc28 => ?_)
                    · skip
                      have dhc28 := of_decide_eq_true hc28
                      refine AX.skip ?_
                      refine AX.seq ?_
                      refine AX.block ?_
                      refine AX.seq ?_
                      refine AX.region ?_
                      refine AXo.go (f := 0) hev (d_move rfl) ?_
                      obtain ⟨e29, he29⟩ : ∃ e, bs[i_19]? = some e := ⟨bs[i_19]'(by first | omega | (simp; omega)), List.getElem?_eq_getElem _⟩
                      obtain ⟨nm_30, r_30, rfl, hd_30⟩ := hb e29 (List.mem_of_getElem? he29)
                      obtain ⟨k_30, s_30, os_30, bs_30, er_30, lo_30, lb_30⟩ := hform _ hd_30
                      obtain rfl : r_30 = [.int .u8 k_30, .str s_30, .sl os_30, .sl bs_30] := Tree.agg.inj er_30
                      refine AXo.go (f := 0) hev (d_indexT (m := i_19) rfl rfl ty31 rfl ty45 he29 rfl) ?_
                      refine AXo.go (f := 0) hev (d_load rfl (ld ty45 rfl rfl)) ?_
                      refine AXo.go (f := 0) hev (d_alloc ty45 rfl rfl) ?_
                      refine AXo.go (f := 0) hev (d_assign rfl) ?_
                      refine AXo.go0 (f := 0) hev (d_store rfl rfl (stt ty45 rfl rfl)) ?_
                      refine AXo.nil ?_
                      refine AX.seq ?_
                      refine AX.region ?_
                      refine AXo.go (f := 0) hev (d_fieldAddr rfl fo38_3 rfl) ?_
                      refine AXo.go (f := 0) hev (d_load rfl (ld ty31 rfl rfl)) ?_
                      refine AXo.go (f := 0) hev (d_move rfl) ?_
                      obtain ⟨e31, he31⟩ : ∃ e, bs2[i_19]? = some e := ⟨bs2[i_19]'(by first | omega | (simp; omega)), List.getElem?_eq_getElem _⟩
                      obtain ⟨nm_32, r_32, rfl, hd_32⟩ := hb2 e31 (List.mem_of_getElem? he31)
                      obtain ⟨k_32, s_32, os_32, bs_32, er_32, lo_32, lb_32⟩ := hform _ hd_32
                      obtain rfl : r_32 = [.int .u8 k_32, .str s_32, .sl os_32, .sl bs_32] := Tree.agg.inj er_32
                      refine AXo.go (f := 0) hev (d_indexT (m := i_19) rfl rfl ty31 rfl ty45 he31 rfl) ?_
                      refine AXo.go (f := 0) hev (d_load rfl (ld ty45 rfl rfl)) ?_
                      refine AXo.go (f := 0) hev (d_alloc ty45 rfl rfl) ?_
                      refine AXo.go0 (f := 0) hev (d_store rfl rfl (stt ty45 rfl rfl)) ?_
                      refine AXo.nil ?_
                      refine AX.seq ?_
                      refine AX.region ?_
                      refine AXo.go (f := 0) hev (d_fieldAddr rfl fo45_1 rfl) ?_
                      refine AXo.go (f := 0) hev (d_load rfl (ld ty38 rfl rfl)) ?_
                      refine AXo.go (f := 0) hev (d_fieldAddr rfl fo45_1 rfl) ?_
                      refine AXo.go (f := 0) hev (d_load rfl (ld ty38 rfl rfl)) ?_
                      obtain ⟨k_33, s_33, os_33, bs_33, e0_33⟩ := hJf _ _ hd_30 hd_32
                      have e1_33 : (J (.agg [.int .u8 k_30, .str s_30, .sl os_30, .sl bs_30]) (.agg [.int .u8 k_32, .str s_32, .sl os_32, .sl bs_32])).1 = .agg [.int .u8 k_33, .str s_33, .sl os_33, .sl bs_33] := e0_33
                      obtain ⟨w_33, e2_33⟩ : ∃ w, (J (.agg [.int .u8 k_30, .str s_30, .sl os_30, .sl bs_30]) (.agg [.int .u8 k_32, .str s_32, .sl os_32, .sl bs_32])).2 = w := ⟨_, rfl⟩
                      have ej_33 := has2 e_join (x := (.agg [.int .u8 k_30, .str s_30, .sl os_30, .sl bs_30])) (y := (.agg [.int .u8 k_32, .str s_32, .sl os_32, .sl bs_32])) ⟨hd_30, hd_32⟩
                      rw [e1_33, e2_33] at ej_33
                      refine AXo.go (f := 0) hev (d_callT (rh2 rfl rfl) ej_33) ?_
                      refine AXo.go (f := 0) hev (d_move rfl) ?_
                      refine AXo.go (f := 0) hev (d_extract rfl rfl) ?_
                      refine AXo.go (f := 0) hev (d_extract rfl rfl) ?_
                      refine AXo.go (f := 0) hev (d_alloc ty38 rfl rfl) ?_
                      refine AXo.go0 (f := 0) hev (d_store rfl rfl (stt ty38 rfl rfl)) ?_
                      refine AXo.go (f := 0) hev (d_assign rfl) ?_
                      refine AXo.nil ?_
                      refine AX.seq ?_
                      refine AX.seq ?_
                      refine AX.region ?_
                      refine AXo.go (f := 0) hev (d_move rfl) ?_
                      refine AXo.go (f := 0) hev (d_neI rfl rfl) ?_
                      refine AXo.go (f := 0) hev (d_move rfl) ?_
                      refine AXo.split 110 rfl (fun hg34 => ?_) (fun hg34 => ?_)
                      · skip
                        have dhg34 := ne_of_bne_true hg34
                        refine AXo.no rfl rfl rfl (beqTF hg34) ?_
                        refine AXo.no rfl rfl rfl (beqTF hg34) ?_
                        refine AXo.no rfl rfl rfl (beqTF hg34) ?_
                        refine AXo.no rfl rfl rfl (beqTF hg34) ?_
                        refine AXo.no rfl rfl rfl (beqTF hg34) ?_
                        refine AXo.go (f := 0) hev (d_pickT rfl hg34 rfl rfl) ?_
                        refine AXo.nil ?_
                        refine AX.condT rfl rfl ?_
                        refine AX.seq ?_
                        refine AX.region ?_
                        refine AXo.go (f := 0) hev (d_build rfl bl38 rfl rfl) ?_
                        refine AXo.go0 (f := 0) hev (d_store rfl rfl (stt ty38 rfl rfl)) ?_
                        refine AXo.go (f := 0) hev (d_assign rfl) ?_
                        refine AXo.nil ?_
                        refine AX.ret ?_
                        refine AX.thenRet ?_
                        refine AX.outRet ?_
                        refine AX.thenRet ?_
                        refine AX.leave (e := .ret) (by simp) ?_
                        refine AX.outRet ?_
                        refine AX.outRet ?_
                        refine AX.thenRet ?_
                        have hres : joinS J (mkTy k s os bs) (mkTy k2 s2 os2 bs2) = (.agg [.int .u8 0, .str [], .sl [], .sl []], 7) := by
                          rw [joinS_mk]
                          rw [if_neg (ne_of_beq_false hc1)]
                          rw [if_neg (ne_of_beq_false hc3)]
                          rw [joinC_mk]
                          rw [if_neg (fun h => h.elim (fun h => h (eq_of_bne_false hg4)) (fun h => h.elim (fun h => of_decide_eq_false hg5 h) (fun h => h.1 (by have := eq_of_bne_false hg6; omega))))]
                          rw [if_neg (ne_of_beq_false hc13), if_neg (ne_of_beq_false hc15), if_pos (eq_of_beq hc18)]
                          rw [joinAs_bad hlen he29 he31 hok_19_1 (.inl (fun h => ne_of_bne_true hg34 (e2_33.symm.trans h)))]; rfl
                        show ∃ _ : Unit, Fin2 (cf m) _ 0 (.ret (.t (.tup [(joinS J (mkTy k s os bs) (mkTy k2 s2 os2 bs2)).1, .int .i64 (joinS J (mkTy k s os bs) (mkTy k2 s2 os2 bs2)).2])) [] []) _ _
                        rw [hres]
                        exact ⟨(), .inl rfl⟩
                      · skip
                        have dhg34 := eq_of_bne_false hg34
                        refine AXo.yes (f := 0) hev rfl rfl rfl (beqFF hg34) (d_fieldAddr rfl fo45_0 rfl) ?_
                        refine AXo.yes (f := 0) hev rfl rfl rfl (beqFF hg34) (d_loadT rfl (ld ty9 rfl rfl)) ?_
                        refine AXo.yes (f := 0) hev rfl rfl rfl (beqFF hg34) (d_fieldAddr rfl fo45_0 rfl) ?_
                        refine AXo.yes (f := 0) hev rfl rfl rfl (beqFF hg34) (d_loadT rfl (ld ty9 rfl rfl)) ?_
                        refine AXo.yes (f := 0) hev rfl rfl rfl (beqFF hg34) (d_neS rfl rfl) ?_
                        refine AXo.go (f := 0) hev (d_pickF rfl hg34 rfl rfl) ?_
                        refine AXo.nil ?_
                        refine AX.cond rfl (fun hc35 => ?_) (fun hc35 => ?_)
                        · skip
                          have dhc35 := ne_of_beq_false (of_not_t hc35)
                          refine AX.seq ?_
                          refine AX.region ?_
                          refine AXo.go (f := 0) hev (d_build rfl bl38 rfl rfl) ?_
                          refine AXo.go0 (f := 0) hev (d_store rfl rfl (stt ty38 rfl rfl)) ?_
                          refine AXo.go (f := 0) hev (d_assign rfl) ?_
                          refine AXo.nil ?_
                          refine AX.ret ?_
                          refine AX.thenRet ?_
                          refine AX.outRet ?_
                          refine AX.thenRet ?_
                          refine AX.leave (e := .ret) (by simp) ?_
                          refine AX.outRet ?_
                          refine AX.outRet ?_
                          refine AX.thenRet ?_
                          have hres : joinS J (mkTy k s os bs) (mkTy k2 s2 os2 bs2) = (.agg [.int .u8 0, .str [], .sl [], .sl []], 7) := by
                            rw [joinS_mk]
                            rw [if_neg (ne_of_beq_false hc1)]
                            rw [if_neg (ne_of_beq_false hc3)]
                            rw [joinC_mk]
                            rw [if_neg (fun h => h.elim (fun h => h (eq_of_bne_false hg4)) (fun h => h.elim (fun h => of_decide_eq_false hg5 h) (fun h => h.1 (by have := eq_of_bne_false hg6; omega))))]
                            rw [if_neg (ne_of_beq_false hc13), if_neg (ne_of_beq_false hc15), if_pos (eq_of_beq hc18)]
                            rw [joinAs_bad hlen he29 he31 hok_19_1 (.inr (ne_of_beq_false (of_not_t hc35)))]; rfl
                          show ∃ _ : Unit, Fin2 (cf m) _ 0 (.ret (.t (.tup [(joinS J (mkTy k s os bs) (mkTy k2 s2 os2 bs2)).1, .int .i64 (joinS J (mkTy k s os bs) (mkTy k2 s2 os2 bs2)).2])) [] []) _ _
                          rw [hres]
                          exact ⟨(), .inl rfl⟩
                        · skip
                          have dhc35 := eq_of_beq (of_not_f hc35)
                          refine AX.skip ?_
                          refine AX.region ?_
                          refine AXo.go (f := 0) hev (d_fieldAddr rfl fo38_3 rfl) ?_
                          refine AXo.go (f := 0) hev (d_load rfl (ld ty31 rfl rfl)) ?_
                          refine AXo.go (f := 0) hev (d_fieldAddr rfl fo45_0 rfl) ?_
                          refine AXo.go (f := 0) hev (d_loadT rfl (ld ty9 rfl rfl)) ?_
                          refine AXo.go (f := 0) hev (d_load rfl (ld ty38 rfl rfl)) ?_
                          refine AXo.go (f := 0) hev (d_build rfl bl45 rfl rfl) ?_
                          refine AXo.go (f := 0) hev (d_lit1 rfl rfl ty31 rfl ty45 rfl rfl ⟨rfl, rfl, rfl⟩) ?_
                          refine AXo.go (f := 0) hev (d_appR' app31 rfl rfl (.inr rfl) rfl (by first | rfl | (simp; done) | (simp; omega)) hok_19_2 (Uni.cons ⟨rfl, rfl, rfl⟩ Uni.nil) (by simp) (by show _ * 88 ≤ 70368744177664; first | omega | (simp only [List.length_append, List.length_cons, List.length_nil, List.length_singleton] at *; omega) | (simp; done) | (simp; omega))) ?_
                          refine AXo.go (f := 0) hev (d_fieldAddr rfl fo38_3 rfl) ?_
                          refine AXo.go0 (f := 0) hev (d_store rfl rfl (stt ty31 rfl rfl)) ?_
                          refine AXo.nil ?_
                          refine AX.outNormal ?_
                          refine AX.region ?_
                          refine AXo.go (f := 0) hev (d_add64 rfl rfl (by omega) (by omega)) ?_
                          refine AXo.go (f := 0) hev (d_move rfl) ?_
                          refine AXo.nil ?_
                          exact ⟨.inl ⟨⟨i_19 + 1, (a0_19 :: ar_19) ++ ([.agg [.str nm_30, .int .u8 k_33, .str s_33, .sl os_33, .sl bs_33]] : List Tree)⟩, ⟨⟨(by show (i_19 + 1) ≤ bs.length; first | omega | (simp only [List.length_append, List.length_cons, List.length_nil, List.length_singleton] at *; omega) | (simp; done) | (simp; omega)), (joinAs_good hlen he29 he31 hok_19_1 (e2_33.trans (eq_of_bne_false hg34)) (eq_of_beq (of_not_f hc35)) e1_33), (by exact hok_19_2.append (Uni.cons ⟨rfl, rfl, rfl⟩ .nil)), (by show ((a0_19 :: ar_19) ++ ([.agg [.str nm_30, .int .u8 k_33, .str s_33, .sl os_33, .sl bs_33]] : List Tree)).length ≤ (i_19 + 1); first | omega | (simp only [List.length_append, List.length_cons, List.length_nil, List.length_singleton] at *; omega) | (simp; done) | (simp; omega))⟩, (by show (bs.length - (i_19 + 1)) < (bs.length - i_19); omega)⟩⟩, rfl, Re.sq [.loc [0], .loc [1], .loc [2], .loc [3]] ⟨rfl, rfl, rfl, rfl, rfl, rfl, trivial⟩ ⟨⟨.loc [0], _, rfl, rfl, .inl rfl⟩, ⟨.loc [1], _, rfl, rfl, .inl rfl⟩, ⟨.loc [2], _, rfl, rfl, .inl rfl⟩, ⟨.loc [3], _, rfl, rfl, .inl rn_row⟩, trivial⟩ (by decide) rfl rfl (by decide)⟩
                    · skip
                      have dhc28 := of_decide_eq_false hc28
                      refine AX.exit ?_
                      refine AX.thenExit ?_
                      refine AX.leave (e := .exit 1) (by simp) ?_
                      refine AX.outHere ?_
                      refine AX.outNormal ?_
                      refine AX.seq ?_
                      refine AX.region ?_
                      refine AXo.go (f := 0) hev (d_load rfl (ld ty38 rfl rfl)) ?_
                      refine AXo.go0 (f := 0) hev (d_store rfl rfl (stt ty38 rfl rfl)) ?_
                      refine AXo.go (f := 0) hev (d_assign rfl) ?_
                      refine AXo.nil ?_
                      refine AX.ret ?_
                      have hres : joinS J (mkTy k s os bs) (mkTy k2 s2 os2 bs2) = (.agg [.int .u8 k, .str [], .sl [], .sl (a0_19 :: ar_19)], 0) := by
                        rw [joinS_mk]
                        rw [if_neg (ne_of_beq_false hc1)]
                        rw [if_neg (ne_of_beq_false hc3)]
                        rw [joinC_mk]
                        rw [if_neg (fun h => h.elim (fun h => h (eq_of_bne_false hg4)) (fun h => h.elim (fun h => of_decide_eq_false hg5 h) (fun h => h.1 (by have := eq_of_bne_false hg6; omega))))]
                        rw [if_neg (ne_of_beq_false hc13), if_neg (ne_of_beq_false hc15), if_pos (eq_of_beq hc18)]
                        rw [joinAs_whole hlen (by omega) hok_19_1, eq_of_beq hc18]; rfl
                      show ∃ _ : Unit, Fin2 (cf m) _ 0 (.ret (.t (.tup [(joinS J (mkTy k s os bs) (mkTy k2 s2 os2 bs2)).1, .int .i64 (joinS J (mkTy k s os bs) (mkTy k2 s2 os2 bs2)).2])) [] []) _ _
                      rw [hres]
                      exact ⟨(), .inl (fin_data rfl (frz_tup (frzs_cons (frz_agg (frzs_cons (frz_tree _ _ _) (frzs_cons (frz_tree _ _ _) (frzs_cons frz_nils (frzs_cons (frz_row' rfl hok_19_2 (by decide) (by first | rfl | (simp; done) | (simp; omega)) rfl) frzs_nil))))) (frzs_cons (frz_tree _ _ _) frzs_nil))))⟩
                · skip
                  have dhc18 := ne_of_beq_false hc18
                  refine AX.skip ?_
                  refine AX.outNormal ?_
                  refine AX.seq ?_
                  refine AX.region ?_
                  refine AXo.go (f := 0) hev (d_load rfl (ld ty38 rfl rfl)) ?_
                  refine AXo.go0 (f := 0) hev (d_store rfl rfl (stt ty38 rfl rfl)) ?_
                  refine AXo.go (f := 0) hev (d_assign rfl) ?_
                  refine AXo.nil ?_
                  refine AX.ret ?_
                  have hres : joinS J (mkTy k s os bs) (mkTy k2 s2 os2 bs2) = (.agg [.int .u8 k, .str [], .sl [], .sl []], 0) := by
                    rw [joinS_mk]
                    rw [if_neg (ne_of_beq_false hc1)]
                    rw [if_neg (ne_of_beq_false hc3)]
                    rw [joinC_mk]
                    rw [if_neg (fun h => h.elim (fun h => h (eq_of_bne_false hg4)) (fun h => h.elim (fun h => of_decide_eq_false hg5 h) (fun h => h.1 (by have := eq_of_bne_false hg6; omega))))]
                    rw [if_neg (ne_of_beq_false hc13), if_neg (ne_of_beq_false hc15), if_neg (ne_of_beq_false hc18)]; rfl
                  show ∃ _ : Unit, Fin2 (cf m) _ 0 (.ret (.t (.tup [(joinS J (mkTy k s os bs) (mkTy k2 s2 os2 bs2)).1, .int .i64 (joinS J (mkTy k s os bs) (mkTy k2 s2 os2 bs2)).2])) [] []) _ _
                  rw [hres]
                  exact ⟨(), .inl rfl⟩

end
end Go.Proofs.YtijfhoelihclbaaGreatDoor.w
