/- TypesJoined. -/
import Derived.Test.YtijfhoelihclbaaGreatDoorV
import Derived.Test.YtijfhoelihclbaaGreatDoorW
namespace Go.Proofs.YtijfhoelihclbaaGreatDoor.w
open Go Go.Abs Go.Abs.Ty
set_option linter.unusedVariables false
set_option maxRecDepth 100000
set_option maxHeartbeats 2000000
noncomputable section


theorem check_at (m : Int) (D G : Tree → Prop) (FZ : Tree → Int × Bool) (hsz : ∀ x, D x → R1 (cf m) 47 x (.tup [.int .i64 (FZ x).1, .bool (FZ x).2])) (k : Int) (s : List UInt8) (os bs : List Tree) (hd : D (mkTy k s os bs)) (hz : (FZ (mkTy k s os bs)).2 = true → G (mkTy k s os bs)) :
    ∃ r : {r : Int // r = 0 → G (mkTy k s os bs)}, R1 (cf m) 13 (mkTy k s os bs) (.int .i64 r.1) := by
  obtain ⟨ev, hev, e_sz⟩ : ∃ ev, CallOk (cf m) ev ∧ Has ev 47 (pc1 D (fun x => .tup [.int .i64 (FZ x).1, .bool (FZ x).2])) := ⟨_, (oneEv_ok (pc1_ok hsz) noEv_ok), has_here⟩
  show ∃ r : {r : Int // r = 0 → G (mkTy k s os bs)}, CallRel (cf m) 13 [.t (mkTy k s os bs)] [] (.ret (.t (.int .i64 r.1)) [] [])
  refine AX.start 16 1 Tryz.func13 rfl (by decide) rfl rfl (by decide) ?_
  refine AX.seq ?_
  refine AX.region ?_
  refine AXo.go (f := 0) hev (d_box rfl rfl) ?_
  refine AXo.go (f := 0) hev (d_assign rfl) ?_
  refine AXo.nil ?_
  refine AX.seq ?_
  refine AX.region ?_
  refine AXo.go (f := 0) hev (d_load rfl (ld ty38 rfl rfl)) ?_
  refine AXo.go (f := 0) hev (d_callT (rh1 rfl) (has1 e_sz hd)) ?_
  refine AXo.go (f := 0) hev (d_move rfl) ?_
  refine AXo.go (f := 0) hev (d_extract rfl rfl) ?_
  refine AXo.go (f := 0) hev (d_extract rfl rfl) ?_
  refine AXo.go (f := 0) hev (d_assign rfl) ?_
  refine AXo.go (f := 0) hev (d_assign rfl) ?_
  refine AXo.nil ?_
  refine AX.seq ?_
  refine AX.block ?_
  refine AX.seq ?_
  refine AX.region ?_
  refine AXo.go (f := 0) hev (d_move rfl) ?_
  refine AXo.go (f := 0) hev (d_not rfl) ?_
  refine AXo.go (f := 0) hev (d_assign rfl) ?_
  refine AXo.nil ?_
  refine AX.cond rfl (fun hc1 => ?_) (fun hc1 => ?_)
  · skip
    refine AX.seq ?_
    refine AX.region ?_
    refine AXo.go (f := 0) hev (d_assign rfl) ?_
    refine AXo.nil ?_
    refine AX.ret ?_
    refine AX.outRet ?_
    refine AX.thenRet ?_
    refine ⟨⟨_, fun hr => ?_⟩, .inl rfl⟩
    exact absurd hr (by decide)
  · skip
    refine AX.seq ?_
    refine AX.region ?_
    refine AXo.go (f := 0) hev (d_move rfl) ?_
    refine AXo.go (f := 0) hev (d_gtI rfl rfl) ?_
    refine AXo.go (f := 0) hev (d_assign rfl) ?_
    refine AXo.nil ?_
    refine AX.cond rfl (fun hc2 => ?_) (fun hc2 => ?_)
    · skip
      have dhc2 := of_decide_eq_true hc2
      refine AX.seq ?_
      refine AX.region ?_
      refine AXo.go (f := 0) hev (d_assign rfl) ?_
      refine AXo.nil ?_
      refine AX.ret ?_
      refine AX.outRet ?_
      refine AX.thenRet ?_
      refine ⟨⟨_, fun hr => ?_⟩, .inl rfl⟩
      exact absurd hr (by decide)
    · skip
      have dhc2 := of_decide_eq_false hc2
      refine AX.skip ?_
      refine AX.outNormal ?_
      refine AX.seq ?_
      refine AX.region ?_
      refine AXo.go (f := 0) hev (d_assign rfl) ?_
      refine AXo.nil ?_
      refine AX.ret ?_
      refine ⟨⟨_, fun hr => ?_⟩, .inl rfl⟩
      exact hz (of_not_f hc1)

theorem size_ty (m : Int) : ∀ n, ∃ F : Tree → Int × Bool, ∀ x, Dp n x → R1 (cf m) 47 x (.tup [.int .i64 (F x).1, .bool (F x).2]) ∧ ((F x).2 = true → Gd n x)
  | 0 => by
    obtain ⟨r, hr⟩ := size_at m (fun _ => False) (fun _ => True) form0 (fun _ => 0) (fun _ => false) (fun x h => h.elim) (fun x h => h.elim) 0 [] [] [] (by simp) (by simp) (by simp) (fun e h => by simp at h)
    exact ⟨fun _ => r.1, fun x hx => by subst hx; exact ⟨hr, fun _ => rfl⟩⟩
  | n + 1 => by
    obtain ⟨F, hF⟩ := size_ty m n
    refine Go.Abs.choose_if (P := Dp (n + 1)) (Q := fun x (r : Int × Bool) => R1 (cf m) 47 x (.tup [.int .i64 r.1, .bool r.2]) ∧ (r.2 = true → Gd (n + 1) x)) fun x hx => ?_
    obtain ⟨k, s, os, bs, rfl, l1, l2, h1, h2⟩ := hx
    obtain ⟨r, hr⟩ := size_at m (Dp n) (Gd n) (Dp.formD n) (fun x => (F x).1) (fun x => (F x).2) (fun x h => (hF x h).1) (fun x h e => (hF x h).2 e) k s os bs l1 l2 h1 h2
    exact ⟨r.1, hr, r.2⟩
theorem check_ty (m : Int) (n : Nat) : ∃ ck : Tree → Int, ∀ x, Dp n x → R1 (cf m) 13 x (.int .i64 (ck x)) ∧ (ck x = 0 → Gd n x) := by
  obtain ⟨F, hF⟩ := size_ty m n
  refine Go.Abs.choose_if (P := Dp n) (Q := fun x (r : Int) => R1 (cf m) 13 x (.int .i64 r) ∧ (r = 0 → Gd n x)) fun x hx => ?_
  have hx0 := hx
  obtain ⟨k, s, os, bs, rfl, _, _⟩ := hx.form
  obtain ⟨r, hr⟩ := check_at m (Dp n) (Gd n) F (fun x h => (hF x h).1) k s os bs hx0 (hF _ hx0).2
  exact ⟨r.1, hr, r.2⟩
theorem lives_at (m : Int) : R0 (cf m) 6 (.bool true) := by
  have hr := isYes_eq (live.yes6 m)
  rw [evalF_eq] at hr
  exact fun G w vs hw hg ha hh hv => evalN_ok (live.orders m) (live.ext3_ok m) 300 6 [] [] _ hr G w vs hw hg ha hh hv

theorem lawJ_at (m : Int) (n : Nat) (ck : Tree → Int) (hck : ∀ x, Dp n x → R1 (cf m) 13 x (.int .i64 (ck x)) ∧ (ck x = 0 → Gd n x)) (k : Int) (s : List UInt8) (os bs : List Tree) (k2 : Int) (s2 : List UInt8) (os2 bs2 : List Tree) (kc : Int) (sc : List UInt8) (oc bc : List Tree) (w : Int)
    (ha : Dp n (mkTy k s os bs)) (hb : Dp n (mkTy k2 s2 os2 bs2)) (hc : Dp n (mkTy kc sc oc bc)) (hj : joinN n (.agg [.int .u8 k, .str s, .sl os, .sl bs]) (.agg [.int .u8 k2, .str s2, .sl os2, .sl bs2]) = (.agg [.int .u8 kc, .str sc, .sl oc, .sl bc], w)) (v : Tree) (hv : T .apiValue v) : CallRel (cf m) 5 [.t (mkTy k s os bs), .t (mkTy k2 s2 os2 bs2), .t v] [] (.ret (.t (.bool true)) [] []) := by
  have hj2 : joinN n (.agg [.int .u8 k2, .str s2, .sl os2, .sl bs2]) (.agg [.int .u8 k, .str s, .sl os, .sl bs]) = (.agg [.int .u8 kc, .str sc, .sl oc, .sl bc], w) := (joinN_comm n _ _).trans hj
  have hGa : ck (.agg [.int .u8 k, .str s, .sl os, .sl bs]) = 0 → Gd n (.agg [.int .u8 k, .str s, .sl os, .sl bs]) := (hck _ ha).2
  have hGb : ck (.agg [.int .u8 k2, .str s2, .sl os2, .sl bs2]) = 0 → Gd n (.agg [.int .u8 k2, .str s2, .sl os2, .sl bs2]) := (hck _ hb).2
  have hw1 : (joinN n (.agg [.int .u8 k, .str s, .sl os, .sl bs]) (.agg [.int .u8 k2, .str s2, .sl os2, .sl bs2])).1 = .agg [.int .u8 kc, .str sc, .sl oc, .sl bc] := by rw [hj]
  have hw2 : (joinN n (.agg [.int .u8 k, .str s, .sl os, .sl bs]) (.agg [.int .u8 k2, .str s2, .sl os2, .sl bs2])).2 = w := by rw [hj]
  have hce : w ≠ 0 → .agg [.int .u8 kc, .str sc, .sl oc, .sl bc] = ty0 := fun h => by rw [← hw1]; exact joinN_err n _ _ (by rw [hw2]; exact h)
  have hj3 : Gd n (.agg [.int .u8 k, .str s, .sl os, .sl bs]) → Gd n (.agg [.int .u8 k2, .str s2, .sl os2, .sl bs2]) → w = 0 → joinN n (.agg [.int .u8 kc, .str sc, .sl oc, .sl bc]) (.agg [.int .u8 k, .str s, .sl os, .sl bs]) = (.agg [.int .u8 kc, .str sc, .sl oc, .sl bc], 0) := fun g1 g2 h => by
    have := (joinN_more n _ _ g1 g2 (hw2.trans h)).2
    rw [hw1] at this; exact this
  have hj4 : Gd n (.agg [.int .u8 k, .str s, .sl os, .sl bs]) → joinN n (.agg [.int .u8 k, .str s, .sl os, .sl bs]) (.agg [.int .u8 k, .str s, .sl os, .sl bs]) = (.agg [.int .u8 k, .str s, .sl os, .sl bs], 0) := fun g => joinN_self n _ g
  have hjf : Gd n (.agg [.int .u8 k, .str s, .sl os, .sl bs]) → Gd n (.agg [.int .u8 k2, .str s2, .sl os2, .sl bs2]) → w = 0 → ∀ v, (fitsN n v (.agg [.int .u8 k, .str s, .sl os, .sl bs]) = true ∨ fitsN n v (.agg [.int .u8 k2, .str s2, .sl os2, .sl bs2]) = true) → fitsN n v (.agg [.int .u8 kc, .str sc, .sl oc, .sl bc]) = true := fun g1 g2 h v hf => by
    have := fits_join n _ _ v g1 g2 (hw2.trans h) hf
    rw [hw1] at this; exact this
  obtain ⟨ev, hev, e_lv, e_join, e_st, e_ck, e_fits⟩ : ∃ ev, CallOk (cf m) ev ∧ Has ev 6 (pc0 (.bool true)) ∧ Has ev 12 (pc2 (fun x y => Dp n x ∧ Dp n y) fun x y => .tup [(joinN n x y).1, .int .i64 (joinN n x y).2]) ∧ Has ev 8 (pc2 (fun x y => Dp n x ∧ Dp n y) fun x y => .bool (same x y)) ∧ Has ev 13 (pc1 (Dp n) fun x => .int .i64 (ck x)) ∧ Has ev 14 (pc2 (fun v t => T .apiValue v ∧ Dp n t) fun v t => .bool (fitsN n v t)) := ⟨_, (oneEv_ok (pc0_ok (lives_at m)) (oneEv_ok (pc2_ok fun x y h => join_ty m n x y h.1 h.2) (oneEv_ok (pc2_ok fun x y h => same_ty m n x y h) (oneEv_ok (pc1_ok fun x h => (hck x h).1) (oneEv_ok (pc2_ok fun v t h => fits_ty m n v t h) noEv_ok))))), has_here, (has_there rfl has_here), (has_there rfl (has_there rfl has_here)), (has_there rfl (has_there rfl (has_there rfl has_here))), (has_there rfl (has_there rfl (has_there rfl (has_there rfl has_here))))⟩
  refine CallRel.of_ex ?_
  have hT_1 := hv
  obtain ⟨kind_1, b__1, n_1, s_1, t__1, names_1, list_1, rfl, hf_1_0, hf_1_1, hf_1_2, hf_1_3⟩ := T.apiValue_inv hT_1
  refine AX.start 102 3 Tryz.func5 rfl (by decide) rfl rfl (by decide) ?_
  refine AX.seq ?_
  refine AX.region ?_
  refine AXo.go (f := 0) hev (d_box rfl rfl) ?_
  refine AXo.go (f := 0) hev (d_box rfl rfl) ?_
  refine AXo.go (f := 0) hev (d_box rfl rfl) ?_
  refine AXo.go (f := 0) hev (d_assign rfl) ?_
  refine AXo.nil ?_
  refine AX.seq ?_
  refine AX.seq ?_
  refine AX.region ?_
  refine AXo.go (f := 0) hev (d_callT (ts := []) rfl (has0 e_lv)) ?_
  refine AXo.go (f := 0) hev (d_not rfl) ?_
  refine AXo.nil ?_
  refine AX.condF rfl rfl ?_
  refine AX.skip ?_
  refine AX.seq ?_
  refine AX.region ?_
  refine AXo.go (f := 0) hev (d_load rfl (ld ty38 rfl rfl)) ?_
  refine AXo.go (f := 0) hev (d_load rfl (ld ty38 rfl rfl)) ?_
  refine AXo.go (f := 0) hev (d_callT (rh2 rfl rfl) ((has2 e_join (x := (.agg [.int .u8 k, .str s, .sl os, .sl bs])) (y := (.agg [.int .u8 k2, .str s2, .sl os2, .sl bs2])) ⟨ha, hb⟩).trans (by rw [hj]))) ?_
  refine AXo.go (f := 0) hev (d_move rfl) ?_
  refine AXo.go (f := 0) hev (d_extract rfl rfl) ?_
  refine AXo.go (f := 0) hev (d_extract rfl rfl) ?_
  refine AXo.go (f := 0) hev (d_alloc ty38 rfl rfl) ?_
  refine AXo.go0 (f := 0) hev (d_store rfl rfl (stt ty38 rfl rfl)) ?_
  refine AXo.go (f := 0) hev (d_assign rfl) ?_
  refine AXo.nil ?_
  refine AX.seq ?_
  refine AX.region ?_
  refine AXo.go (f := 0) hev (d_load rfl (ld ty38 rfl rfl)) ?_
  refine AXo.go (f := 0) hev (d_load rfl (ld ty38 rfl rfl)) ?_
  refine AXo.go (f := 0) hev (d_callT (rh2 rfl rfl) ((has2 e_join (x := (.agg [.int .u8 k2, .str s2, .sl os2, .sl bs2])) (y := (.agg [.int .u8 k, .str s, .sl os, .sl bs])) ⟨hb, ha⟩).trans (by rw [hj2]))) ?_
  refine AXo.go (f := 0) hev (d_move rfl) ?_
  refine AXo.go (f := 0) hev (d_extract rfl rfl) ?_
  refine AXo.go (f := 0) hev (d_extract rfl rfl) ?_
  refine AXo.go (f := 0) hev (d_alloc ty38 rfl rfl) ?_
  refine AXo.go0 (f := 0) hev (d_store rfl rfl (stt ty38 rfl rfl)) ?_
  refine AXo.go (f := 0) hev (d_assign rfl) ?_
  refine AXo.nil ?_
  refine AX.seq ?_
  refine AX.seq ?_
  refine AX.region ?_
  refine AXo.go (f := 0) hev (d_move rfl) ?_
  refine AXo.go (f := 0) hev (d_move rfl) ?_
  refine AXo.go (f := 0) hev (d_neI0 rfl rfl) ?_
  refine AXo.go (f := 0) hev (d_move rfl) ?_
  refine AXo.yes (f := 0) hev rfl rfl rfl (beqFF rfl) (d_load rfl (ld ty38 rfl rfl)) ?_
  refine AXo.yes (f := 0) hev rfl rfl rfl (beqFF rfl) (d_load rfl (ld ty38 rfl rfl)) ?_
  refine AXo.yes (f := 0) hev rfl rfl rfl (beqFF rfl) (d_callT (rh2 rfl rfl) ((has2 e_st (x := (.agg [.int .u8 kc, .str sc, .sl oc, .sl bc])) (y := (.agg [.int .u8 kc, .str sc, .sl oc, .sl bc])) ⟨hc, hc⟩).trans (by rw [same_t rfl]))) ?_
  refine AXo.yes (f := 0) hev rfl rfl rfl (beqFF rfl) (d_not rfl) ?_
  refine AXo.go (f := 0) hev (d_pickF rfl rfl rfl rfl) ?_
  refine AXo.nil ?_
  refine AX.condF rfl rfl ?_
  refine AX.skip ?_
  refine AX.seq ?_
  refine AX.seq ?_
  refine AX.region ?_
  refine AXo.go (f := 0) hev (d_move rfl) ?_
  refine AXo.go (f := 0) hev (d_neI rfl rfl) ?_
  refine AXo.go (f := 0) hev (d_move rfl) ?_
  refine AXo.split 40 rfl (fun hg2 => ?_) (fun hg2 => ?_)
  · skip
    have dhg2 := ne_of_bne_true hg2
    refine AXo.no rfl rfl rfl (beqTF hg2) ?_
    refine AXo.no rfl rfl rfl (beqTF hg2) ?_
    refine AXo.no rfl rfl rfl (beqTF hg2) ?_
    refine AXo.go (f := 0) hev (d_pickT rfl hg2 rfl rfl) ?_
    refine AXo.go (f := 0) hev (d_move rfl) ?_
    refine AXo.no rfl rfl rfl (beqTF rfl) ?_
    refine AXo.no rfl rfl rfl (beqTF rfl) ?_
    refine AXo.no rfl rfl rfl (beqTF rfl) ?_
    refine AXo.go (f := 0) hev (d_pickT rfl rfl rfl rfl) ?_
    refine AXo.nil ?_
    refine AX.condT rfl rfl ?_
    refine AX.seq ?_
    refine AX.region ?_
    refine AXo.go (f := 0) hev (d_move rfl) ?_
    refine AXo.go (f := 0) hev (d_eqI rfl rfl) ?_
    refine AXo.go (f := 0) hev (d_move rfl) ?_
    refine AXo.split 52 rfl (fun hg3 => ?_) (fun hg3 => ?_)
    · skip
      have dhg3 := eq_of_beq hg3
      refine AXo.no rfl rfl rfl (beqTF hg3) ?_
      refine AXo.no rfl rfl rfl (beqTF hg3) ?_
      refine AXo.no rfl rfl rfl (beqTF hg3) ?_
      refine AXo.go (f := 0) hev (d_pickT rfl hg3 rfl rfl) ?_
      refine AXo.go (f := 0) hev (d_assign rfl) ?_
      refine AXo.nil ?_
      refine AX.ret ?_
      refine AX.thenRet ?_
      exact ⟨(), .inl rfl⟩
    · skip
      have dhg3 := ne_of_beq_false hg3
      refine AXo.yes (f := 0) hev rfl rfl rfl (beqFF hg3) (d_load rfl (ld ty38 rfl rfl)) ?_
      refine AXo.yes (f := 0) hev rfl rfl rfl (beqFF hg3) (d_build rfl bl38 rfl rfl) ?_
      refine AXo.yes (f := 0) hev rfl rfl rfl (beqFF hg3) (d_callG (ts := [.agg [.int .u8 kc, .str sc, .sl oc, .sl bc], ty0]) (ks := []) rfl rfl ((has2 e_st (x := (.agg [.int .u8 kc, .str sc, .sl oc, .sl bc])) (y := ty0) ⟨hc, Dp.ty0 n⟩).trans (by rw [same_t (hce (ne_of_beq_false hg3))]))) ?_
      refine AXo.go (f := 0) hev (d_pickF rfl hg3 rfl rfl) ?_
      refine AXo.go (f := 0) hev (d_assign rfl) ?_
      refine AXo.nil ?_
      refine AX.ret ?_
      refine AX.thenRet ?_
      exact ⟨(), .inl rfl⟩
  · skip
    have dhg2 := eq_of_bne_false hg2
    refine AXo.yes (f := 0) hev rfl rfl rfl (beqFF hg2) (d_load rfl (ld ty38 rfl rfl)) ?_
    refine AXo.yes (f := 0) hev rfl rfl rfl (beqFF hg2) (d_callT (rh1 rfl) (has1 e_ck ha)) ?_
    refine AXo.yes (f := 0) hev rfl rfl rfl (beqFF hg2) (d_neI rfl rfl) ?_
    refine AXo.go (f := 0) hev (d_pickF rfl hg2 rfl rfl) ?_
    refine AXo.go (f := 0) hev (d_move rfl) ?_
    refine AXo.split 45 rfl (fun hg4 => ?_) (fun hg4 => ?_)
    · skip
      have dhg4 := ne_of_bne_true hg4
      refine AXo.no rfl rfl rfl (beqTF hg4) ?_
      refine AXo.no rfl rfl rfl (beqTF hg4) ?_
      refine AXo.no rfl rfl rfl (beqTF hg4) ?_
      refine AXo.go (f := 0) hev (d_pickT rfl hg4 rfl rfl) ?_
      refine AXo.nil ?_
      refine AX.condT rfl rfl ?_
      refine AX.seq ?_
      refine AX.region ?_
      refine AXo.go (f := 0) hev (d_move rfl) ?_
      refine AXo.go (f := 0) hev (d_eqI rfl rfl) ?_
      refine AXo.go (f := 0) hev (d_move rfl) ?_
      refine AXo.split 52 rfl (fun hg5 => ?_) (fun hg5 => ?_)
      · skip
        have dhg5 := eq_of_beq hg5
        refine AXo.no rfl rfl rfl (beqTF hg5) ?_
        refine AXo.no rfl rfl rfl (beqTF hg5) ?_
        refine AXo.no rfl rfl rfl (beqTF hg5) ?_
        refine AXo.go (f := 0) hev (d_pickT rfl hg5 rfl rfl) ?_
        refine AXo.go (f := 0) hev (d_assign rfl) ?_
        refine AXo.nil ?_
        refine AX.ret ?_
        refine AX.thenRet ?_
        exact ⟨(), .inl rfl⟩
      · skip
        have dhg5 := ne_of_beq_false hg5
        refine AXo.yes (f := 0) hev rfl rfl rfl (beqFF hg5) (d_load rfl (ld ty38 rfl rfl)) ?_
        refine AXo.yes (f := 0) hev rfl rfl rfl (beqFF hg5) (d_build rfl bl38 rfl rfl) ?_
        refine AXo.yes (f := 0) hev rfl rfl rfl (beqFF hg5) (d_callG (ts := [.agg [.int .u8 kc, .str sc, .sl oc, .sl bc], ty0]) (ks := []) rfl rfl ((has2 e_st (x := (.agg [.int .u8 kc, .str sc, .sl oc, .sl bc])) (y := ty0) ⟨hc, Dp.ty0 n⟩).trans (by rw [same_t (hce (ne_of_beq_false hg5))]))) ?_
        refine AXo.go (f := 0) hev (d_pickF rfl hg5 rfl rfl) ?_
        refine AXo.go (f := 0) hev (d_assign rfl) ?_
        refine AXo.nil ?_
        refine AX.ret ?_
        refine AX.thenRet ?_
        exact ⟨(), .inl rfl⟩
    · skip
      have dhg4 := eq_of_bne_false hg4
      refine AXo.yes (f := 0) hev rfl rfl rfl (beqFF hg4) (d_load rfl (ld ty38 rfl rfl)) ?_
      refine AXo.yes (f := 0) hev rfl rfl rfl (beqFF hg4) (d_callT (rh1 rfl) (has1 e_ck hb)) ?_
      refine AXo.yes (f := 0) hev rfl rfl rfl (beqFF hg4) (d_neI rfl rfl) ?_
      refine AXo.go (f := 0) hev (d_pickF rfl hg4 rfl rfl) ?_
      refine AXo.nil ?_
      refine AX.cond rfl (fun hc6 => ?_) (fun hc6 => ?_)
      · skip
        have dhc6 := ne_of_bne_true hc6
        refine AX.seq ?_
        refine AX.region ?_
        refine AXo.go (f := 0) hev (d_move rfl) ?_
        refine AXo.go (f := 0) hev (d_eqI rfl rfl) ?_
        refine AXo.go (f := 0) hev (d_move rfl) ?_
        refine AXo.split 52 rfl (fun hg7 => ?_) (fun hg7 => ?_)
        · skip
          have dhg7 := eq_of_beq hg7
          refine AXo.no rfl rfl rfl (beqTF hg7) ?_
          refine AXo.no rfl rfl rfl (beqTF hg7) ?_
          refine AXo.no rfl rfl rfl (beqTF hg7) ?_
          refine AXo.go (f := 0) hev (d_pickT rfl hg7 rfl rfl) ?_
          refine AXo.go (f := 0) hev (d_assign rfl) ?_
          refine AXo.nil ?_
          refine AX.ret ?_
          refine AX.thenRet ?_
          exact ⟨(), .inl rfl⟩
        · skip
          have dhg7 := ne_of_beq_false hg7
          refine AXo.yes (f := 0) hev rfl rfl rfl (beqFF hg7) (d_load rfl (ld ty38 rfl rfl)) ?_
          refine AXo.yes (f := 0) hev rfl rfl rfl (beqFF hg7) (d_build rfl bl38 rfl rfl) ?_
          refine AXo.yes (f := 0) hev rfl rfl rfl (beqFF hg7) (d_callG (ts := [.agg [.int .u8 kc, .str sc, .sl oc, .sl bc], ty0]) (ks := []) rfl rfl ((has2 e_st (x := (.agg [.int .u8 kc, .str sc, .sl oc, .sl bc])) (y := ty0) ⟨hc, Dp.ty0 n⟩).trans (by rw [same_t (hce (ne_of_beq_false hg7))]))) ?_
          refine AXo.go (f := 0) hev (d_pickF rfl hg7 rfl rfl) ?_
          refine AXo.go (f := 0) hev (d_assign rfl) ?_
          refine AXo.nil ?_
          refine AX.ret ?_
          refine AX.thenRet ?_
          exact ⟨(), .inl rfl⟩
      · skip
        have dhc6 := eq_of_bne_false hc6
        refine AX.skip ?_
        refine AX.seq ?_
        refine AX.region ?_
        refine AXo.go (f := 0) hev (d_load rfl (ld ty38 rfl rfl)) ?_
        refine AXo.go (f := 0) hev (d_load rfl (ld ty38 rfl rfl)) ?_
        refine AXo.go (f := 0) hev (d_callT (rh2 rfl rfl) ((has2 e_join (x := (.agg [.int .u8 kc, .str sc, .sl oc, .sl bc])) (y := (.agg [.int .u8 k, .str s, .sl os, .sl bs])) ⟨hc, ha⟩).trans (by rw [hj3 (hGa (eq_of_bne_false hg4)) (hGb (eq_of_bne_false hc6)) (eq_of_bne_false hg2)]))) ?_
        refine AXo.go (f := 0) hev (d_move rfl) ?_
        refine AXo.go (f := 0) hev (d_extract rfl rfl) ?_
        refine AXo.go (f := 0) hev (d_extract rfl rfl) ?_
        refine AXo.go (f := 0) hev (d_alloc ty38 rfl rfl) ?_
        refine AXo.go0 (f := 0) hev (d_store rfl rfl (stt ty38 rfl rfl)) ?_
        refine AXo.go (f := 0) hev (d_assign rfl) ?_
        refine AXo.nil ?_
        refine AX.seq ?_
        refine AX.region ?_
        refine AXo.go (f := 0) hev (d_load rfl (ld ty38 rfl rfl)) ?_
        refine AXo.go (f := 0) hev (d_load rfl (ld ty38 rfl rfl)) ?_
        refine AXo.go (f := 0) hev (d_callT (rh2 rfl rfl) ((has2 e_join (x := (.agg [.int .u8 k, .str s, .sl os, .sl bs])) (y := (.agg [.int .u8 k, .str s, .sl os, .sl bs])) ⟨ha, ha⟩).trans (by rw [hj4 (hGa (eq_of_bne_false hg4))]))) ?_
        refine AXo.go (f := 0) hev (d_move rfl) ?_
        refine AXo.go (f := 0) hev (d_extract rfl rfl) ?_
        refine AXo.go (f := 0) hev (d_extract rfl rfl) ?_
        refine AXo.go (f := 0) hev (d_alloc ty38 rfl rfl) ?_
        refine AXo.go0 (f := 0) hev (d_store rfl rfl (stt ty38 rfl rfl)) ?_
        refine AXo.go (f := 0) hev (d_assign rfl) ?_
        refine AXo.nil ?_
        refine AX.seq ?_
        refine AX.seq ?_
        refine AX.region ?_
        refine AXo.go (f := 0) hev (d_move rfl) ?_
        refine AXo.go (f := 0) hev (d_neI rfl rfl) ?_
        refine AXo.go (f := 0) hev (d_move rfl) ?_
        refine AXo.yes (f := 0) hev rfl rfl rfl (beqFF rfl) (d_move rfl) ?_
        refine AXo.yes (f := 0) hev rfl rfl rfl (beqFF rfl) (d_neI rfl rfl) ?_
        refine AXo.go (f := 0) hev (d_pickF rfl rfl rfl rfl) ?_
        refine AXo.go (f := 0) hev (d_move rfl) ?_
        refine AXo.yes (f := 0) hev rfl rfl rfl (beqFF rfl) (d_load rfl (ld ty38 rfl rfl)) ?_
        refine AXo.yes (f := 0) hev rfl rfl rfl (beqFF rfl) (d_load rfl (ld ty38 rfl rfl)) ?_
        refine AXo.yes (f := 0) hev rfl rfl rfl (beqFF rfl) (d_callT (rh2 rfl rfl) ((has2 e_st (x := (.agg [.int .u8 kc, .str sc, .sl oc, .sl bc])) (y := (.agg [.int .u8 kc, .str sc, .sl oc, .sl bc])) ⟨hc, hc⟩).trans (by rw [same_t rfl]))) ?_
        refine AXo.yes (f := 0) hev rfl rfl rfl (beqFF rfl) (d_not rfl) ?_
        refine AXo.go (f := 0) hev (d_pickF rfl rfl rfl rfl) ?_
        refine AXo.go (f := 0) hev (d_move rfl) ?_
        refine AXo.yes (f := 0) hev rfl rfl rfl (beqFF rfl) (d_load rfl (ld ty38 rfl rfl)) ?_
        refine AXo.yes (f := 0) hev rfl rfl rfl (beqFF rfl) (d_load rfl (ld ty38 rfl rfl)) ?_
        refine AXo.yes (f := 0) hev rfl rfl rfl (beqFF rfl) (d_callT (rh2 rfl rfl) ((has2 e_st (x := (.agg [.int .u8 k, .str s, .sl os, .sl bs])) (y := (.agg [.int .u8 k, .str s, .sl os, .sl bs])) ⟨ha, ha⟩).trans (by rw [same_t rfl]))) ?_
        refine AXo.yes (f := 0) hev rfl rfl rfl (beqFF rfl) (d_not rfl) ?_
        refine AXo.go (f := 0) hev (d_pickF rfl rfl rfl rfl) ?_
        refine AXo.nil ?_
        refine AX.condF rfl rfl ?_
        refine AX.skip ?_
        refine AX.seq ?_
        refine AX.region ?_
        refine AXo.go (f := 0) hev (d_load rfl (ld ty55 rfl rfl)) ?_
        refine AXo.go (f := 0) hev (d_load rfl (ld ty38 rfl rfl)) ?_
        refine AXo.go (f := 0) hev (d_callT (rh2 rfl rfl) (has2 e_fits ⟨hT_1, ha⟩)) ?_
        refine AXo.go (f := 0) hev (d_not rfl) ?_
        refine AXo.go (f := 0) hev (d_move rfl) ?_
        refine AXo.split 91 rfl (fun hg8 => ?_) (fun hg8 => ?_)
        · skip
          refine AXo.yes (f := 0) hev rfl rfl rfl (beqTT hg8) (d_load rfl (ld ty55 rfl rfl)) ?_
          refine AXo.yes (f := 0) hev rfl rfl rfl (beqTT hg8) (d_load rfl (ld ty38 rfl rfl)) ?_
          refine AXo.yes (f := 0) hev rfl rfl rfl (beqTT hg8) (d_callT (rh2 rfl rfl) (has2 e_fits ⟨hT_1, hb⟩)) ?_
          refine AXo.yes (f := 0) hev rfl rfl rfl (beqTT hg8) (d_not rfl) ?_
          refine AXo.go (f := 0) hev (d_pickT rfl hg8 rfl rfl) ?_
          refine AXo.go (f := 0) hev (d_move rfl) ?_
          refine AXo.split 97 rfl (fun hg9 => ?_) (fun hg9 => ?_)
          · skip
            refine AXo.no rfl rfl rfl (beqTF hg9) ?_
            refine AXo.no rfl rfl rfl (beqTF hg9) ?_
            refine AXo.no rfl rfl rfl (beqTF hg9) ?_
            refine AXo.go (f := 0) hev (d_pickT rfl hg9 rfl rfl) ?_
            refine AXo.go (f := 0) hev (d_assign rfl) ?_
            refine AXo.nil ?_
            refine AX.ret ?_
            exact ⟨(), .inl rfl⟩
          · skip
            refine AXo.yes (f := 0) hev rfl rfl rfl (beqFF hg9) (d_load rfl (ld ty55 rfl rfl)) ?_
            refine AXo.yes (f := 0) hev rfl rfl rfl (beqFF hg9) (d_load rfl (ld ty38 rfl rfl)) ?_
            refine AXo.yes (f := 0) hev rfl rfl rfl (beqFF hg9) (d_callT (rh2 rfl rfl) (has2 e_fits ⟨hT_1, hc⟩)) ?_
            refine AXo.go (f := 0) hev (d_pickF rfl hg9 rfl rfl) ?_
            refine AXo.go (f := 0) hev (d_assign rfl) ?_
            refine AXo.nil ?_
            refine AX.ret ?_
            have hfit : fitsN n (.agg [.int .u8 kind_1, .bool b__1, .int .i64 n_1, .str s_1, .str t__1, .sl names_1, .sl list_1]) (.agg [.int .u8 kc, .str sc, .sl oc, .sl bc]) = true := hjf (hGa (eq_of_bne_false hg4)) (hGb (eq_of_bne_false hc6)) (eq_of_bne_false hg2) _ (.inr (of_not_f hg9))
            exact ⟨(), .inl (Eq.trans (b := some (.ret (.t (.bool (fitsN n (.agg [.int .u8 kind_1, .bool b__1, .int .i64 n_1, .str s_1, .str t__1, .sl names_1, .sl list_1]) (.agg [.int .u8 kc, .str sc, .sl oc, .sl bc])))) [] [])) rfl (by rw [hfit]))⟩
        · skip
          refine AXo.no rfl rfl rfl (beqFT hg8) ?_
          refine AXo.no rfl rfl rfl (beqFT hg8) ?_
          refine AXo.no rfl rfl rfl (beqFT hg8) ?_
          refine AXo.no rfl rfl rfl (beqFT hg8) ?_
          refine AXo.go (f := 0) hev (d_pickF rfl hg8 rfl rfl) ?_
          refine AXo.go (f := 0) hev (d_move rfl) ?_
          refine AXo.yes (f := 0) hev rfl rfl rfl (beqFF rfl) (d_load rfl (ld ty55 rfl rfl)) ?_
          refine AXo.yes (f := 0) hev rfl rfl rfl (beqFF rfl) (d_load rfl (ld ty38 rfl rfl)) ?_
          refine AXo.yes (f := 0) hev rfl rfl rfl (beqFF rfl) (d_callT (rh2 rfl rfl) (has2 e_fits ⟨hT_1, hc⟩)) ?_
          refine AXo.go (f := 0) hev (d_pickF rfl rfl rfl rfl) ?_
          refine AXo.go (f := 0) hev (d_assign rfl) ?_
          refine AXo.nil ?_
          refine AX.ret ?_
          have hfit : fitsN n (.agg [.int .u8 kind_1, .bool b__1, .int .i64 n_1, .str s_1, .str t__1, .sl names_1, .sl list_1]) (.agg [.int .u8 kc, .str sc, .sl oc, .sl bc]) = true := hjf (hGa (eq_of_bne_false hg4)) (hGb (eq_of_bne_false hc6)) (eq_of_bne_false hg2) _ (.inl (of_not_f hg8))
          exact ⟨(), .inl (Eq.trans (b := some (.ret (.t (.bool (fitsN n (.agg [.int .u8 kind_1, .bool b__1, .int .i64 n_1, .str s_1, .str t__1, .sl names_1, .sl list_1]) (.agg [.int .u8 kc, .str sc, .sl oc, .sl bc])))) [] [])) rfl (by rw [hfit]))⟩

theorem lawJ (m : Int) (n : Nat) (a b v : Tree) (ha : Dp n a) (hb : Dp n b) (hv : T .apiValue v) : CallRel (cf m) 5 [.t a, .t b, .t v] [] (.ret (.t (.bool true)) [] []) := by
  obtain ⟨ck, hck⟩ := check_ty m n
  have hc := joinN_Dp n a b ha hb
  obtain ⟨w, hw⟩ : ∃ w, (joinN n a b).2 = w := ⟨_, rfl⟩
  have ha0 := ha; have hb0 := hb; have hc0 := hc
  obtain ⟨k, s, os, bs, rfl, _⟩ := ha.form
  obtain ⟨k2, s2, os2, bs2, rfl, _⟩ := hb.form
  obtain ⟨kc, sc, oc, bc, e, _⟩ := hc.form
  rw [e] at hc0
  exact lawJ_at m n ck hck k s os bs k2 s2 os2 bs2 kc sc oc bc w ha0 hb0 hc0 (Prod.ext e hw) v hv

end
end Go.Proofs.YtijfhoelihclbaaGreatDoor.w
