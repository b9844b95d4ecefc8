/- What fits a type. -/
import Derived.Test.YtijfhoelihclbaaGreatDoorU
import Derived.Test.YtijfhoelihclbaaGreatDoorR
import Derived.Test.YtijfhoelihclbaaGreatDoorS
namespace Go.Proofs.YtijfhoelihclbaaGreatDoor.w
open Go Go.Abs Go.Abs.Ty
set_option linter.unusedVariables false
set_option maxRecDepth 100000
set_option maxHeartbeats 2000000
noncomputable section
abbrev ti53 : TI := { size := 1, bytes := 24, agg := false, zero := some (.nils), desc := .slice 55 }
theorem ty53 {m : Int} : (cf m).P.ty 53 = some ti53 := by kernel_rfl
abbrev ti55 : TI := { size := 7, bytes := 96, agg := true, zero := some (.agg [.t (.int .u8 0), .t (.bool false), .t (.int .i64 0), .t (.str []), .t (.str []), .nils, .nils]), desc := descOf 55 }
theorem ty55 {m : Int} : (cf m).P.ty 55 = some ti55 := by kernel_rfl

theorem join_00 (m : Int) : isTree (.tup [ty0, .int .i64 0]) (evalF (live.cfg m) (live.ext0 m) 300 12 [.t ty0, .t ty0] []) = true := by kernel_rfl
theorem joinN_form (n : Nat) (a b : Tree) (ha : Dp n a) (hb : Dp n b) : ∃ k s os bs, (joinN n a b).1 = mkTy k s os bs := by
  obtain ⟨k, s, os, bs, e, _⟩ := (joinN_Dp n a b ha hb).form
  exact ⟨k, s, os, bs, e⟩
theorem join_ty (m : Int) : ∀ n x y, Dp n x → Dp n y → R2 (cf m) 12 x y (.tup [(joinN n x y).1, .int .i64 (joinN n x y).2])
  | 0, x, y, hx, hy => by
    subst hx; subst hy
    have hr := isTree_eq (join_00 m)
    rw [evalF_eq] at hr
    exact fun G w vs hw hg ha hh hv => evalN_ok (live.orders m) (live.ext0_ok m) 300 12 [.t ty0, .t ty0] [] _ hr G w vs hw hg ha hh hv
  | n + 1, x, y, hx, hy => by
    have hx0 := hx; have hy0 := hy
    obtain ⟨k, s, os, bs, rfl, l1, l2, h1, h2⟩ := hx
    obtain ⟨k2, s2, os2, bs2, rfl, l3, l4, h3, h4⟩ := hy
    exact join_at m (Dp n) (Dp (n + 1)) (joinN n) (Dp.formD n) (join_ty m n) (joinN_form n) (fun x h => own_ty m (n + 1) x h) (fun x h => (of_ok m n x h).1) k s os bs k2 s2 os2 bs2 hx0 hy0 hx0.of hy0.of l2 l4 h2 h4

theorem fits1_at (m : Int) (D SD : Tree → Prop) (Fi : Tree → Tree → Bool) (hF : ∀ v t, T .apiValue v ∧ D t → R2 (cf m) 14 v t (.bool (Fi v t))) (hOf : ∀ x, SD x → R1 (cf m) 46 x (ofT x)) (k : Int) (s : List UInt8) (os bs : List Tree) (hs : SD (mkTy k s os bs)) (ho : D (ofT (mkTy k s os bs))) (v : Tree) (hv : T .apiValue v) : RK (cf m) 49 [.ptr (.arg 0) 0] [.cells 38 [.t (.int .u8 k), .t (.str s), .t (.sl os), .t (.sl bs)]] v (.bool (!(Fi v (ofT (mkTy k s os bs))))) := by
  obtain ⟨ev, hev, e_of, e_fits⟩ : ∃ ev, CallOk (cf m) ev ∧ Has ev 46 (pc1 SD ofT) ∧ Has ev 14 (pc2 (fun v t => T .apiValue v ∧ D t) fun v t => .bool (Fi v t)) := ⟨_, (oneEv_ok (pc1_ok hOf) (oneEv_ok (pc2_ok hF) noEv_ok)), has_here, (has_there rfl has_here)⟩
  refine CallRel.of_ex ?_
  have hT_1 := hv
  obtain ⟨kind_1, b__1, n_1, s_1, t__1, names_1, list_1, rfl, hf_1_0, hf_1_1, hf_1_2, hf_1_3⟩ := T.apiValue_inv hT_1
  refine AX.start 9 2 Tryz.func49 rfl (by decide) rfl rfl (by decide) ?_
  refine AX.seq ?_
  refine AX.region ?_
  refine AXo.go (f := 0) hev (d_box rfl rfl) ?_
  refine AXo.go (f := 0) hev (d_assign rfl) ?_
  refine AXo.nil ?_
  refine AX.seq ?_
  refine AX.draw (f := 0) orders hev ?_
  refine AXd.go rfl (d_load rfl (ld ty55 rfl rfl)) ?_
  refine AXd.go rfl (d_load rfl (ld ty38 rfl rfl)) ?_
  refine AXd.go rfl (d_callT (rh1 rfl) (has1 e_of hs)) ?_
  refine AXd.go rfl (d_callT (rh2 rfl rfl) (has2 e_fits ⟨hT_1, ho⟩)) ?_
  refine AXd.go rfl (d_not rfl) ?_
  refine AXd.go rfl (d_assign rfl) ?_
  refine AXd.nil (ex_and2 rfl rfl ?_)
  refine AX.ret ?_
  exact ⟨(), .inl rfl⟩

def kidsOf : Tree → List Tree
  | .sl l => l
  | _ => []

theorem anyV_ix (m : Int) (k : Int) (s : List UInt8) (os bs : List Tree) (q : Tree → Bool) (hq : ∀ e, T .apiValue e → RK (cf m) 49 [.ptr (.arg 0) 0] [.cells 38 [.t (.int .u8 k), .t (.str s), .t (.sl os), .t (.sl bs)]] e (.bool (q e))) (l : List Tree) (hl : l.length ≤ 4194304) (hl2 : ∀ y ∈ l, T .apiValue y) : RK (cf m) 84 [.fn (.func 49) [] [.ptr (.arg 0) 0]] [.cells 38 [.t (.int .u8 k), .t (.str s), .t (.sl os), .t (.sl bs)]] (.sl l) (.int .i64 (fIx q l)) := by
  obtain ⟨ev, hev, e_q⟩ : ∃ ev, CallOk (cf m) ev ∧ Has ev 49 (pk [.ptr (.arg 0) 0] [.cells 38 [.t (.int .u8 k), .t (.str s), .t (.sl os), .t (.sl bs)]] (T .apiValue) fun x => .bool (q x)) := ⟨_, (oneEv_ok (pk_ok hq) noEv_ok), has_here⟩
  refine CallRel.of_ex ?_
  refine AX.start 19 2 Tryz.func84 rfl (by decide) rfl rfl (by decide) ?_
  refine AX.seq ?_
  refine AX.region ?_
  refine AXo.go (f := 0) hev (d_assign rfl) ?_
  refine AXo.nil ?_
  refine AX.seq ?_
  refine AX.seq ?_
  refine AX.region ?_
  refine AXo.go (f := 0) hev (d_move rfl) ?_
  refine AXo.go (f := 0) hev (d_lenT rfl ty53 rfl) ?_
  refine AXo.go (f := 0) hev (d_move rfl) ?_
  refine AXo.nil ?_
  refine AX.block ?_
  refine AX.loop (α := Nat) (fun x => ⟨frm 19 [(0, .t (.sl l)), (1, .fn (.func 49) [] [.ptr (.arg 0) 0]), (7, .t (.int .i64 ((l.length : Nat) : Int))), (8, .t (.int .i64 ((x : Nat) : Int)))], [(.arg 0, .cells 38 [.t (.int .u8 k), .t (.str s), .t (.sl os), .t (.sl bs)])], 0⟩) (fun x => (x ≤ l.length) ∧ (∀ j, j < x → ∀ x, l[j]? = some x → q x = false)) (fun x => l.length - x) 0 (Re.sq [] ⟨rfl, rfl, rfl, rfl, trivial⟩ ⟨⟨.arg 0, _, rfl, rfl, .inl rfl⟩, trivial⟩ (by decide) rfl rfl (by decide)) ⟨Nat.zero_le _, fun j hj => absurd hj (Nat.not_lt_zero j)⟩ (fun x hok => ?_)
  obtain ⟨i_1, hx_⟩ : ∃ y, y = x := ⟨x, rfl⟩
  subst hx_
  replace hok : (i_1 ≤ l.length) ∧ (∀ j, j < i_1 → ∀ x, l[j]? = some x → q x = false) := hok
  obtain ⟨hok_1_0, hok_1_1⟩ := hok
  show AX _ _ ⟨frm 19 [(0, .t (.sl l)), (1, .fn (.func 49) [] [.ptr (.arg 0) 0]), (7, .t (.int .i64 ((l.length : Nat) : Int))), (8, .t (.int .i64 ((i_1 : Nat) : Int)))], [(.arg 0, .cells 38 [.t (.int .u8 k), .t (.str s), .t (.sl os), .t (.sl bs)])], 0⟩ _
  refine AX.seq ?_
  refine AX.region ?_
  refine AXo.go (f := 0) hev (d_ltI rfl rfl) ?_
  refine AXo.nil ?_
  refine AX.seq ?_
  refine AX.cond rfl (fun hc2 => ?_) (fun hc2 => ?_)
  · skip
    have dhc2 := of_decide_eq_true hc2
    refine AX.skip ?_
    refine AX.seq ?_
    refine AX.block ?_
    refine AX.seq ?_
    refine AX.region ?_
    refine AXo.go (f := 0) hev (d_move rfl) ?_
    refine AXo.go (f := 0) hev (d_assign rfl) ?_
    refine AXo.nil ?_
    refine AX.seq ?_
    refine AX.region ?_
    refine AXo.go (f := 0) hev (d_move rfl) ?_
    refine AXo.go (f := 0) hev (d_move rfl) ?_
    refine AXo.go (f := 0) hev (d_move rfl) ?_
    obtain ⟨e3, he3⟩ : ∃ e, l[i_1]? = some e := ⟨l[i_1]'(by first | omega | (simp; omega)), List.getElem?_eq_getElem _⟩
    have hT_4 := (hl2 e3 (List.mem_of_getElem? he3))
    obtain ⟨kind_4, b__4, n_4, s_4, t__4, names_4, list_4, rfl, hf_4_0, hf_4_1, hf_4_2, hf_4_3⟩ := T.apiValue_inv hT_4
    refine AXo.go (f := 0) hev (d_indexT (m := i_1) rfl rfl ty53 rfl ty55 he3 rfl) ?_
    refine AXo.go (f := 0) hev (d_load rfl (ld ty55 rfl rfl)) ?_
    refine AXo.go (f := 0) hev (d_callP (callee_val rfl rfl) rfl rfl (by decide) rfl rfl (hask e_q hT_4) rfl rfl rfl) ?_
    refine AXo.nil ?_
    refine AX.cond rfl (fun hc5 => ?_) (fun hc5 => ?_)
    · skip
      refine AX.seq ?_
      refine AX.region ?_
      refine AXo.go (f := 0) hev (d_move rfl) ?_
      refine AXo.go (f := 0) hev (d_assign rfl) ?_
      refine AXo.nil ?_
      refine AX.ret ?_
      refine AX.outRet ?_
      refine AX.thenRet ?_
      refine AX.leave (e := .ret) (by simp) ?_
      refine AX.outRet ?_
      refine AX.thenRet ?_
      exact ⟨(), .inl (by rw [show fIx q l = ((i_1 : Nat) : Int) from fIx_at hok_1_1 he3 hc5]; rfl)⟩
    · skip
      refine AX.skip ?_
      refine AX.outNormal ?_
      refine AX.region ?_
      refine AXo.go (f := 0) hev (d_add64 rfl rfl (by omega) (by omega)) ?_
      refine AXo.go (f := 0) hev (d_move rfl) ?_
      refine AXo.nil ?_
      exact ⟨.inl ⟨i_1 + 1, ⟨⟨(by show (i_1 + 1) ≤ l.length; first | omega | (simp only [List.length_append, List.length_cons, List.length_nil, List.length_singleton] at *; omega) | (simp; done) | (simp; omega)), (fIx_succ hok_1_1 he3 hc5)⟩, (by show (l.length - (i_1 + 1)) < (l.length - i_1); omega)⟩⟩, rfl, Re.sq [] ⟨rfl, rfl, rfl, rfl, trivial⟩ ⟨⟨.arg 0, _, rfl, rfl, .inl rfl⟩, trivial⟩ (by decide) rfl rfl (by decide)⟩
  · skip
    have dhc2 := of_decide_eq_false hc2
    refine AX.exit ?_
    refine AX.thenExit ?_
    refine AX.leave (e := .exit 0) (by simp) ?_
    refine AX.outHere ?_
    refine AX.seq ?_
    refine AX.region ?_
    refine AXo.go (f := 0) hev (d_assign rfl) ?_
    refine AXo.nil ?_
    refine AX.ret ?_
    exact ⟨(), .inl (by rw [show fIx q l = -1 from fIx_none (fun j hj => hok_1_1 j (by omega))]; rfl)⟩

theorem anyV_any (m : Int) (k : Int) (s : List UInt8) (os bs : List Tree) (q : Tree → Bool) (hq : ∀ e, T .apiValue e → RK (cf m) 49 [.ptr (.arg 0) 0] [.cells 38 [.t (.int .u8 k), .t (.str s), .t (.sl os), .t (.sl bs)]] e (.bool (q e))) (l : List Tree) (hl : l.length ≤ 4194304) (hl2 : ∀ y ∈ l, T .apiValue y) : RK (cf m) 48 [.fn (.func 49) [] [.ptr (.arg 0) 0]] [.cells 38 [.t (.int .u8 k), .t (.str s), .t (.sl os), .t (.sl bs)]] (.sl l) (.bool (l.any q)) := by
  obtain ⟨ev, hev, e_ix⟩ : ∃ ev, CallOk (cf m) ev ∧ Has ev 84 (pk [.fn (.func 49) [] [.ptr (.arg 0) 0]] [.cells 38 [.t (.int .u8 k), .t (.str s), .t (.sl os), .t (.sl bs)]] (fun x => ∃ l, x = .sl l ∧ l.length ≤ 4194304 ∧ ∀ y ∈ l, T .apiValue y) fun x => .int .i64 (fIx q (kidsOf x))) := ⟨_, (oneEv_ok (pk_ok fun x ⟨l, e, h1, h2⟩ => by subst e; exact anyV_ix m k s os bs q hq l h1 h2) noEv_ok), has_here⟩
  refine CallRel.of_ex ?_
  refine AX.start 9 2 Tryz.func48 rfl (by decide) rfl rfl (by decide) ?_
  refine AX.seq ?_
  refine AX.region ?_
  refine AXo.go (f := 0) hev (d_assign rfl) ?_
  refine AXo.nil ?_
  refine AX.seq ?_
  refine AX.region ?_
  refine AXo.go (f := 0) hev (d_move rfl) ?_
  refine AXo.go (f := 0) hev (d_move rfl) ?_
  refine AXo.go (f := 0) hev (d_callP (callee_func rfl) rfl rfl (by decide) rfl rfl (hask e_ix ⟨_, rfl, hl, hl2⟩) rfl rfl rfl) ?_
  refine AXo.go (f := 0) hev (d_geI rfl rfl) ?_
  refine AXo.go (f := 0) hev (d_assign rfl) ?_
  refine AXo.nil ?_
  refine AX.ret ?_
  exact ⟨(), .inl (by rw [← fIx_any]; rfl)⟩

end
end Go.Proofs.YtijfhoelihclbaaGreatDoor.w

namespace Go.Proofs.YtijfhoelihclbaaGreatDoor.w
open Go Go.Abs Go.Abs.Ty
set_option linter.unusedVariables false
set_option maxRecDepth 100000
set_option maxHeartbeats 2000000
noncomputable section
abbrev ti52 : TI := { size := 1, bytes := 1, agg := false, zero := some (.t (.int .u8 0)), desc := .int .u8 }
theorem ty52 {m : Int} : (cf m).P.ty 52 = some ti52 := by kernel_rfl
theorem fo55_0 {m : Int} : fieldOff (cf m).P 55 0 = some 0 := by kernel_rfl
theorem fo55_4 {m : Int} : fieldOff (cf m).P 55 4 = some 4 := by kernel_rfl
theorem fo55_5 {m : Int} : fieldOff (cf m).P 55 5 = some 5 := by kernel_rfl
theorem fo55_6 {m : Int} : fieldOff (cf m).P 55 6 = some 6 := by kernel_rfl

theorem fitsAs_true {Fi : Tree → Tree → Bool} : ∀ {bs ns l : List Tree}, (∀ (j : Nat) a n, bs[j]? = some a → ns[j]? = some n → (atN a == strOf n) = true ∧ ∀ x, l[j]? = some x → Fi x (atT a) = true) → fitsAs Fi bs ns l = true
  | a :: bs, n :: ns, l, h => by
    obtain ⟨h1, h2⟩ := h 0 a n rfl rfl
    have ih := fitsAs_true (bs := bs) (ns := ns) (l := l.tail) fun j a n ha hn => by
      obtain ⟨h3, h4⟩ := h (j + 1) a n (by simpa using ha) (by simpa using hn)
      exact ⟨h3, fun x hx => h4 x (by cases l with | nil => simp at hx | cons y l => simpa using hx)⟩
    simp only [fitsAs, h1, ih, Bool.true_and, Bool.and_true]
    cases l with
    | nil => rfl
    | cons y l => exact h2 y rfl
  | [], _, _, _ => rfl
  | _ :: _, [], _, _ => rfl
theorem fitsAs_false {Fi : Tree → Tree → Bool} : ∀ {bs ns l : List Tree} {j : Nat} {a n : Tree}, bs[j]? = some a → ns[j]? = some n → ((atN a == strOf n) = false ∨ ∃ x, l[j]? = some x ∧ Fi x (atT a) = false) → fitsAs Fi bs ns l = false
  | a :: bs, n :: ns, l, 0, a', n', ha, hn, h => by
    simp only [List.getElem?_cons_zero, Option.some.injEq] at ha hn
    subst ha; subst hn
    simp only [fitsAs]
    rcases h with h | ⟨x, hx, h⟩
    · rw [h]; rfl
    · cases l with
      | nil => simp at hx
      | cons y l => simp only [List.getElem?_cons_zero, Option.some.injEq] at hx; subst hx; simp only [h, Bool.and_false, Bool.false_and]
  | a :: bs, n :: ns, l, j + 1, a', n', ha, hn, h => by
    have ih := fitsAs_false (bs := bs) (ns := ns) (l := l.tail) (j := j) (by simpa using ha) (by simpa using hn) (h.imp id fun ⟨x, hx, h⟩ => ⟨x, by cases l with | nil => simp at hx | cons y l => simpa using hx, h⟩)
    simp only [fitsAs, ih, Bool.and_false]
  | [], _, _, _, _, _, ha, _, _ => by simp at ha
  | _ :: _, [], _, _, _, _, _, hn, _ => by simp at hn
theorem fits_upto {Fi : Tree → Tree → Bool} {bs ns l : List Tree} {i : Nat} {a n : Tree} (ha : bs[i]? = some a) (hn : ns[i]? = some n) (h1 : (atN a == strOf n) = true) (h2 : ∀ x, l[i]? = some x → Fi x (atT a) = true)
    (h : ∀ j, j < i → ∀ a n, bs[j]? = some a → ns[j]? = some n → (atN a == strOf n) = true ∧ ∀ x, l[j]? = some x → Fi x (atT a) = true) : ∀ j, j < i + 1 → ∀ a n, bs[j]? = some a → ns[j]? = some n → (atN a == strOf n) = true ∧ ∀ x, l[j]? = some x → Fi x (atT a) = true := fun j hj a' n' ha' hn' => by
  by_cases hlt : j < i
  · exact h j hlt a' n' ha' hn'
  · obtain rfl : j = i := by omega
    rw [ha] at ha'; rw [hn] at hn'; cases ha'; cases hn'
    exact ⟨h1, h2⟩

theorem fits_at (m : Int) (D SD : Tree → Prop) (Fi : Tree → Tree → Bool) (hF : ∀ v t, T .apiValue v ∧ D t → R2 (cf m) 14 v t (.bool (Fi v t))) (hOf : ∀ x, SD x → R1 (cf m) 46 x (ofT x)) (hform : Form D) (k : Int) (s : List UInt8) (os bs : List Tree) (hs : SD (mkTy k s os bs)) (ho : D (ofT (mkTy k s os bs))) (lb : bs.length ≤ 4194304) (hb : Ats D bs) (v : Tree) (hv : T .apiValue v) : R2 (cf m) 14 v (mkTy k s os bs) (.bool (fitsS Fi v (mkTy k s os bs))) := by
  obtain ⟨ev, hev, e_any, e_fits⟩ : ∃ ev, CallOk (cf m) ev ∧ Has ev 48 (pk [.fn (.func 49) [] [.ptr (.arg 0) 0]] [.cells 38 [.t (.int .u8 k), .t (.str s), .t (.sl os), .t (.sl bs)]] (fun x => ∃ l, x = .sl l ∧ l.length ≤ 4194304 ∧ ∀ y ∈ l, T .apiValue y) fun x => .bool ((kidsOf x).any fun x => !(Fi x (ofT (mkTy k s os bs))))) ∧ Has ev 14 (pc2 (fun v t => T .apiValue v ∧ D t) fun v t => .bool (Fi v t)) := ⟨_, (oneEv_ok (pk_ok fun x ⟨l, e, h1, h2⟩ => by subst e; exact anyV_any m k s os bs _ (fun e he => fits1_at m D SD Fi hF hOf k s os bs hs ho e he) l h1 h2) (oneEv_ok (pc2_ok hF) noEv_ok)), has_here, (has_there rfl has_here)⟩
  refine CallRel.of_ex ?_
  have hT_1 := hv
  obtain ⟨kind_1, b__1, n_1, s_1, t__1, names_1, list_1, rfl, hf_1_0, hf_1_1, hf_1_2, hf_1_3⟩ := T.apiValue_inv hT_1
  refine AX.start 102 2 Tryz.func14 rfl (by decide) rfl rfl (by decide) ?_
  refine AX.seq ?_
  refine AX.region ?_
  refine AXo.go (f := 0) hev (d_box rfl rfl) ?_
  refine AXo.go (f := 0) hev (d_box rfl rfl) ?_
  refine AXo.go (f := 0) hev (d_assign rfl) ?_
  refine AXo.nil ?_
  refine AX.seq ?_
  refine AX.seq ?_
  refine AX.region ?_
  refine AXo.go (f := 0) hev (d_fieldAddr rfl fo38_0 rfl) ?_
  refine AXo.go (f := 0) hev (d_loadT rfl (ld ty35 rfl rfl)) ?_
  refine AXo.nil ?_
  refine AX.block ?_
  refine AX.seq ?_
  refine AX.region ?_
  refine AXo.go (f := 0) hev (d_eqI rfl rfl) ?_
  refine AXo.go (f := 0) hev (d_assign rfl) ?_
  refine AXo.nil ?_
  refine AX.cond rfl (fun hc2 => ?_) (fun hc2 => ?_)
  · skip
    have dhc2 := eq_of_beq hc2
    refine AX.seq ?_
    refine AX.region ?_
    refine AXo.go (f := 0) hev (d_fieldAddr rfl fo55_0 rfl) ?_
    refine AXo.go (f := 0) hev (d_loadT rfl (ld ty52 rfl rfl)) ?_
    refine AXo.go (f := 0) hev (d_eqI rfl rfl) ?_
    refine AXo.go (f := 0) hev (d_assign rfl) ?_
    refine AXo.nil ?_
    refine AX.ret ?_
    refine AX.outRet ?_
    refine AX.thenRet ?_
    have hres : fitsS Fi (.agg [.int .u8 kind_1, .bool b__1, .int .i64 n_1, .str s_1, .str t__1, .sl names_1, .sl list_1]) (mkTy k s os bs) = (kind_1 == 0) := by
      rw [fitsS_mk]
      refine (if_pos (eq_of_beq hc2)).trans ?_
      rfl
    show ∃ _ : Unit, Fin2 (cf m) _ 0 (.ret (.t (.bool (fitsS Fi (.agg [.int .u8 kind_1, .bool b__1, .int .i64 n_1, .str s_1, .str t__1, .sl names_1, .sl list_1]) (mkTy k s os bs)))) [] []) _ _
    rw [hres]
    exact ⟨(), .inl rfl⟩
  · skip
    have dhc2 := ne_of_beq_false hc2
    refine AX.seq ?_
    refine AX.region ?_
    refine AXo.go (f := 0) hev (d_eqI rfl rfl) ?_
    refine AXo.go (f := 0) hev (d_assign rfl) ?_
    refine AXo.nil ?_
    refine AX.cond rfl (fun hc3 => ?_) (fun hc3 => ?_)
    · skip
      have dhc3 := eq_of_beq hc3
      refine AX.seq ?_
      refine AX.region ?_
      refine AXo.go (f := 0) hev (d_fieldAddr rfl fo55_0 rfl) ?_
      refine AXo.go (f := 0) hev (d_loadT rfl (ld ty52 rfl rfl)) ?_
      refine AXo.go (f := 0) hev (d_eqI rfl rfl) ?_
      refine AXo.go (f := 0) hev (d_assign rfl) ?_
      refine AXo.nil ?_
      refine AX.ret ?_
      refine AX.outRet ?_
      refine AX.thenRet ?_
      have hres : fitsS Fi (.agg [.int .u8 kind_1, .bool b__1, .int .i64 n_1, .str s_1, .str t__1, .sl names_1, .sl list_1]) (mkTy k s os bs) = (kind_1 == 1) := by
        rw [fitsS_mk]
        refine (if_neg (ne_of_beq_false hc2)).trans ?_
        refine (if_pos (eq_of_beq hc3)).trans ?_
        rfl
      show ∃ _ : Unit, Fin2 (cf m) _ 0 (.ret (.t (.bool (fitsS Fi (.agg [.int .u8 kind_1, .bool b__1, .int .i64 n_1, .str s_1, .str t__1, .sl names_1, .sl list_1]) (mkTy k s os bs)))) [] []) _ _
      rw [hres]
      exact ⟨(), .inl rfl⟩
    · skip
      have dhc3 := ne_of_beq_false hc3
      refine AX.seq ?_
      refine AX.region ?_
      refine AXo.go (f := 0) hev (d_eqI rfl rfl) ?_
      refine AXo.go (f := 0) hev (d_assign rfl) ?_
      refine AXo.nil ?_
      refine AX.cond rfl (fun hc4 => ?_) (fun hc4 => ?_)
      · skip
        have dhc4 := eq_of_beq hc4
        refine AX.seq ?_
        refine AX.region ?_
        refine AXo.go (f := 0) hev (d_fieldAddr rfl fo55_0 rfl) ?_
        refine AXo.go (f := 0) hev (d_loadT rfl (ld ty52 rfl rfl)) ?_
        refine AXo.go (f := 0) hev (d_eqI rfl rfl) ?_
        refine AXo.go (f := 0) hev (d_assign rfl) ?_
        refine AXo.nil ?_
        refine AX.ret ?_
        refine AX.outRet ?_
        refine AX.thenRet ?_
        have hres : fitsS Fi (.agg [.int .u8 kind_1, .bool b__1, .int .i64 n_1, .str s_1, .str t__1, .sl names_1, .sl list_1]) (mkTy k s os bs) = (kind_1 == 2) := by
          rw [fitsS_mk]
          refine (if_neg (ne_of_beq_false hc2)).trans ?_
          refine (if_neg (ne_of_beq_false hc3)).trans ?_
          refine (if_pos (eq_of_beq hc4)).trans ?_
          rfl
        show ∃ _ : Unit, Fin2 (cf m) _ 0 (.ret (.t (.bool (fitsS Fi (.agg [.int .u8 kind_1, .bool b__1, .int .i64 n_1, .str s_1, .str t__1, .sl names_1, .sl list_1]) (mkTy k s os bs)))) [] []) _ _
        rw [hres]
        exact ⟨(), .inl rfl⟩
      · skip
        have dhc4 := ne_of_beq_false hc4
        refine AX.seq ?_
        refine AX.region ?_
        refine AXo.go (f := 0) hev (d_eqI rfl rfl) ?_
        refine AXo.go (f := 0) hev (d_assign rfl) ?_
        refine AXo.nil ?_
        refine AX.cond rfl (fun hc5 => ?_) (fun hc5 => ?_)
        · skip
          have dhc5 := eq_of_beq hc5
          refine AX.seq ?_
          refine AX.region ?_
          refine AXo.go (f := 0) hev (d_fieldAddr rfl fo55_0 rfl) ?_
          refine AXo.go (f := 0) hev (d_loadT rfl (ld ty52 rfl rfl)) ?_
          refine AXo.go (f := 0) hev (d_eqI rfl rfl) ?_
          refine AXo.go (f := 0) hev (d_move rfl) ?_
          refine AXo.split 29 rfl (fun hg6 => ?_) (fun hg6 => ?_)
          · skip
            have dhg6 := eq_of_beq hg6
            refine AXo.yes (f := 0) hev rfl rfl rfl (beqTT hg6) (d_fieldAddr rfl fo38_1 rfl) ?_
            refine AXo.yes (f := 0) hev rfl rfl rfl (beqTT hg6) (d_loadT rfl (ld ty9 rfl rfl)) ?_
            refine AXo.yes (f := 0) hev rfl rfl rfl (beqTT hg6) (d_eqS rfl rfl) ?_
            refine AXo.yes (f := 0) hev rfl rfl rfl (beqTT hg6) (d_move rfl) ?_
            refine AXo.split 33 rfl (fun hg7 => ?_) (fun hg7 => ?_)
            · skip
              have dhg7 := eq_of_beq hg7
              refine AXo.no rfl rfl rfl (beqTF hg7) ?_
              refine AXo.no rfl rfl rfl (beqTF hg7) ?_
              refine AXo.no rfl rfl rfl (beqTF hg7) ?_
              refine AXo.no rfl rfl rfl (beqTF hg7) ?_
              refine AXo.no rfl rfl rfl (beqTF hg7) ?_
              refine AXo.yes (f := 0) hev rfl rfl rfl (beqTT hg6) (d_pickT rfl hg7 rfl rfl) ?_
              refine AXo.go (f := 0) hev (d_pickT rfl hg6 rfl rfl) ?_
              refine AXo.go (f := 0) hev (d_assign rfl) ?_
              refine AXo.nil ?_
              refine AX.ret ?_
              refine AX.outRet ?_
              refine AX.thenRet ?_
              have hres : fitsS Fi (.agg [.int .u8 kind_1, .bool b__1, .int .i64 n_1, .str s_1, .str t__1, .sl names_1, .sl list_1]) (mkTy k s os bs) = true := by
                rw [fitsS_mk]
                refine (if_neg (ne_of_beq_false hc2)).trans ?_
                refine (if_neg (ne_of_beq_false hc3)).trans ?_
                refine (if_neg (ne_of_beq_false hc4)).trans ?_
                refine (if_pos (eq_of_beq hc5)).trans ?_
                show (decide (kind_1 = 3) && (decide (s = []) || decide (s = t__1))) = _
                refine Bool.eq_iff_iff.2 ?_
                simp_all
              show ∃ _ : Unit, Fin2 (cf m) _ 0 (.ret (.t (.bool (fitsS Fi (.agg [.int .u8 kind_1, .bool b__1, .int .i64 n_1, .str s_1, .str t__1, .sl names_1, .sl list_1]) (mkTy k s os bs)))) [] []) _ _
              rw [hres]
              exact ⟨(), .inl rfl⟩
            · skip
              have dhg7 := ne_of_beq_false hg7
              refine AXo.yes (f := 0) hev rfl rfl rfl (beqFF hg7) (d_fieldAddr rfl fo38_1 rfl) ?_
              refine AXo.yes (f := 0) hev rfl rfl rfl (beqFF hg7) (d_loadT rfl (ld ty9 rfl rfl)) ?_
              refine AXo.yes (f := 0) hev rfl rfl rfl (beqFF hg7) (d_fieldAddr rfl fo55_4 rfl) ?_
              refine AXo.yes (f := 0) hev rfl rfl rfl (beqFF hg7) (d_loadT rfl (ld ty9 rfl rfl)) ?_
              refine AXo.yes (f := 0) hev rfl rfl rfl (beqFF hg7) (d_eqS rfl rfl) ?_
              refine AXo.yes (f := 0) hev rfl rfl rfl (beqTT hg6) (d_pickF rfl hg7 rfl rfl) ?_
              refine AXo.go (f := 0) hev (d_pickT rfl hg6 rfl rfl) ?_
              refine AXo.go (f := 0) hev (d_assign rfl) ?_
              refine AXo.nil ?_
              refine AX.ret ?_
              refine AX.outRet ?_
              refine AX.thenRet ?_
              have hres : fitsS Fi (.agg [.int .u8 kind_1, .bool b__1, .int .i64 n_1, .str s_1, .str t__1, .sl names_1, .sl list_1]) (mkTy k s os bs) = (s == t__1) := by
                rw [fitsS_mk]
                refine (if_neg (ne_of_beq_false hc2)).trans ?_
                refine (if_neg (ne_of_beq_false hc3)).trans ?_
                refine (if_neg (ne_of_beq_false hc4)).trans ?_
                refine (if_pos (eq_of_beq hc5)).trans ?_
                show (decide (kind_1 = 3) && (decide (s = []) || decide (s = t__1))) = _
                refine Bool.eq_iff_iff.2 ?_
                simp_all
              show ∃ _ : Unit, Fin2 (cf m) _ 0 (.ret (.t (.bool (fitsS Fi (.agg [.int .u8 kind_1, .bool b__1, .int .i64 n_1, .str s_1, .str t__1, .sl names_1, .sl list_1]) (mkTy k s os bs)))) [] []) _ _
              rw [hres]
              exact ⟨(), .inl rfl⟩
          · skip
            have dhg6 := ne_of_beq_false hg6
            refine AXo.no rfl rfl rfl (beqFT hg6) ?_
            refine AXo.no rfl rfl rfl (beqFT hg6) ?_
            refine AXo.no rfl rfl rfl (beqFT hg6) ?_
            refine AXo.no rfl rfl rfl (beqFT hg6) ?_
            refine AXo.none rfl rfl rfl ?_
            refine AXo.none rfl rfl rfl ?_
            refine AXo.none rfl rfl rfl ?_
            refine AXo.none rfl rfl rfl ?_
            refine AXo.none rfl rfl rfl ?_
            refine AXo.no rfl rfl rfl (beqFT hg6) ?_
            refine AXo.go (f := 0) hev (d_pickF rfl hg6 rfl rfl) ?_
            refine AXo.go (f := 0) hev (d_assign rfl) ?_
            refine AXo.nil ?_
            refine AX.ret ?_
            refine AX.outRet ?_
            refine AX.thenRet ?_
            have hres : fitsS Fi (.agg [.int .u8 kind_1, .bool b__1, .int .i64 n_1, .str s_1, .str t__1, .sl names_1, .sl list_1]) (mkTy k s os bs) = false := by
              rw [fitsS_mk]
              refine (if_neg (ne_of_beq_false hc2)).trans ?_
              refine (if_neg (ne_of_beq_false hc3)).trans ?_
              refine (if_neg (ne_of_beq_false hc4)).trans ?_
              refine (if_pos (eq_of_beq hc5)).trans ?_
              show (decide (kind_1 = 3) && (decide (s = []) || decide (s = t__1))) = _
              refine Bool.eq_iff_iff.2 ?_
              simp_all
            show ∃ _ : Unit, Fin2 (cf m) _ 0 (.ret (.t (.bool (fitsS Fi (.agg [.int .u8 kind_1, .bool b__1, .int .i64 n_1, .str s_1, .str t__1, .sl names_1, .sl list_1]) (mkTy k s os bs)))) [] []) _ _
            rw [hres]
            exact ⟨(), .inl rfl⟩
        · skip
          have dhc5 := ne_of_beq_false hc5
          refine AX.seq ?_
          refine AX.region ?_
          refine AXo.go (f := 0) hev (d_eqI rfl rfl) ?_
          refine AXo.go (f := 0) hev (d_assign rfl) ?_
          refine AXo.nil ?_
          refine AX.cond rfl (fun hc8 => ?_) (fun hc8 => ?_)
          · skip
            have dhc8 := eq_of_beq hc8
            refine AX.seq ?_
            refine AX.region ?_
            refine AXo.go (f := 0) hev (d_fieldAddr rfl fo55_0 rfl) ?_
            refine AXo.go (f := 0) hev (d_loadT rfl (ld ty52 rfl rfl)) ?_
            refine AXo.go (f := 0) hev (d_eqI rfl rfl) ?_
            refine AXo.go (f := 0) hev (d_move rfl) ?_
            refine AXo.split 46 rfl (fun hg9 => ?_) (fun hg9 => ?_)
            · skip
              have dhg9 := eq_of_beq hg9
              refine AXo.yes (f := 0) hev rfl rfl rfl (beqTT hg9) (d_fieldAddr rfl fo55_6 rfl) ?_
              refine AXo.yes (f := 0) hev rfl rfl rfl (beqTT hg9) (d_load rfl (ld ty53 rfl rfl)) ?_
              refine AXo.yes (f := 0) hev rfl rfl rfl (beqTT hg9) (d_makeFunc rfl rfl rfl) ?_
              refine AXo.yes (f := 0) hev rfl rfl rfl (beqTT hg9) (d_callP (callee_func rfl) rfl rfl (by decide) rfl rfl (hask e_any ⟨_, rfl, (by assumption), hf_1_3⟩) rfl rfl rfl) ?_
              refine AXo.yes (f := 0) hev rfl rfl rfl (beqTT hg9) (d_not rfl) ?_
              refine AXo.go (f := 0) hev (d_pickT rfl hg9 rfl rfl) ?_
              refine AXo.go (f := 0) hev (d_assign rfl) ?_
              refine AXo.nil ?_
              refine AX.ret ?_
              refine AX.outRet ?_
              refine AX.thenRet ?_
              have hres : fitsS Fi (.agg [.int .u8 kind_1, .bool b__1, .int .i64 n_1, .str s_1, .str t__1, .sl names_1, .sl list_1]) (mkTy k s os bs) = (!(list_1.any fun x => !(Fi x (ofT (mkTy k s os bs))))) := by
                rw [fitsS_mk]
                refine (if_neg (ne_of_beq_false hc2)).trans ?_
                refine (if_neg (ne_of_beq_false hc3)).trans ?_
                refine (if_neg (ne_of_beq_false hc4)).trans ?_
                refine (if_neg (ne_of_beq_false hc5)).trans ?_
                refine (if_pos (eq_of_beq hc8)).trans ?_
                show (decide (kind_1 = 4) && (list_1.all fun x => Fi x (ofT (mkTy k s os bs)))) = _
                rw [decide_eq_true (eq_of_beq hg9)]
                rw [Bool.true_and, List.all_eq_not_any_not]
              show ∃ _ : Unit, Fin2 (cf m) _ 0 (.ret (.t (.bool (fitsS Fi (.agg [.int .u8 kind_1, .bool b__1, .int .i64 n_1, .str s_1, .str t__1, .sl names_1, .sl list_1]) (mkTy k s os bs)))) [] []) _ _
              rw [hres]
              exact ⟨(), .inl rfl⟩
            · skip
              have dhg9 := ne_of_beq_false hg9
              refine AXo.no rfl rfl rfl (beqFT hg9) ?_
              refine AXo.no rfl rfl rfl (beqFT hg9) ?_
              refine AXo.no rfl rfl rfl (beqFT hg9) ?_
              refine AXo.no rfl rfl rfl (beqFT hg9) ?_
              refine AXo.no rfl rfl rfl (beqFT hg9) ?_
              refine AXo.go (f := 0) hev (d_pickF rfl hg9 rfl rfl) ?_
              refine AXo.go (f := 0) hev (d_assign rfl) ?_
              refine AXo.nil ?_
              refine AX.ret ?_
              refine AX.outRet ?_
              refine AX.thenRet ?_
              have hres : fitsS Fi (.agg [.int .u8 kind_1, .bool b__1, .int .i64 n_1, .str s_1, .str t__1, .sl names_1, .sl list_1]) (mkTy k s os bs) = false := by
                rw [fitsS_mk]
                refine (if_neg (ne_of_beq_false hc2)).trans ?_
                refine (if_neg (ne_of_beq_false hc3)).trans ?_
                refine (if_neg (ne_of_beq_false hc4)).trans ?_
                refine (if_neg (ne_of_beq_false hc5)).trans ?_
                refine (if_pos (eq_of_beq hc8)).trans ?_
                show (decide (kind_1 = 4) && (list_1.all fun x => Fi x (ofT (mkTy k s os bs)))) = _
                rw [decide_eq_false (ne_of_beq_false hg9)]
                rfl
              show ∃ _ : Unit, Fin2 (cf m) _ 0 (.ret (.t (.bool (fitsS Fi (.agg [.int .u8 kind_1, .bool b__1, .int .i64 n_1, .str s_1, .str t__1, .sl names_1, .sl list_1]) (mkTy k s os bs)))) [] []) _ _
              rw [hres]
              exact ⟨(), .inl rfl⟩
          · skip
            have dhc8 := ne_of_beq_false hc8
            refine AX.seq ?_
            refine AX.region ?_
            refine AXo.go (f := 0) hev (d_eqI rfl rfl) ?_
            refine AXo.go (f := 0) hev (d_assign rfl) ?_
            refine AXo.nil ?_
            refine AX.cond rfl (fun hc10 => ?_) (fun hc10 => ?_)
            · skip
              have dhc10 := eq_of_beq hc10
              refine AX.seq ?_
              refine AX.seq ?_
              refine AX.region ?_
              refine AXo.go (f := 0) hev (d_fieldAddr rfl fo55_0 rfl) ?_
              refine AXo.go (f := 0) hev (d_loadT rfl (ld ty52 rfl rfl)) ?_
              refine AXo.go (f := 0) hev (d_neI rfl rfl) ?_
              refine AXo.go (f := 0) hev (d_move rfl) ?_
              refine AXo.split 58 rfl (fun hg11 => ?_) (fun hg11 => ?_)
              · skip
                have dhg11 := ne_of_bne_true hg11
                refine AXo.no rfl rfl rfl (beqTF hg11) ?_
                refine AXo.no rfl rfl rfl (beqTF hg11) ?_
                refine AXo.no rfl rfl rfl (beqTF hg11) ?_
                refine AXo.no rfl rfl rfl (beqTF hg11) ?_
                refine AXo.no rfl rfl rfl (beqTF hg11) ?_
                refine AXo.no rfl rfl rfl (beqTF hg11) ?_
                refine AXo.no rfl rfl rfl (beqTF hg11) ?_
                refine AXo.go (f := 0) hev (d_pickT rfl hg11 rfl rfl) ?_
                refine AXo.nil ?_
                refine AX.condT rfl rfl ?_
                refine AX.seq ?_
                refine AX.region ?_
                refine AXo.go (f := 0) hev (d_assign rfl) ?_
                refine AXo.nil ?_
                refine AX.ret ?_
                refine AX.thenRet ?_
                refine AX.outRet ?_
                refine AX.thenRet ?_
                have hres : fitsS Fi (.agg [.int .u8 kind_1, .bool b__1, .int .i64 n_1, .str s_1, .str t__1, .sl names_1, .sl list_1]) (mkTy k s os bs) = false := by
                  rw [fitsS_mk]
                  refine (if_neg (ne_of_beq_false hc2)).trans ?_
                  refine (if_neg (ne_of_beq_false hc3)).trans ?_
                  refine (if_neg (ne_of_beq_false hc4)).trans ?_
                  refine (if_neg (ne_of_beq_false hc5)).trans ?_
                  refine (if_neg (ne_of_beq_false hc8)).trans ?_
                  refine (if_pos (eq_of_beq hc10)).trans ?_
                  show (decide (kind_1 = 5) && decide (names_1.length = bs.length) && fitsAs Fi bs names_1 list_1) = _
                  rw [decide_eq_false (ne_of_bne_true hg11)]; rfl
                show ∃ _ : Unit, Fin2 (cf m) _ 0 (.ret (.t (.bool (fitsS Fi (.agg [.int .u8 kind_1, .bool b__1, .int .i64 n_1, .str s_1, .str t__1, .sl names_1, .sl list_1]) (mkTy k s os bs)))) [] []) _ _
                rw [hres]
                exact ⟨(), .inl rfl⟩
              · skip
                have dhg11 := eq_of_bne_false hg11
                refine AXo.yes (f := 0) hev rfl rfl rfl (beqFF hg11) (d_fieldAddr rfl fo55_5 rfl) ?_
                refine AXo.yes (f := 0) hev rfl rfl rfl (beqFF hg11) (d_load rfl (ld ty23 rfl rfl)) ?_
                refine AXo.yes (f := 0) hev rfl rfl rfl (beqFF hg11) (d_lenT rfl ty23 rfl) ?_
                refine AXo.yes (f := 0) hev rfl rfl rfl (beqFF hg11) (d_fieldAddr rfl fo38_3 rfl) ?_
                refine AXo.yes (f := 0) hev rfl rfl rfl (beqFF hg11) (d_load rfl (ld ty31 rfl rfl)) ?_
                refine AXo.yes (f := 0) hev rfl rfl rfl (beqFF hg11) (d_lenT rfl ty31 rfl) ?_
                refine AXo.yes (f := 0) hev rfl rfl rfl (beqFF hg11) (d_neI rfl rfl) ?_
                refine AXo.go (f := 0) hev (d_pickF rfl hg11 rfl rfl) ?_
                refine AXo.nil ?_
                refine AX.cond rfl (fun hc12 => ?_) (fun hc12 => ?_)
                · skip
                  have dhc12 := ne_of_bne_true hc12
                  refine AX.seq ?_
                  refine AX.region ?_
                  refine AXo.go (f := 0) hev (d_assign rfl) ?_
                  refine AXo.nil ?_
                  refine AX.ret ?_
                  refine AX.thenRet ?_
                  refine AX.outRet ?_
                  refine AX.thenRet ?_
                  have hres : fitsS Fi (.agg [.int .u8 kind_1, .bool b__1, .int .i64 n_1, .str s_1, .str t__1, .sl names_1, .sl list_1]) (mkTy k s os bs) = false := by
                    rw [fitsS_mk]
                    refine (if_neg (ne_of_beq_false hc2)).trans ?_
                    refine (if_neg (ne_of_beq_false hc3)).trans ?_
                    refine (if_neg (ne_of_beq_false hc4)).trans ?_
                    refine (if_neg (ne_of_beq_false hc5)).trans ?_
                    refine (if_neg (ne_of_beq_false hc8)).trans ?_
                    refine (if_pos (eq_of_beq hc10)).trans ?_
                    show (decide (kind_1 = 5) && decide (names_1.length = bs.length) && fitsAs Fi bs names_1 list_1) = _
                    rw [decide_eq_true (eq_of_bne_false hg11)]
                    rw [decide_eq_false (fun h => ne_of_bne_true hc12 (by rw [h]))]; rfl
                  show ∃ _ : Unit, Fin2 (cf m) _ 0 (.ret (.t (.bool (fitsS Fi (.agg [.int .u8 kind_1, .bool b__1, .int .i64 n_1, .str s_1, .str t__1, .sl names_1, .sl list_1]) (mkTy k s os bs)))) [] []) _ _
                  rw [hres]
                  exact ⟨(), .inl rfl⟩
                · skip
                  have dhc12 := eq_of_bne_false hc12
                  refine AX.skip ?_
                  refine AX.seq ?_
                  refine AX.seq ?_
                  refine AX.region ?_
                  refine AXo.go (f := 0) hev (d_fieldAddr rfl fo38_3 rfl) ?_
                  refine AXo.go (f := 0) hev (d_load rfl (ld ty31 rfl rfl)) ?_
                  refine AXo.go (f := 0) hev (d_lenT rfl ty31 rfl) ?_
                  refine AXo.go (f := 0) hev (d_move rfl) ?_
                  refine AXo.nil ?_
                  refine AX.block ?_
                  refine AX.loop (α := Nat) (fun x => ⟨frm 102 [(2, .ptr (.loc [0]) 0), (68, .t (.sl bs)), (69, .t (.int .i64 ((bs.length : Nat) : Int))), (70, .t (.int .i64 ((x : Nat) : Int)))], [(.loc [0], .cells 55 [.t (.int .u8 kind_1), .t (.bool b__1), .t (.int .i64 n_1), .t (.str s_1), .t (.str t__1), .t (.sl names_1), .t (.sl list_1)])], 1⟩) (fun x => (x ≤ bs.length) ∧ (∀ j, j < x → ∀ a n, bs[j]? = some a → names_1[j]? = some n → (atN a == strOf n) = true ∧ ∀ x, list_1[j]? = some x → Fi x (atT a) = true)) (fun x => bs.length - x) 0 (Re.sq [.loc [0]] ⟨rfl, rfl, rfl, rfl, trivial⟩ ⟨⟨.loc [0], _, rfl, rfl, .inl rfl⟩, trivial⟩ (by decide) rfl rfl (by decide)) ⟨Nat.zero_le _, fun j hj => absurd hj (Nat.not_lt_zero j)⟩ (fun x hok => ?_)
                  obtain ⟨i_13, hx_⟩ : ∃ y, y = x := ⟨x, rfl⟩
                  subst hx_
                  replace hok : (i_13 ≤ bs.length) ∧ (∀ j, j < i_13 → ∀ a n, bs[j]? = some a → names_1[j]? = some n → (atN a == strOf n) = true ∧ ∀ x, list_1[j]? = some x → Fi x (atT a) = true) := hok
                  obtain ⟨hok_13_0, hok_13_1⟩ := hok
                  show AX _ _ ⟨frm 102 [(2, .ptr (.loc [0]) 0), (68, .t (.sl bs)), (69, .t (.int .i64 ((bs.length : Nat) : Int))), (70, .t (.int .i64 ((i_13 : Nat) : Int)))], [(.loc [0], .cells 55 [.t (.int .u8 kind_1), .t (.bool b__1), .t (.int .i64 n_1), .t (.str s_1), .t (.str t__1), .t (.sl names_1), .t (.sl list_1)])], 1⟩ _
                  refine AX.seq ?_
                  refine AX.region ?_
                  refine AXo.go (f := 0) hev (d_ltI rfl rfl) ?_
                  refine AXo.nil ?_
                  refine AX.seq ?_
                  refine AX.cond rfl (fun hc14 => ?_) (fun hc14 => ?_)
                  · skip
                    have dhc14 := of_decide_eq_true hc14
                    refine AX.skip ?_
                    refine AX.seq ?_
                    refine AX.block ?_
                    refine AX.seq ?_
                    refine AX.region ?_
                    refine AXo.go (f := 0) hev (d_move rfl) ?_
                    obtain ⟨e15, he15⟩ : ∃ e, bs[i_13]? = some e := ⟨bs[i_13]'(by first | omega | (simp; omega)), List.getElem?_eq_getElem _⟩
                    obtain ⟨nm_16, r_16, rfl, hd_16⟩ := hb e15 (List.mem_of_getElem? he15)
                    obtain ⟨k_16, s_16, os_16, bs_16, er_16, lo_16, lb_16⟩ := hform _ hd_16
                    obtain rfl : r_16 = [.int .u8 k_16, .str s_16, .sl os_16, .sl bs_16] := Tree.agg.inj er_16
                    refine AXo.go (f := 0) hev (d_indexT (m := i_13) rfl rfl ty31 rfl ty45 he15 rfl) ?_
                    refine AXo.go (f := 0) hev (d_load rfl (ld ty45 rfl rfl)) ?_
                    refine AXo.go (f := 0) hev (d_alloc ty45 rfl rfl) ?_
                    refine AXo.go (f := 0) hev (d_assign rfl) ?_
                    refine AXo.go0 (f := 0) hev (d_store rfl rfl (stt ty45 rfl rfl)) ?_
                    refine AXo.nil ?_
                    refine AX.seq ?_
                    refine AX.draw (f := 0) orders hev ?_
                    refine AXd.go rfl (d_fieldAddr rfl fo45_0 rfl) ?_
                    refine AXd.go rfl (d_loadT rfl (ld ty9 rfl rfl)) ?_
                    refine AXd.go rfl (d_fieldAddr rfl fo55_5 rfl) ?_
                    refine AXd.go rfl (d_load rfl (ld ty23 rfl rfl)) ?_
                    refine AXd.go rfl (d_move rfl) ?_
                    obtain ⟨e17, he17⟩ : ∃ e, names_1[i_13]? = some e := ⟨names_1[i_13]'(by first | omega | (simp; omega)), List.getElem?_eq_getElem _⟩
                    have hT_18 := (hf_1_1 e17 (List.mem_of_getElem? he17))
                    obtain ⟨v_18, rfl⟩ := T.string_inv hT_18
                    refine AXd.go rfl (d_indexT (m := i_13) rfl rfl ty23 rfl ty9 he17 rfl) ?_
                    refine AXd.go rfl (d_loadT rfl (ld ty9 rfl rfl)) ?_
                    refine AXd.go rfl (d_neS rfl rfl) ?_
                    refine AXd.go rfl (d_move rfl) ?_
                    refine AXd.split 83 rfl (fun hg19 => ?_) (fun hg19 => ?_)
                    · skip
                      have dhg19 := ne_of_beq_false (of_not_t hg19)
                      refine AXd.no rfl rfl rfl (beqTF hg19) ?_
                      refine AXd.no rfl rfl rfl (beqTF hg19) ?_
                      refine AXd.no rfl rfl rfl (beqTF hg19) ?_
                      refine AXd.no rfl rfl rfl (beqTF hg19) ?_
                      refine AXd.no rfl rfl rfl (beqTF hg19) ?_
                      refine AXd.no rfl rfl rfl (beqTF hg19) ?_
                      refine AXd.none rfl rfl rfl ?_
                      refine AXd.none rfl rfl rfl ?_
                      refine AXd.none rfl rfl rfl ?_
                      refine AXd.none rfl rfl rfl ?_
                      refine AXd.none rfl rfl rfl ?_
                      refine AXd.none rfl rfl rfl ?_
                      refine AXd.none rfl rfl rfl ?_
                      refine AXd.none rfl rfl rfl ?_
                      refine AXd.none rfl rfl rfl ?_
                      refine AXd.no rfl rfl rfl (beqTF hg19) ?_
                      refine AXd.go rfl (d_pickT rfl hg19 rfl rfl) ?_
                      refine AXd.nil (ex_and2 rfl rfl ?_)
                      refine AX.condT rfl rfl ?_
                      refine AX.seq ?_
                      refine AX.region ?_
                      refine AXo.go (f := 0) hev (d_assign rfl) ?_
                      refine AXo.nil ?_
                      refine AX.ret ?_
                      refine AX.outRet ?_
                      refine AX.thenRet ?_
                      refine AX.leave (e := .ret) (by simp) ?_
                      refine AX.outRet ?_
                      refine AX.thenRet ?_
                      refine AX.outRet ?_
                      refine AX.thenRet ?_
                      have hres : fitsS Fi (.agg [.int .u8 kind_1, .bool b__1, .int .i64 n_1, .str s_1, .str t__1, .sl names_1, .sl list_1]) (mkTy k s os bs) = false := by
                        rw [fitsS_mk]
                        refine (if_neg (ne_of_beq_false hc2)).trans ?_
                        refine (if_neg (ne_of_beq_false hc3)).trans ?_
                        refine (if_neg (ne_of_beq_false hc4)).trans ?_
                        refine (if_neg (ne_of_beq_false hc5)).trans ?_
                        refine (if_neg (ne_of_beq_false hc8)).trans ?_
                        refine (if_pos (eq_of_beq hc10)).trans ?_
                        show (decide (kind_1 = 5) && decide (names_1.length = bs.length) && fitsAs Fi bs names_1 list_1) = _
                        rw [decide_eq_true (eq_of_bne_false hg11)]
                        rw [decide_eq_true (by have := eq_of_bne_false hc12; omega)]
                        rw [fitsAs_false he15 he17 (.inl (of_not_t hg19))]; rfl
                      show ∃ _ : Unit, Fin2 (cf m) _ 0 (.ret (.t (.bool (fitsS Fi (.agg [.int .u8 kind_1, .bool b__1, .int .i64 n_1, .str s_1, .str t__1, .sl names_1, .sl list_1]) (mkTy k s os bs)))) [] []) _ _
                      rw [hres]
                      exact ⟨(), .inl rfl⟩
                    · skip
                      have dhg19 := eq_of_beq (of_not_f hg19)
                      refine AXd.yes rfl rfl rfl (beqFF hg19) rfl (d_move rfl) ?_
                      refine AXd.yes rfl rfl rfl (beqFF hg19) rfl (d_fieldAddr rfl fo55_6 rfl) ?_
                      refine AXd.yes rfl rfl rfl (beqFF hg19) rfl (d_load rfl (ld ty53 rfl rfl)) ?_
                      refine AXd.yes rfl rfl rfl (beqFF hg19) rfl (d_lenT rfl ty53 rfl) ?_
                      refine AXd.yes rfl rfl rfl (beqFF hg19) rfl (d_ltI rfl rfl) ?_
                      refine AXd.yes rfl rfl rfl (beqFF hg19) rfl (d_move rfl) ?_
                      refine AXd.split 89 rfl (fun hg20 => ?_) (fun hg20 => ?_)
                      · skip
                        have dhg20 := of_decide_eq_true hg20
                        refine AXd.yes rfl rfl rfl (beqTT hg20) rfl (d_fieldAddr rfl fo55_6 rfl) ?_
                        refine AXd.yes rfl rfl rfl (beqTT hg20) rfl (d_load rfl (ld ty53 rfl rfl)) ?_
                        refine AXd.yes rfl rfl rfl (beqTT hg20) rfl (d_move rfl) ?_
                        obtain ⟨e21, he21⟩ : ∃ e, list_1[i_13]? = some e := ⟨list_1[i_13]'(by first | omega | (simp; omega)), List.getElem?_eq_getElem _⟩
                        have hT_22 := (hf_1_3 e21 (List.mem_of_getElem? he21))
                        obtain ⟨kind_22, b__22, n_22, s_22, t__22, names_22, list_22, rfl, hf_22_0, hf_22_1, hf_22_2, hf_22_3⟩ := T.apiValue_inv hT_22
                        refine AXd.yes rfl rfl rfl (beqTT hg20) rfl (d_indexT (m := i_13) rfl rfl ty53 rfl ty55 he21 rfl) ?_
                        refine AXd.yes rfl rfl rfl (beqTT hg20) rfl (d_load rfl (ld ty55 rfl rfl)) ?_
                        refine AXd.yes rfl rfl rfl (beqTT hg20) rfl (d_fieldAddr rfl fo45_1 rfl) ?_
                        refine AXd.yes rfl rfl rfl (beqTT hg20) rfl (d_load rfl (ld ty38 rfl rfl)) ?_
                        refine AXd.yes rfl rfl rfl (beqTT hg20) rfl (d_callT (rh2 rfl rfl) (has2 e_fits ⟨hT_22, hd_16⟩)) ?_
                        refine AXd.yes rfl rfl rfl (beqTT hg20) rfl (d_not rfl) ?_
                        refine AXd.yes rfl rfl rfl (beqFF hg19) rfl (d_pickT rfl hg20 rfl rfl) ?_
                        refine AXd.go rfl (d_pickF rfl hg19 rfl rfl) ?_
                        refine AXd.nil (ex_and2 rfl rfl ?_)
                        refine AX.cond rfl (fun hc23 => ?_) (fun hc23 => ?_)
                        · skip
                          refine AX.seq ?_
                          refine AX.region ?_
                          refine AXo.go (f := 0) hev (d_assign rfl) ?_
                          refine AXo.nil ?_
                          refine AX.ret ?_
                          refine AX.outRet ?_
                          refine AX.thenRet ?_
                          refine AX.leave (e := .ret) (by simp) ?_
                          refine AX.outRet ?_
                          refine AX.thenRet ?_
                          refine AX.outRet ?_
                          refine AX.thenRet ?_
                          have hres : fitsS Fi (.agg [.int .u8 kind_1, .bool b__1, .int .i64 n_1, .str s_1, .str t__1, .sl names_1, .sl list_1]) (mkTy k s os bs) = false := by
                            rw [fitsS_mk]
                            refine (if_neg (ne_of_beq_false hc2)).trans ?_
                            refine (if_neg (ne_of_beq_false hc3)).trans ?_
                            refine (if_neg (ne_of_beq_false hc4)).trans ?_
                            refine (if_neg (ne_of_beq_false hc5)).trans ?_
                            refine (if_neg (ne_of_beq_false hc8)).trans ?_
                            refine (if_pos (eq_of_beq hc10)).trans ?_
                            show (decide (kind_1 = 5) && decide (names_1.length = bs.length) && fitsAs Fi bs names_1 list_1) = _
                            rw [decide_eq_true (eq_of_bne_false hg11)]
                            rw [decide_eq_true (by have := eq_of_bne_false hc12; omega)]
                            rw [fitsAs_false he15 he17 (.inr ⟨_, he21, (of_not_t hc23)⟩)]; rfl
                          show ∃ _ : Unit, Fin2 (cf m) _ 0 (.ret (.t (.bool (fitsS Fi (.agg [.int .u8 kind_1, .bool b__1, .int .i64 n_1, .str s_1, .str t__1, .sl names_1, .sl list_1]) (mkTy k s os bs)))) [] []) _ _
                          rw [hres]
                          exact ⟨(), .inl rfl⟩
                        · skip
                          refine AX.skip ?_
                          refine AX.outNormal ?_
                          refine AX.region ?_
                          refine AXo.go (f := 0) hev (d_add64 rfl rfl (by omega) (by omega)) ?_
                          refine AXo.go (f := 0) hev (d_move rfl) ?_
                          refine AXo.nil ?_
                          exact ⟨.inl ⟨i_13 + 1, ⟨⟨(by show (i_13 + 1) ≤ bs.length; first | omega | (simp only [List.length_append, List.length_cons, List.length_nil, List.length_singleton] at *; omega) | (simp; done) | (simp; omega)), (fits_upto he15 he17 (of_not_f hg19) (fun x hx => by rw [he21] at hx; cases hx; exact (of_not_f hc23)) hok_13_1)⟩, (by show (bs.length - (i_13 + 1)) < (bs.length - i_13); omega)⟩⟩, rfl, Re.sq [.loc [0]] ⟨rfl, rfl, rfl, rfl, trivial⟩ ⟨⟨.loc [0], _, rfl, rfl, .inl rfl⟩, trivial⟩ (by decide) rfl rfl (by decide)⟩
                      · skip
                        have dhg20 := of_decide_eq_false hg20
                        refine AXd.no rfl rfl rfl (beqFT hg20) ?_
                        refine AXd.no rfl rfl rfl (beqFT hg20) ?_
                        refine AXd.no rfl rfl rfl (beqFT hg20) ?_
                        refine AXd.no rfl rfl rfl (beqFT hg20) ?_
                        refine AXd.no rfl rfl rfl (beqFT hg20) ?_
                        refine AXd.no rfl rfl rfl (beqFT hg20) ?_
                        refine AXd.no rfl rfl rfl (beqFT hg20) ?_
                        refine AXd.no rfl rfl rfl (beqFT hg20) ?_
                        refine AXd.no rfl rfl rfl (beqFT hg20) ?_
                        refine AXd.yes rfl rfl rfl (beqFF hg19) rfl (d_pickF rfl hg20 rfl rfl) ?_
                        refine AXd.go rfl (d_pickF rfl hg19 rfl rfl) ?_
                        refine AXd.nil (ex_and2 rfl rfl ?_)
                        refine AX.condF rfl rfl ?_
                        refine AX.skip ?_
                        refine AX.outNormal ?_
                        refine AX.region ?_
                        refine AXo.go (f := 0) hev (d_add64 rfl rfl (by omega) (by omega)) ?_
                        refine AXo.go (f := 0) hev (d_move rfl) ?_
                        refine AXo.nil ?_
                        exact ⟨.inl ⟨i_13 + 1, ⟨⟨(by show (i_13 + 1) ≤ bs.length; first | omega | (simp only [List.length_append, List.length_cons, List.length_nil, List.length_singleton] at *; omega) | (simp; done) | (simp; omega)), (fits_upto he15 he17 (of_not_f hg19) (fun x hx => absurd (List.getElem?_eq_some_iff.1 hx).1 (by have := of_decide_eq_false hg20; omega)) hok_13_1)⟩, (by show (bs.length - (i_13 + 1)) < (bs.length - i_13); omega)⟩⟩, rfl, Re.sq [.loc [0]] ⟨rfl, rfl, rfl, rfl, trivial⟩ ⟨⟨.loc [0], _, rfl, rfl, .inl rfl⟩, trivial⟩ (by decide) rfl rfl (by decide)⟩
                  · skip
                    have dhc14 := of_decide_eq_false hc14
                    refine AX.exit ?_
                    refine AX.thenExit ?_
                    refine AX.leave (e := .exit 1) (by simp) ?_
                    refine AX.outHere ?_
                    refine AX.seq ?_
                    refine AX.region ?_
                    refine AXo.go (f := 0) hev (d_assign rfl) ?_
                    refine AXo.nil ?_
                    refine AX.ret ?_
                    refine AX.outRet ?_
                    refine AX.thenRet ?_
                    have hres : fitsS Fi (.agg [.int .u8 kind_1, .bool b__1, .int .i64 n_1, .str s_1, .str t__1, .sl names_1, .sl list_1]) (mkTy k s os bs) = true := by
                      rw [fitsS_mk]
                      refine (if_neg (ne_of_beq_false hc2)).trans ?_
                      refine (if_neg (ne_of_beq_false hc3)).trans ?_
                      refine (if_neg (ne_of_beq_false hc4)).trans ?_
                      refine (if_neg (ne_of_beq_false hc5)).trans ?_
                      refine (if_neg (ne_of_beq_false hc8)).trans ?_
                      refine (if_pos (eq_of_beq hc10)).trans ?_
                      show (decide (kind_1 = 5) && decide (names_1.length = bs.length) && fitsAs Fi bs names_1 list_1) = _
                      rw [decide_eq_true (eq_of_bne_false hg11)]
                      rw [decide_eq_true (by have := eq_of_bne_false hc12; omega)]
                      rw [fitsAs_true (fun j a n ha hn => hok_13_1 j (by have := (List.getElem?_eq_some_iff.1 ha).1; omega) a n ha hn)]; rfl
                    show ∃ _ : Unit, Fin2 (cf m) _ 0 (.ret (.t (.bool (fitsS Fi (.agg [.int .u8 kind_1, .bool b__1, .int .i64 n_1, .str s_1, .str t__1, .sl names_1, .sl list_1]) (mkTy k s os bs)))) [] []) _ _
                    rw [hres]
                    exact ⟨(), .inl rfl⟩
            · skip
              have dhc10 := ne_of_beq_false hc10
              refine AX.skip ?_
              refine AX.outNormal ?_
              refine AX.seq ?_
              refine AX.region ?_
              refine AXo.go (f := 0) hev (d_assign rfl) ?_
              refine AXo.nil ?_
              refine AX.ret ?_
              have hres : fitsS Fi (.agg [.int .u8 kind_1, .bool b__1, .int .i64 n_1, .str s_1, .str t__1, .sl names_1, .sl list_1]) (mkTy k s os bs) = false := by
                rw [fitsS_mk]
                refine (if_neg (ne_of_beq_false hc2)).trans ?_
                refine (if_neg (ne_of_beq_false hc3)).trans ?_
                refine (if_neg (ne_of_beq_false hc4)).trans ?_
                refine (if_neg (ne_of_beq_false hc5)).trans ?_
                refine (if_neg (ne_of_beq_false hc8)).trans ?_
                refine (if_neg (ne_of_beq_false hc10)).trans ?_
                rfl
              show ∃ _ : Unit, Fin2 (cf m) _ 0 (.ret (.t (.bool (fitsS Fi (.agg [.int .u8 kind_1, .bool b__1, .int .i64 n_1, .str s_1, .str t__1, .sl names_1, .sl list_1]) (mkTy k s os bs)))) [] []) _ _
              rw [hres]
              exact ⟨(), .inl rfl⟩

theorem fits_00 (m : Int) (kind : Int) (b : Bool) (n : Int) (s t : List UInt8) (names list : List Tree) : isTree (.bool false) (evalF (live.cfg m) (live.ext0 m) 300 14 [.t (.agg [.int .u8 kind, .bool b, .int .i64 n, .str s, .str t, .sl names, .sl list]), .t ty0] []) = true := by kernel_rfl
theorem fits_0 (m : Int) (v : Tree) (hv : T .apiValue v) : R2 (cf m) 14 v ty0 (.bool false) := by
  obtain ⟨kind, b, n, s, t, names, list, rfl, _⟩ := T.apiValue_inv hv
  have hr := isTree_eq (fits_00 m kind b n s t names list)
  rw [evalF_eq] at hr
  exact fun G w vs hw hg ha hh hv => evalN_ok (live.orders m) (live.ext0_ok m) 300 14 _ [] _ hr G w vs hw hg ha hh hv
theorem fits_ty (m : Int) : ∀ n v t, T .apiValue v ∧ Dp n t → R2 (cf m) 14 v t (.bool (fitsN n v t))
  | 0, v, t, ⟨hv, ht⟩ => by subst ht; exact fits_0 m v hv
  | n + 1, v, t, ⟨hv, ht⟩ => by
    have ht0 := ht
    obtain ⟨k, s, os, bs, rfl, l1, l2, h1, h2⟩ := ht
    exact fits_at m (Dp n) (Dp (n + 1)) (fitsN n) (fits_ty m n) (fun x h => (of_ok m n x h).1) (Dp.formD n) k s os bs ht0 ht0.of l2 h2 v hv

end
end Go.Proofs.YtijfhoelihclbaaGreatDoor.w

namespace Go.Proofs.YtijfhoelihclbaaGreatDoor.w
open Go Go.Abs Go.Abs.Ty
set_option linter.unusedVariables false
set_option maxRecDepth 100000
set_option maxHeartbeats 2000000
noncomputable section


def tyOfAttr : Tree → Tree
  | .agg (_ :: r) => .agg r
  | x => x
theorem take_tys {bs : List Tree} {i : Nat} {nm : List UInt8} {r : List Tree} (he : bs[i]? = some (.agg (.str nm :: r))) : (bs.take (i + 1)).map tyOfAttr = (bs.take i).map tyOfAttr ++ [.agg r] := by
  rw [List.take_add_one, he]
  simp [tyOfAttr]
theorem inner_ty {D : Tree → Prop} {os bs : List Tree} (hos : ∀ x ∈ os, D x) (hbs : Ats D bs) {i : Nat} : ∀ x ∈ os ++ (bs.take i).map tyOfAttr, D x := fun x hx => by
  rcases List.mem_append.1 hx with h | h
  · exact hos x h
  · obtain ⟨e, he, rfl⟩ := List.mem_map.1 h
    obtain ⟨nm, r, rfl, ht⟩ := hbs e (List.mem_of_mem_take he)
    exact ht
theorem headOk_of {ag : Bool} {sz : Nat} {es : List Tree} (h : Uni ag sz es) : headOk sz es = true := by
  cases es with
  | nil => rfl
  | cons e r => simp [headOk, h.lens e (by simp)]
theorem uni_one {ag : Bool} {sz : Nat} {e : Tree} (h : EOk ag sz e) : Uni ag sz [e] := Uni.cons h Uni.nil
theorem inner_bytes {os bs : List Tree} (h1 : os.length ≤ 4194304) (h2 : bs.length ≤ 4194304) {i : Nat} {e : Tree} : ((os ++ (bs.take i).map tyOfAttr).length + [e].length) * 72 ≤ maxBytes := by
  have : ((bs.take i).map tyOfAttr).length ≤ bs.length := by rw [List.length_map, List.length_take]; omega
  rw [List.length_append]
  simp only [List.length_singleton]
  show _ ≤ 70368744177664
  omega
theorem inner_len {os bs : List Tree} (h1 : os.length ≤ 4194304) (h2 : bs.length ≤ 4194304) {i : Nat} : (os ++ (bs.take i).map tyOfAttr).length ≤ 8388608 := by
  have : ((bs.take i).map tyOfAttr).length ≤ bs.length := by rw [List.length_map, List.length_take]; omega
  rw [List.length_append]
  omega
def GStep (G : Tree → Prop) (x : Tree) : Prop := ∃ k s os bs, x = mkTy k s os bs ∧ k < 7 ∧ (k ≠ 4 → s = []) ∧ (k ≠ 6 → bs = []) ∧ (k = 5 → ∃ o, os = [o] ∧ G o) ∧ (k ≠ 5 → os = []) ∧ ∀ e ∈ bs, ∃ nm r, e = .agg (.str nm :: r) ∧ G (.agg r)
theorem some_upto {G : Tree → Prop} {l : List Tree} {i : Nat} {e : Tree} (he : l[i]? = some e) (hg : G e) (h : ∀ j, j < i → ∀ x, l[j]? = some x → G x) : ∀ j, j < i + 1 → ∀ x, l[j]? = some x → G x := fun j hj x hx => by
  by_cases h1 : j < i
  · exact h j h1 x hx
  · obtain rfl : j = i := by omega
    rw [he] at hx; cases hx; exact hg
theorem all_upto {G : Tree → Prop} {l : List Tree} (h : ∀ j, j < l.length → ∀ x, l[j]? = some x → G x) : ∀ x ∈ l, G x := fun x hx => by
  obtain ⟨j, hj, e⟩ := List.getElem_of_mem hx
  exact h j hj x (by rw [List.getElem?_eq_getElem hj, e])
theorem gstep_plain {G : Tree → Prop} {k : Int} {s : List UInt8} {os bs : List Tree} (h6 : k ≠ 6) (h1 : ((s == []) || k == 4) = true) (h2 : (((bs.length : Nat) : Int) == 0 || k == 6) = true) (h3 : decide (k < 7) = true)
    (h5 : ((os.length : Nat) : Int) = if k = 5 then 1 else 0) (hg : ∀ x ∈ os, G x) : GStep G (mkTy k s os bs) := by
  have hb : bs = [] := by simp [h6] at h2; exact h2
  subst hb
  refine ⟨k, s, os, [], rfl, of_decide_eq_true h3, fun h => by simpa [h] using h1, fun _ => rfl, fun h => ?_, fun h => ?_, by simp⟩
  · rw [if_pos h] at h5
    match os, h5 with
    | [o], _ => exact ⟨o, rfl, hg o (by simp)⟩
  · rw [if_neg h] at h5
    exact List.eq_nil_of_length_eq_zero (by omega)
theorem gstep_rec {G D : Tree → Prop} {s : List UInt8} {os bs : List Tree} (hat : Ats D bs) (h1 : ((s == []) || (6 : Int) == 4) = true) (h5 : ((os.length : Nat) : Int) = 0) (hg : ∀ x ∈ os ++ (bs.take bs.length).map tyOfAttr, G x) : GStep G (mkTy 6 s os bs) := by
  have ho : os = [] := List.eq_nil_of_length_eq_zero (by omega)
  subst ho
  refine ⟨6, s, [], bs, rfl, by omega, fun h => by simpa using h1, fun h => absurd rfl h, fun h => by omega, fun _ => rfl, fun e he => ?_⟩
  obtain ⟨nm, r, rfl, _⟩ := hat e he
  refine ⟨nm, r, rfl, hg _ ?_⟩
  rw [List.nil_append, List.take_length]
  exact List.mem_map.2 ⟨_, he, rfl⟩

theorem size_at (m : Int) (D G : Tree → Prop) (hform : Form D) (dz : Tree → Int) (oz : Tree → Bool) (hsz : ∀ x, D x → R1 (cf m) 47 x (.tup [.int .i64 (dz x), .bool (oz x)])) (hG : ∀ x, D x → oz x = true → G x)
    (k : Int) (s : List UInt8) (os bs : List Tree) (lo : os.length ≤ 4194304) (lb : bs.length ≤ 4194304) (ho : ∀ o ∈ os, D o) (hb : Ats D bs) : ∃ r : {p : Int × Bool // p.2 = true → GStep G (mkTy k s os bs)}, R1 (cf m) 47 (mkTy k s os bs) (.tup [.int .i64 r.1.1, .bool r.1.2]) := by
  have hPL : PL (.sl bs) := ⟨bs, rfl, lb, fun e he => by
    obtain ⟨nm, r, rfl, hd⟩ := hb e he
    obtain ⟨k, s, o, b, er, _⟩ := hform _ hd
    obtain rfl := Tree.agg.inj er
    exact ⟨nm, k, s, o, b, rfl⟩⟩
  obtain ⟨f_tn, h_tn⟩ := tn_pure m
  obtain ⟨f_ri, h_ri⟩ := rising_pure m
  obtain ⟨f_ca, h_ca⟩ := cfA_pure m
  obtain ⟨ev, hev, e_tn, e_sz, e_ri, e_ca⟩ : ∃ ev, CallOk (cf m) ev ∧ Has ev 68 (pc1 (fun x => PS x) (fun x => .bool (f_tn x))) ∧ Has ev 47 (pc1 D (fun x => .tup [.int .i64 (dz x), .bool (oz x)])) ∧ Has ev 79 (pc2 (fun x y => PL x ∧ y = .fn (.func 80)) (fun x y => .bool (f_ri x y))) ∧ Has ev 81 (pc2 (fun x y => PL x ∧ y = .fn (.func 82)) (fun x y => .bool (f_ca x y))) := ⟨_, (oneEv_ok (pc1_ok (fun x h => (h_tn x h))) (oneEv_ok (pc1_ok hsz) (oneEv_ok (pc2_ok (fun x y h => (h_ri x y h))) (oneEv_ok (pc2_ok (fun x y h => (h_ca x y h))) noEv_ok)))), has_here, (has_there rfl has_here), (has_there rfl (has_there rfl has_here)), (has_there rfl (has_there rfl (has_there rfl has_here)))⟩
  show ∃ r : {p : Int × Bool // p.2 = true → GStep G (mkTy k s os bs)}, CallRel (cf m) 47 [.t (mkTy k s os bs)] [] (.ret (.t (.tup [.int .i64 r.1.1, .bool r.1.2])) [] [])
  refine AX.start 119 1 Tryz.func47 rfl (by decide) rfl rfl (by decide) ?_
  refine AX.seq ?_
  refine AX.region ?_
  refine AXo.go (f := 0) hev (d_box rfl rfl) ?_
  refine AXo.go (f := 0) hev (d_assign rfl) ?_
  refine AXo.go (f := 0) hev (d_assign rfl) ?_
  refine AXo.nil ?_
  refine AX.seq ?_
  refine AX.region ?_
  refine AXo.go (f := 0) hev (d_fieldAddr rfl fo38_1 rfl) ?_
  refine AXo.go (f := 0) hev (d_loadT rfl (ld ty9 rfl rfl)) ?_
  refine AXo.go (f := 0) hev (d_eqS rfl rfl) ?_
  refine AXo.go (f := 0) hev (d_move rfl) ?_
  refine AXo.gF (f := 0) hev rfl rfl rfl (fun hb => d_fieldAddr rfl fo38_0 rfl) ?_
  refine AXo.gF (f := 0) hev rfl rfl rfl (fun hb => d_loadT (rho_gv hb rfl) (ld ty35 rfl rfl)) ?_
  refine AXo.gF (f := 0) hev rfl rfl rfl (fun hb => d_eqI (rho_gv hb rfl) rfl) ?_
  refine AXo.go (f := 0) hev ((by first | exact d_or rfl rfl (fun h => by simp_all) | exact d_pick rfl rfl rfl)) ?_
  refine AXo.go (f := 0) hev (d_move rfl) ?_
  refine AXo.gT (f := 0) hev rfl rfl rfl (fun hb => d_fieldAddr rfl fo38_3 rfl) ?_
  refine AXo.gT (f := 0) hev rfl rfl rfl (fun hb => d_load (rho_gv hb rfl) (ld ty31 rfl rfl)) ?_
  refine AXo.gT (f := 0) hev rfl rfl rfl (fun hb => d_lenT (rho_gv hb rfl) ty31 rfl) ?_
  refine AXo.gT (f := 0) hev rfl rfl rfl (fun hb => d_eqI (rho_gv hb rfl) rfl) ?_
  refine AXo.gT (f := 0) hev rfl rfl rfl (fun hb => d_move (rho_gv hb rfl)) ?_
  refine AXo.nF (f := 0) hev rfl rfl rfl (fun hb => d_fieldAddr rfl fo38_0 rfl) ?_
  refine AXo.nF (f := 0) hev rfl rfl rfl (fun hb => d_loadT (rho_gv hb rfl) (ld ty35 rfl rfl)) ?_
  refine AXo.nF (f := 0) hev rfl rfl rfl (fun hb => d_eqI (rho_gv hb rfl) rfl) ?_
  refine AXo.gT (f := 0) hev rfl rfl rfl (fun hb => (by first | exact d_or (rho_gv hb rfl) rfl (fun h => by simp_all) | exact d_pick (rho_gv hb rfl) rfl rfl)) ?_
  refine AXo.go (f := 0) hev ((by first | exact d_and rfl rfl (fun h => by simp_all) | exact d_pick rfl rfl rfl)) ?_
  refine AXo.go (f := 0) hev (d_move rfl) ?_
  refine AXo.gT (f := 0) hev rfl rfl rfl (fun hb => d_fieldAddr rfl fo38_0 rfl) ?_
  refine AXo.gT (f := 0) hev rfl rfl rfl (fun hb => d_loadT (rho_gv hb rfl) (ld ty35 rfl rfl)) ?_
  refine AXo.gT (f := 0) hev rfl rfl rfl (fun hb => d_ltI (rho_gv hb rfl) rfl) ?_
  refine AXo.go (f := 0) hev ((by first | exact d_and rfl rfl (fun h => by simp_all) | exact d_pick rfl rfl rfl)) ?_
  refine AXo.go (f := 0) hev (d_assign rfl) ?_
  refine AXo.nil ?_
  refine AX.seq ?_
  refine AX.region ?_
  refine AXo.go (f := 0) hev (d_fieldAddr rfl fo38_2 rfl) ?_
  refine AXo.go (f := 0) hev (d_load rfl (ld ty36 rfl rfl)) ?_
  refine AXo.go (f := 0) hev (d_assign rfl) ?_
  refine AXo.nil ?_
  refine AX.seq ?_
  refine AX.seq ?_
  refine AX.region ?_
  refine AXo.go (f := 0) hev (d_fieldAddr rfl fo38_0 rfl) ?_
  refine AXo.go (f := 0) hev (d_loadT rfl (ld ty35 rfl rfl)) ?_
  refine AXo.nil ?_
  refine AX.block ?_
  refine AX.seq ?_
  refine AX.region ?_
  refine AXo.go (f := 0) hev (d_eqI rfl rfl) ?_
  refine AXo.go (f := 0) hev (d_assign rfl) ?_
  refine AXo.nil ?_
  refine AX.cond rfl (fun hc1 => ?_) (fun hc1 => ?_)
  · skip
    have dhc1 := eq_of_beq hc1
    refine AX.region ?_
    refine AXo.go (f := 0) hev (d_move rfl) ?_
    refine AXo.go (f := 0) hev (d_move rfl) ?_
    refine AXo.gT (f := 0) hev rfl rfl rfl (fun hb => d_fieldAddr rfl fo38_1 rfl) ?_
    refine AXo.gT (f := 0) hev rfl rfl rfl (fun hb => d_loadT (rho_gv hb rfl) (ld ty9 rfl rfl)) ?_
    refine AXo.gT (f := 0) hev rfl rfl rfl (fun hb => d_callT (rh1 (rho_gv hb rfl)) (has1 e_tn ⟨_, rfl⟩)) ?_
    refine AXo.go (f := 0) hev ((by first | exact d_and rfl rfl (fun h => by simp_all) | exact d_pick rfl rfl rfl)) ?_
    refine AXo.go (f := 0) hev (d_assign rfl) ?_
    refine AXo.nil ?_
    refine AX.outNormal ?_
    refine AX.seq ?_
    refine AX.region ?_
    refine AXo.go (f := 0) hev (d_assign rfl) ?_
    refine AXo.nil ?_
    refine AX.seq ?_
    refine AX.seq ?_
    refine AX.region ?_
    refine AXo.go (f := 0) hev (d_fieldAddr rfl fo38_0 rfl) ?_
    refine AXo.go (f := 0) hev (d_loadT rfl (ld ty35 rfl rfl)) ?_
    refine AXo.go (f := 0) hev (d_eqI rfl rfl) ?_
    refine AXo.nil ?_
    refine AX.cond rfl (fun hc2 => ?_) (fun hc2 => ?_)
    · skip
      have dhc2 := eq_of_beq hc2
      refine AX.region ?_
      refine AXo.go (f := 0) hev (d_assign rfl) ?_
      refine AXo.nil ?_
      refine AX.seq ?_
      refine AX.region ?_
      refine AXo.go (f := 0) hev (d_move rfl) ?_
      refine AXo.go (f := 0) hev (d_move rfl) ?_
      refine AXo.gT (f := 0) hev rfl rfl rfl (fun hb => d_fieldAddr rfl fo38_2 rfl) ?_
      refine AXo.gT (f := 0) hev rfl rfl rfl (fun hb => d_load (rho_gv hb rfl) (ld ty36 rfl rfl)) ?_
      refine AXo.gT (f := 0) hev rfl rfl rfl (fun hb => d_lenT (rho_gv hb rfl) ty36 rfl) ?_
      refine AXo.gT (f := 0) hev rfl rfl rfl (fun hb => d_move rfl) ?_
      refine AXo.gT (f := 0) hev rfl rfl rfl (fun hb => d_eqI (rho_gv hb rfl) (rho_gv hb rfl)) ?_
      refine AXo.go (f := 0) hev ((by first | exact d_and rfl rfl (fun h => by simp_all) | exact d_pick rfl rfl rfl)) ?_
      refine AXo.go (f := 0) hev (d_assign rfl) ?_
      refine AXo.nil ?_
      refine AX.seq ?_
      refine AX.seq ?_
      refine AX.region ?_
      refine AXo.go (f := 0) hev (d_move rfl) ?_
      refine AXo.go (f := 0) hev (d_lenT rfl ty36 rfl) ?_
      refine AXo.go (f := 0) hev (d_move rfl) ?_
      refine AXo.nil ?_
      refine AX.block ?_
      have hLl : os.length ≤ 8388608 := by omega
      refine AX.loop (α := Nat × Int × Bool) (fun x => ⟨frm 119 [(2, .t (.int .i64 x.2.1)), (3, .t (.bool x.2.2)), (97, .t (.sl os)), (98, .t (.int .i64 ((os.length : Nat) : Int))), (99, .t (.int .i64 ((x.1 : Nat) : Int)))], [], 0⟩) (fun x => (x.1 ≤ os.length) ∧ (x.2.2 = true → ((((((s == []) || (k == 4)) && ((((bs.length : Nat) : Int) == 0) || (k == 6))) && decide (k < 7)) && (f_tn (.str s))) && (((os.length : Nat) : Int) == 1)) = true ∧ ∀ j, j < x.1 → ∀ x, os[j]? = some x → G x)) (fun x => os.length - x.1) (⟨0, 0, ((((((s == []) || (k == 4)) && ((((bs.length : Nat) : Int) == 0) || (k == 6))) && decide (k < 7)) && (f_tn (.str s))) && (((os.length : Nat) : Int) == 1))⟩) (Re.sq [] ⟨rfl, rfl, rfl, rfl, rfl, trivial⟩ trivial (by decide) rfl rfl (by decide)) ⟨Nat.zero_le _, fun h => ⟨h, fun j hj => absurd hj (Nat.not_lt_zero j)⟩⟩ (fun x hok => ?_)
      obtain ⟨i_3, v2_3, v3_3⟩ := x
      replace hok : (i_3 ≤ os.length) ∧ (v3_3 = true → ((((((s == []) || (k == 4)) && ((((bs.length : Nat) : Int) == 0) || (k == 6))) && decide (k < 7)) && (f_tn (.str s))) && (((os.length : Nat) : Int) == 1)) = true ∧ ∀ j, j < i_3 → ∀ x, os[j]? = some x → G x) := hok
      obtain ⟨hok_3_0, hok_3_1⟩ := hok
      show AX _ _ ⟨frm 119 [(2, .t (.int .i64 v2_3)), (3, .t (.bool v3_3)), (97, .t (.sl os)), (98, .t (.int .i64 ((os.length : Nat) : Int))), (99, .t (.int .i64 ((i_3 : Nat) : Int)))], [], 0⟩ _
      refine AX.seq ?_
      refine AX.region ?_
      refine AXo.go (f := 0) hev (d_ltI rfl rfl) ?_
      refine AXo.nil ?_
      refine AX.seq ?_
      refine AX.cond rfl (fun hc4 => ?_) (fun hc4 => ?_)
      · skip
        have dhc4 := of_decide_eq_true hc4
        refine AX.skip ?_
        refine AX.seq ?_
        refine AX.block ?_
        refine AX.seq ?_
        refine AX.region ?_
        obtain ⟨e5, he5⟩ : ∃ e, os[i_3]? = some e := ⟨os[i_3]'(by first | omega | (simp; omega)), List.getElem?_eq_getElem _⟩
        have hd_6 := (ho) e5 (List.mem_of_getElem? he5)
        obtain ⟨k_6, s_6, os_6, bs_6, rfl, lo_6, lb_6⟩ := hform _ (hd_6)
        refine AXo.go (f := 0) hev (d_indexT (m := i_3) rfl rfl ty36 rfl ty38 he5 rfl) ?_
        refine AXo.go (f := 0) hev (d_load rfl (ld ty38 rfl rfl)) ?_
        refine AXo.go (f := 0) hev (d_alloc ty38 rfl rfl) ?_
        refine AXo.go0 (f := 0) hev (d_store rfl rfl (stt ty38 rfl rfl)) ?_
        refine AXo.nil ?_
        refine AX.seq ?_
        refine AX.region ?_
        refine AXo.go (f := 0) hev (d_load rfl (ld ty38 rfl rfl)) ?_
        refine AXo.go (f := 0) hev (d_callT (rh1 rfl) (has1 e_sz hd_6)) ?_
        refine AXo.go (f := 0) hev (d_move rfl) ?_
        refine AXo.go (f := 0) hev (d_extract rfl rfl) ?_
        refine AXo.go (f := 0) hev (d_extract rfl rfl) ?_
        refine AXo.go (f := 0) hev (d_assign rfl) ?_
        refine AXo.go (f := 0) hev (d_assign rfl) ?_
        refine AXo.nil ?_
        refine AX.region ?_
        refine AXo.go (f := 0) hev (d_move rfl) ?_
        refine AXo.go (f := 0) hev (d_move rfl) ?_
        refine AXo.go (f := 0) hev (d_max rfl rfl) ?_
        refine AXo.go (f := 0) hev (d_move rfl) ?_
        refine AXo.go (f := 0) hev (d_move rfl) ?_
        refine AXo.gT (f := 0) hev rfl rfl rfl (fun hb => d_move rfl) ?_
        refine AXo.go (f := 0) hev ((by first | exact d_and rfl rfl (fun h => by simp_all) | exact d_pick rfl rfl rfl)) ?_
        refine AXo.go (f := 0) hev (d_assign rfl) ?_
        refine AXo.go (f := 0) hev (d_assign rfl) ?_
        refine AXo.nil ?_
        refine AX.outNormal ?_
        refine AX.region ?_
        refine AXo.go (f := 0) hev (d_add64 rfl rfl (by omega) (by omega)) ?_
        refine AXo.go (f := 0) hev (d_move rfl) ?_
        refine AXo.nil ?_
        exact ⟨.inl ⟨⟨i_3 + 1, (max v2_3 (dz (.agg [.int .u8 k_6, .str s_6, .sl os_6, .sl bs_6]))), (v3_3 && (oz (.agg [.int .u8 k_6, .str s_6, .sl os_6, .sl bs_6])))⟩, ⟨⟨(by show (i_3 + 1) ≤ os.length; first | omega | (simp only [List.length_append, List.length_cons, List.length_nil, List.length_singleton] at *; omega) | (simp; done) | (simp; omega)), (fun hv => by have hv := Bool.and_eq_true_iff.1 hv; obtain ⟨h1, h2⟩ := hok_3_1 hv.1; exact ⟨h1, some_upto he5 (hG _ hd_6 hv.2) h2⟩)⟩, (by show (os.length - (i_3 + 1)) < (os.length - i_3); omega)⟩⟩, rfl, Re.sq [] ⟨rfl, rfl, rfl, rfl, rfl, trivial⟩ trivial (by decide) rfl rfl (by decide)⟩
      · skip
        have dhc4 := of_decide_eq_false hc4
        refine AX.exit ?_
        refine AX.thenExit ?_
        refine AX.leave (e := .exit 3) (by simp) ?_
        refine AX.outHere ?_
        refine AX.seq ?_
        refine AX.region ?_
        refine AXo.go (f := 0) hev (d_move rfl) ?_
        refine AXo.go (f := 0) hev (d_int rfl rfl rfl) ?_
        refine AXo.go (f := 0) hev (d_move rfl) ?_
        refine AXo.go (f := 0) hev (d_assign rfl) ?_
        refine AXo.go (f := 0) hev (d_assign rfl) ?_
        refine AXo.nil ?_
        refine AX.ret ?_
        refine ⟨⟨(_, _), fun hr => ?_⟩, .inl rfl⟩
        obtain ⟨h1, h2⟩ := hok_3_1 hr
        have h3 := all_upto (fun j hj => h2 j (by omega))
        simp only [Bool.and_eq_true] at h1
        exact gstep_plain (by have := eq_of_beq hc1; omega) (by simp_all) (by simp_all) (by simp_all) (by simp_all) h3
    · skip
      have dhc2 := ne_of_beq_false hc2
      refine AX.skip ?_
      refine AX.seq ?_
      refine AX.region ?_
      refine AXo.go (f := 0) hev (d_move rfl) ?_
      refine AXo.go (f := 0) hev (d_move rfl) ?_
      refine AXo.gT (f := 0) hev rfl rfl rfl (fun hb => d_fieldAddr rfl fo38_2 rfl) ?_
      refine AXo.gT (f := 0) hev rfl rfl rfl (fun hb => d_load (rho_gv hb rfl) (ld ty36 rfl rfl)) ?_
      refine AXo.gT (f := 0) hev rfl rfl rfl (fun hb => d_lenT (rho_gv hb rfl) ty36 rfl) ?_
      refine AXo.gT (f := 0) hev rfl rfl rfl (fun hb => d_move rfl) ?_
      refine AXo.gT (f := 0) hev rfl rfl rfl (fun hb => d_eqI (rho_gv hb rfl) (rho_gv hb rfl)) ?_
      refine AXo.go (f := 0) hev ((by first | exact d_and rfl rfl (fun h => by simp_all) | exact d_pick rfl rfl rfl)) ?_
      refine AXo.go (f := 0) hev (d_assign rfl) ?_
      refine AXo.nil ?_
      refine AX.seq ?_
      refine AX.seq ?_
      refine AX.region ?_
      refine AXo.go (f := 0) hev (d_move rfl) ?_
      refine AXo.go (f := 0) hev (d_lenT rfl ty36 rfl) ?_
      refine AXo.go (f := 0) hev (d_move rfl) ?_
      refine AXo.nil ?_
      refine AX.block ?_
      have hLl : os.length ≤ 8388608 := by omega
      refine AX.loop (α := Nat × Int × Bool) (fun x => ⟨frm 119 [(2, .t (.int .i64 x.2.1)), (3, .t (.bool x.2.2)), (97, .t (.sl os)), (98, .t (.int .i64 ((os.length : Nat) : Int))), (99, .t (.int .i64 ((x.1 : Nat) : Int)))], [], 0⟩) (fun x => (x.1 ≤ os.length) ∧ (x.2.2 = true → ((((((s == []) || (k == 4)) && ((((bs.length : Nat) : Int) == 0) || (k == 6))) && decide (k < 7)) && (f_tn (.str s))) && (((os.length : Nat) : Int) == 0)) = true ∧ ∀ j, j < x.1 → ∀ x, os[j]? = some x → G x)) (fun x => os.length - x.1) (⟨0, 0, ((((((s == []) || (k == 4)) && ((((bs.length : Nat) : Int) == 0) || (k == 6))) && decide (k < 7)) && (f_tn (.str s))) && (((os.length : Nat) : Int) == 0))⟩) (Re.sq [] ⟨rfl, rfl, rfl, rfl, rfl, trivial⟩ trivial (by decide) rfl rfl (by decide)) ⟨Nat.zero_le _, fun h => ⟨h, fun j hj => absurd hj (Nat.not_lt_zero j)⟩⟩ (fun x hok => ?_)
      obtain ⟨i_7, v2_7, v3_7⟩ := x
      replace hok : (i_7 ≤ os.length) ∧ (v3_7 = true → ((((((s == []) || (k == 4)) && ((((bs.length : Nat) : Int) == 0) || (k == 6))) && decide (k < 7)) && (f_tn (.str s))) && (((os.length : Nat) : Int) == 0)) = true ∧ ∀ j, j < i_7 → ∀ x, os[j]? = some x → G x) := hok
      obtain ⟨hok_7_0, hok_7_1⟩ := hok
      show AX _ _ ⟨frm 119 [(2, .t (.int .i64 v2_7)), (3, .t (.bool v3_7)), (97, .t (.sl os)), (98, .t (.int .i64 ((os.length : Nat) : Int))), (99, .t (.int .i64 ((i_7 : Nat) : Int)))], [], 0⟩ _
      refine AX.seq ?_
      refine AX.region ?_
      refine AXo.go (f := 0) hev (d_ltI rfl rfl) ?_
      refine AXo.nil ?_
      refine AX.seq ?_
      refine AX.cond rfl (fun hc8 => ?_) (fun hc8 => ?_)
      · skip
        have dhc8 := of_decide_eq_true hc8
        refine AX.skip ?_
        refine AX.seq ?_
        refine AX.block ?_
        refine AX.seq ?_
        refine AX.region ?_
        obtain ⟨e9, he9⟩ : ∃ e, os[i_7]? = some e := ⟨os[i_7]'(by first | omega | (simp; omega)), List.getElem?_eq_getElem _⟩
        have hd_10 := (ho) e9 (List.mem_of_getElem? he9)
        obtain ⟨k_10, s_10, os_10, bs_10, rfl, lo_10, lb_10⟩ := hform _ (hd_10)
        refine AXo.go (f := 0) hev (d_indexT (m := i_7) rfl rfl ty36 rfl ty38 he9 rfl) ?_
        refine AXo.go (f := 0) hev (d_load rfl (ld ty38 rfl rfl)) ?_
        refine AXo.go (f := 0) hev (d_alloc ty38 rfl rfl) ?_
        refine AXo.go0 (f := 0) hev (d_store rfl rfl (stt ty38 rfl rfl)) ?_
        refine AXo.nil ?_
        refine AX.seq ?_
        refine AX.region ?_
        refine AXo.go (f := 0) hev (d_load rfl (ld ty38 rfl rfl)) ?_
        refine AXo.go (f := 0) hev (d_callT (rh1 rfl) (has1 e_sz hd_10)) ?_
        refine AXo.go (f := 0) hev (d_move rfl) ?_
        refine AXo.go (f := 0) hev (d_extract rfl rfl) ?_
        refine AXo.go (f := 0) hev (d_extract rfl rfl) ?_
        refine AXo.go (f := 0) hev (d_assign rfl) ?_
        refine AXo.go (f := 0) hev (d_assign rfl) ?_
        refine AXo.nil ?_
        refine AX.region ?_
        refine AXo.go (f := 0) hev (d_move rfl) ?_
        refine AXo.go (f := 0) hev (d_move rfl) ?_
        refine AXo.go (f := 0) hev (d_max rfl rfl) ?_
        refine AXo.go (f := 0) hev (d_move rfl) ?_
        refine AXo.go (f := 0) hev (d_move rfl) ?_
        refine AXo.gT (f := 0) hev rfl rfl rfl (fun hb => d_move rfl) ?_
        refine AXo.go (f := 0) hev ((by first | exact d_and rfl rfl (fun h => by simp_all) | exact d_pick rfl rfl rfl)) ?_
        refine AXo.go (f := 0) hev (d_assign rfl) ?_
        refine AXo.go (f := 0) hev (d_assign rfl) ?_
        refine AXo.nil ?_
        refine AX.outNormal ?_
        refine AX.region ?_
        refine AXo.go (f := 0) hev (d_add64 rfl rfl (by omega) (by omega)) ?_
        refine AXo.go (f := 0) hev (d_move rfl) ?_
        refine AXo.nil ?_
        exact ⟨.inl ⟨⟨i_7 + 1, (max v2_7 (dz (.agg [.int .u8 k_10, .str s_10, .sl os_10, .sl bs_10]))), (v3_7 && (oz (.agg [.int .u8 k_10, .str s_10, .sl os_10, .sl bs_10])))⟩, ⟨⟨(by show (i_7 + 1) ≤ os.length; first | omega | (simp only [List.length_append, List.length_cons, List.length_nil, List.length_singleton] at *; omega) | (simp; done) | (simp; omega)), (fun hv => by have hv := Bool.and_eq_true_iff.1 hv; obtain ⟨h1, h2⟩ := hok_7_1 hv.1; exact ⟨h1, some_upto he9 (hG _ hd_10 hv.2) h2⟩)⟩, (by show (os.length - (i_7 + 1)) < (os.length - i_7); omega)⟩⟩, rfl, Re.sq [] ⟨rfl, rfl, rfl, rfl, rfl, trivial⟩ trivial (by decide) rfl rfl (by decide)⟩
      · skip
        have dhc8 := of_decide_eq_false hc8
        refine AX.exit ?_
        refine AX.thenExit ?_
        refine AX.leave (e := .exit 3) (by simp) ?_
        refine AX.outHere ?_
        refine AX.seq ?_
        refine AX.region ?_
        refine AXo.go (f := 0) hev (d_move rfl) ?_
        refine AXo.go (f := 0) hev (d_int rfl rfl rfl) ?_
        refine AXo.go (f := 0) hev (d_move rfl) ?_
        refine AXo.go (f := 0) hev (d_assign rfl) ?_
        refine AXo.go (f := 0) hev (d_assign rfl) ?_
        refine AXo.nil ?_
        refine AX.ret ?_
        refine ⟨⟨(_, _), fun hr => ?_⟩, .inl rfl⟩
        obtain ⟨h1, h2⟩ := hok_7_1 hr
        have h3 := all_upto (fun j hj => h2 j (by omega))
        simp only [Bool.and_eq_true] at h1
        exact gstep_plain (by have := eq_of_beq hc1; omega) (by simp_all) (by simp_all) (by simp_all) (by simp_all) h3
  · skip
    have dhc1 := ne_of_beq_false hc1
    refine AX.seq ?_
    refine AX.region ?_
    refine AXo.go (f := 0) hev (d_eqI rfl rfl) ?_
    refine AXo.go (f := 0) hev (d_assign rfl) ?_
    refine AXo.nil ?_
    refine AX.cond rfl (fun hc11 => ?_) (fun hc11 => ?_)
    · skip
      have dhc11 := eq_of_beq hc11
      have hk6 : k = 6 := eq_of_beq hc11
      refine AX.seq ?_
      refine AX.region ?_
      refine AXo.go (f := 0) hev (d_move rfl) ?_
      refine AXo.go (f := 0) hev (d_move rfl) ?_
      refine AXo.gT (f := 0) hev rfl rfl rfl (fun hb => d_fieldAddr rfl fo38_3 rfl) ?_
      refine AXo.gT (f := 0) hev rfl rfl rfl (fun hb => d_load (rho_gv hb rfl) (ld ty31 rfl rfl)) ?_
      refine AXo.gT (f := 0) hev rfl rfl rfl (fun hb => d_lenT (rho_gv hb rfl) ty31 rfl) ?_
      refine AXo.gT (f := 0) hev rfl rfl rfl (fun hb => d_leI (rho_gv hb rfl) rfl) ?_
      refine AXo.go (f := 0) hev ((by first | exact d_and rfl rfl (fun h => by simp_all) | exact d_pick rfl rfl rfl)) ?_
      refine AXo.go (f := 0) hev (d_move rfl) ?_
      refine AXo.gT (f := 0) hev rfl rfl rfl (fun hb => d_fieldAddr rfl fo38_3 rfl) ?_
      refine AXo.gT (f := 0) hev rfl rfl rfl (fun hb => d_load (rho_gv hb rfl) (ld ty31 rfl rfl)) ?_
      refine AXo.gT (f := 0) hev rfl rfl rfl (fun hb => d_callT (rh2 (rho_gv hb rfl) rfl) (has2 e_ri ⟨hPL, rfl⟩)) ?_
      refine AXo.go (f := 0) hev ((by first | exact d_and rfl rfl (fun h => by simp_all) | exact d_pick rfl rfl rfl)) ?_
      refine AXo.go (f := 0) hev (d_move rfl) ?_
      refine AXo.gT (f := 0) hev rfl rfl rfl (fun hb => d_fieldAddr rfl fo38_3 rfl) ?_
      refine AXo.gT (f := 0) hev rfl rfl rfl (fun hb => d_load (rho_gv hb rfl) (ld ty31 rfl rfl)) ?_
      refine AXo.gT (f := 0) hev rfl rfl rfl (fun hb => d_callT (rh2 (rho_gv hb rfl) rfl) (has2 e_ca ⟨hPL, rfl⟩)) ?_
      refine AXo.gT (f := 0) hev rfl rfl rfl (fun hb => d_not (rho_gv hb rfl)) ?_
      refine AXo.go (f := 0) hev ((by first | exact d_and rfl rfl (fun h => by simp_all) | exact d_pick rfl rfl rfl)) ?_
      refine AXo.go (f := 0) hev (d_assign rfl) ?_
      refine AXo.nil ?_
      refine AX.seq ?_
      refine AX.region ?_
      refine AXo.go (f := 0) hev (d_fieldAddr rfl fo38_3 rfl) ?_
      refine AXo.go (f := 0) hev (d_load rfl (ld ty31 rfl rfl)) ?_
      refine AXo.go (f := 0) hev (d_lenT rfl ty31 rfl) ?_
      refine AXo.go (f := 0) hev (d_move rfl) ?_
      refine AXo.nil ?_
      refine AX.block ?_
      refine AX.loop (α := Nat) (fun x => ⟨frm 119 [(1, .ptr (.loc [0]) 0), (2, .t (.int .i64 0)), (3, .t (.bool (((((((s == []) || (k == 4)) && ((((bs.length : Nat) : Int) == 0) || (k == 6))) && decide (k < 7)) && decide (((bs.length : Nat) : Int) ≤ 16)) && (f_ri (.sl bs) (.fn (.func 80)))) && (!(f_ca (.sl bs) (.fn (.func 82))))))), (4, .t (.sl (os ++ (bs.take x).map tyOfAttr))), (69, .t (.sl bs)), (70, .t (.int .i64 ((bs.length : Nat) : Int))), (71, .t (.int .i64 ((x : Nat) : Int)))], [(.loc [0], .cells 38 [.t (.int .u8 k), .t (.str s), .t (.sl os), .t (.sl bs)])], 1⟩) (fun x => (x ≤ bs.length)) (fun x => bs.length - x) 0 (Re.sq [.loc [0]] ⟨rfl, rfl, rfl, (by simp only [List.take_zero, List.map_nil, List.append_nil]; rfl), rfl, rfl, rfl, trivial⟩ ⟨⟨.loc [0], _, rfl, rfl, .inl rfl⟩, trivial⟩ (by decide) rfl rfl (by decide)) (by show (0 ≤ bs.length); first | trivial | omega | (refine ⟨?_, ?_⟩ <;> omega) | simp) (fun x hok => ?_)
      obtain ⟨i_12, hx_⟩ : ∃ y, y = x := ⟨x, rfl⟩
      subst hx_
      replace hok : (i_12 ≤ bs.length) := hok
      have hok_12_0 := hok
      show AX _ _ ⟨frm 119 [(1, .ptr (.loc [0]) 0), (2, .t (.int .i64 0)), (3, .t (.bool (((((((s == []) || (k == 4)) && ((((bs.length : Nat) : Int) == 0) || (k == 6))) && decide (k < 7)) && decide (((bs.length : Nat) : Int) ≤ 16)) && (f_ri (.sl bs) (.fn (.func 80)))) && (!(f_ca (.sl bs) (.fn (.func 82))))))), (4, .t (.sl (os ++ (bs.take i_12).map tyOfAttr))), (69, .t (.sl bs)), (70, .t (.int .i64 ((bs.length : Nat) : Int))), (71, .t (.int .i64 ((i_12 : Nat) : Int)))], [(.loc [0], .cells 38 [.t (.int .u8 k), .t (.str s), .t (.sl os), .t (.sl bs)])], 1⟩ _
      have hun := uni_os hform (inner_ty ho hb (i := i_12))
      refine AX.seq ?_
      refine AX.region ?_
      refine AXo.go (f := 0) hev (d_ltI rfl rfl) ?_
      refine AXo.nil ?_
      refine AX.seq ?_
      refine AX.cond rfl (fun hc13 => ?_) (fun hc13 => ?_)
      · skip
        have dhc13 := of_decide_eq_true hc13
        refine AX.skip ?_
        refine AX.seq ?_
        refine AX.block ?_
        refine AX.seq ?_
        refine AX.region ?_
        obtain ⟨e14, he14⟩ : ∃ e, bs[i_12]? = some e := ⟨bs[i_12]'(by first | omega | (simp; omega)), List.getElem?_eq_getElem _⟩
        obtain ⟨nm_15, r_15, rfl, hd_15⟩ := hb e14 (List.mem_of_getElem? he14)
        obtain ⟨k_15, s_15, os_15, bs_15, er_15, lo_15, lb_15⟩ := hform _ hd_15
        obtain rfl : r_15 = [.int .u8 k_15, .str s_15, .sl os_15, .sl bs_15] := Tree.agg.inj er_15
        refine AXo.go (f := 0) hev (d_indexT (m := i_12) rfl rfl ty31 rfl ty45 he14 rfl) ?_
        refine AXo.go (f := 0) hev (d_load rfl (ld ty45 rfl rfl)) ?_
        refine AXo.go (f := 0) hev (d_alloc ty45 rfl rfl) ?_
        refine AXo.go0 (f := 0) hev (d_store rfl rfl (stt ty45 rfl rfl)) ?_
        refine AXo.nil ?_
        refine AX.draw (f := 0) orders hev ?_
        refine AXd.go rfl (d_move rfl) ?_
        refine AXd.go rfl (d_move rfl) ?_
        refine AXd.go rfl (d_lenT rfl ty36 rfl) ?_
        refine AXd.go rfl (d_move rfl) ?_
        refine AXd.go rfl (d_lenT rfl ty36 rfl) ?_
        refine AXd.go rfl (d_cut rfl rfl rfl ty36 rfl ty38 (headOk_of hun)) ?_
        refine AXd.go rfl (d_fieldAddr rfl fo45_1 rfl) ?_
        refine AXd.go rfl (d_load rfl (ld ty38 rfl rfl)) ?_
        refine AXd.go rfl (d_lit1 rfl rfl ty36 rfl ty38 rfl rfl ⟨rfl, rfl, rfl⟩) ?_
        refine AXd.go rfl (d_appT app36 rfl rfl (.inr rfl) (uni_one ⟨rfl, rfl, rfl⟩) hun (by simp) (inner_bytes lo lb)) ?_
        refine AXd.go rfl (d_assign rfl) ?_
        refine AXd.nil (ex_and2 rfl rfl ?_)
        refine AX.outNormal ?_
        refine AX.region ?_
        refine AXo.go (f := 0) hev (d_add64 rfl rfl (by omega) (by omega)) ?_
        refine AXo.go (f := 0) hev (d_move rfl) ?_
        refine AXo.nil ?_
        refine ⟨.inl ⟨i_12 + 1, by show i_12 + 1 ≤ _ ∧ bs.length - (i_12 + 1) < bs.length - i_12; omega⟩, rfl, ?_⟩
        refine Re.trans (Re.freeze (d := 4) (N := 2) (H' := [(.loc [0], .cells 38 [.t (.int .u8 k), .t (.str s), .t (.sl os), .t (.sl bs)])]) (frz_row (es := (os ++ (bs.take i_12).map tyOfAttr) ++ [.agg [.int .u8 k_15, .str s_15, .sl os_15, .sl bs_15]]) rfl (hun.append (uni_one ⟨rfl, rfl, rfl⟩)) (by decide) (by simp; omega)) (one_heap rfl (by decide)) (by decide)) ?_
        refine Re.sq [.loc [0]] ⟨rfl, rfl, rfl, (by rw [take_tys he14, ← List.append_assoc]; rfl), rfl, rfl, rfl, trivial⟩ ⟨⟨.loc [0], _, rfl, rfl, .inl rfl⟩, trivial⟩ (by decide) rfl rfl (by decide)
      · skip
        have dhc13 := of_decide_eq_false hc13
        refine AX.exit ?_
        refine AX.thenExit ?_
        refine AX.leave (e := .exit 1) (by simp) ?_
        refine AX.outHere ?_
        refine AX.outNormal ?_
        refine AX.seq ?_
        refine AX.region ?_
        refine AXo.go (f := 0) hev (d_assign rfl) ?_
        refine AXo.nil ?_
        refine AX.seq ?_
        refine AX.seq ?_
        refine AX.region ?_
        refine AXo.go (f := 0) hev (d_fieldAddr rfl fo38_0 rfl) ?_
        refine AXo.go (f := 0) hev (d_loadT rfl (ld ty35 rfl rfl)) ?_
        refine AXo.go (f := 0) hev (d_eqI rfl rfl) ?_
        refine AXo.nil ?_
        refine AX.cond rfl (fun hc16 => ?_) (fun hc16 => ?_)
        · skip
          have dhc16 := eq_of_beq hc16
          refine AX.region ?_
          refine AXo.go (f := 0) hev (d_assign rfl) ?_
          refine AXo.nil ?_
          refine AX.seq ?_
          refine AX.region ?_
          refine AXo.go (f := 0) hev (d_move rfl) ?_
          refine AXo.go (f := 0) hev (d_move rfl) ?_
          refine AXo.gT (f := 0) hev rfl rfl rfl (fun hb => d_fieldAddr rfl fo38_2 rfl) ?_
          refine AXo.gT (f := 0) hev rfl rfl rfl (fun hb => d_load (rho_gv hb rfl) (ld ty36 rfl rfl)) ?_
          refine AXo.gT (f := 0) hev rfl rfl rfl (fun hb => d_lenT (rho_gv hb rfl) ty36 rfl) ?_
          refine AXo.gT (f := 0) hev rfl rfl rfl (fun hb => d_move rfl) ?_
          refine AXo.gT (f := 0) hev rfl rfl rfl (fun hb => d_eqI (rho_gv hb rfl) (rho_gv hb rfl)) ?_
          refine AXo.go (f := 0) hev ((by first | exact d_and rfl rfl (fun h => by simp_all) | exact d_pick rfl rfl rfl)) ?_
          refine AXo.go (f := 0) hev (d_assign rfl) ?_
          refine AXo.nil ?_
          refine AX.seq ?_
          refine AX.seq ?_
          refine AX.region ?_
          refine AXo.go (f := 0) hev (d_move rfl) ?_
          refine AXo.go (f := 0) hev (d_lenT rfl ty36 rfl) ?_
          refine AXo.go (f := 0) hev (d_move rfl) ?_
          refine AXo.nil ?_
          refine AX.block ?_
          have hLl : (os ++ (bs.take i_12).map tyOfAttr).length ≤ 8388608 := inner_len lo lb
          refine AX.loop (α := Nat × Int × Bool) (fun x => ⟨frm 119 [(2, .t (.int .i64 x.2.1)), (3, .t (.bool x.2.2)), (97, .t (.sl (os ++ (bs.take i_12).map tyOfAttr))), (98, .t (.int .i64 (((os ++ (bs.take i_12).map tyOfAttr).length : Nat) : Int))), (99, .t (.int .i64 ((x.1 : Nat) : Int)))], [], 0⟩) (fun x => (x.1 ≤ (os ++ (bs.take i_12).map tyOfAttr).length) ∧ (x.2.2 = true → ((((((((s == []) || (k == 4)) && ((((bs.length : Nat) : Int) == 0) || (k == 6))) && decide (k < 7)) && decide (((bs.length : Nat) : Int) ≤ 16)) && (f_ri (.sl bs) (.fn (.func 80)))) && (!(f_ca (.sl bs) (.fn (.func 82))))) && (((os.length : Nat) : Int) == 1)) = true ∧ ∀ j, j < x.1 → ∀ x, (os ++ (bs.take i_12).map tyOfAttr)[j]? = some x → G x)) (fun x => (os ++ (bs.take i_12).map tyOfAttr).length - x.1) (⟨0, 0, ((((((((s == []) || (k == 4)) && ((((bs.length : Nat) : Int) == 0) || (k == 6))) && decide (k < 7)) && decide (((bs.length : Nat) : Int) ≤ 16)) && (f_ri (.sl bs) (.fn (.func 80)))) && (!(f_ca (.sl bs) (.fn (.func 82))))) && (((os.length : Nat) : Int) == 1))⟩) (Re.sq [] ⟨rfl, rfl, rfl, rfl, rfl, trivial⟩ trivial (by decide) rfl rfl (by decide)) ⟨Nat.zero_le _, fun h => ⟨h, fun j hj => absurd hj (Nat.not_lt_zero j)⟩⟩ (fun x hok => ?_)
          obtain ⟨i_17, v2_17, v3_17⟩ := x
          replace hok : (i_17 ≤ (os ++ (bs.take i_12).map tyOfAttr).length) ∧ (v3_17 = true → ((((((((s == []) || (k == 4)) && ((((bs.length : Nat) : Int) == 0) || (k == 6))) && decide (k < 7)) && decide (((bs.length : Nat) : Int) ≤ 16)) && (f_ri (.sl bs) (.fn (.func 80)))) && (!(f_ca (.sl bs) (.fn (.func 82))))) && (((os.length : Nat) : Int) == 1)) = true ∧ ∀ j, j < i_17 → ∀ x, (os ++ (bs.take i_12).map tyOfAttr)[j]? = some x → G x) := hok
          obtain ⟨hok_17_0, hok_17_1⟩ := hok
          show AX _ _ ⟨frm 119 [(2, .t (.int .i64 v2_17)), (3, .t (.bool v3_17)), (97, .t (.sl (os ++ (bs.take i_12).map tyOfAttr))), (98, .t (.int .i64 (((os ++ (bs.take i_12).map tyOfAttr).length : Nat) : Int))), (99, .t (.int .i64 ((i_17 : Nat) : Int)))], [], 0⟩ _
          refine AX.seq ?_
          refine AX.region ?_
          refine AXo.go (f := 0) hev (d_ltI rfl rfl) ?_
          refine AXo.nil ?_
          refine AX.seq ?_
          refine AX.cond rfl (fun hc18 => ?_) (fun hc18 => ?_)
          · skip
            have dhc18 := of_decide_eq_true hc18
            refine AX.skip ?_
            refine AX.seq ?_
            refine AX.block ?_
            refine AX.seq ?_
            refine AX.region ?_
            obtain ⟨e19, he19⟩ : ∃ e, (os ++ (bs.take i_12).map tyOfAttr)[i_17]? = some e := ⟨(os ++ (bs.take i_12).map tyOfAttr)[i_17]'(by first | omega | (simp; omega)), List.getElem?_eq_getElem _⟩
            have hd_20 := (inner_ty ho hb) e19 (List.mem_of_getElem? he19)
            obtain ⟨k_20, s_20, os_20, bs_20, rfl, lo_20, lb_20⟩ := hform _ (hd_20)
            refine AXo.go (f := 0) hev (d_indexT (m := i_17) rfl rfl ty36 rfl ty38 he19 rfl) ?_
            refine AXo.go (f := 0) hev (d_load rfl (ld ty38 rfl rfl)) ?_
            refine AXo.go (f := 0) hev (d_alloc ty38 rfl rfl) ?_
            refine AXo.go0 (f := 0) hev (d_store rfl rfl (stt ty38 rfl rfl)) ?_
            refine AXo.nil ?_
            refine AX.seq ?_
            refine AX.region ?_
            refine AXo.go (f := 0) hev (d_load rfl (ld ty38 rfl rfl)) ?_
            refine AXo.go (f := 0) hev (d_callT (rh1 rfl) (has1 e_sz hd_20)) ?_
            refine AXo.go (f := 0) hev (d_move rfl) ?_
            refine AXo.go (f := 0) hev (d_extract rfl rfl) ?_
            refine AXo.go (f := 0) hev (d_extract rfl rfl) ?_
            refine AXo.go (f := 0) hev (d_assign rfl) ?_
            refine AXo.go (f := 0) hev (d_assign rfl) ?_
            refine AXo.nil ?_
            refine AX.region ?_
            refine AXo.go (f := 0) hev (d_move rfl) ?_
            refine AXo.go (f := 0) hev (d_move rfl) ?_
            refine AXo.go (f := 0) hev (d_max rfl rfl) ?_
            refine AXo.go (f := 0) hev (d_move rfl) ?_
            refine AXo.go (f := 0) hev (d_move rfl) ?_
            refine AXo.gT (f := 0) hev rfl rfl rfl (fun hb => d_move rfl) ?_
            refine AXo.go (f := 0) hev ((by first | exact d_and rfl rfl (fun h => by simp_all) | exact d_pick rfl rfl rfl)) ?_
            refine AXo.go (f := 0) hev (d_assign rfl) ?_
            refine AXo.go (f := 0) hev (d_assign rfl) ?_
            refine AXo.nil ?_
            refine AX.outNormal ?_
            refine AX.region ?_
            refine AXo.go (f := 0) hev (d_add64 rfl rfl (by omega) (by omega)) ?_
            refine AXo.go (f := 0) hev (d_move rfl) ?_
            refine AXo.nil ?_
            exact ⟨.inl ⟨⟨i_17 + 1, (max v2_17 (dz (.agg [.int .u8 k_20, .str s_20, .sl os_20, .sl bs_20]))), (v3_17 && (oz (.agg [.int .u8 k_20, .str s_20, .sl os_20, .sl bs_20])))⟩, ⟨⟨(by show (i_17 + 1) ≤ (os ++ (bs.take i_12).map tyOfAttr).length; first | omega | (simp only [List.length_append, List.length_cons, List.length_nil, List.length_singleton] at *; omega) | (simp; done) | (simp; omega)), (fun hv => by have hv := Bool.and_eq_true_iff.1 hv; obtain ⟨h1, h2⟩ := hok_17_1 hv.1; exact ⟨h1, some_upto he19 (hG _ hd_20 hv.2) h2⟩)⟩, (by show ((os ++ (bs.take i_12).map tyOfAttr).length - (i_17 + 1)) < ((os ++ (bs.take i_12).map tyOfAttr).length - i_17); omega)⟩⟩, rfl, Re.sq [] ⟨rfl, rfl, rfl, rfl, rfl, trivial⟩ trivial (by decide) rfl rfl (by decide)⟩
          · skip
            have dhc18 := of_decide_eq_false hc18
            refine AX.exit ?_
            refine AX.thenExit ?_
            refine AX.leave (e := .exit 3) (by simp) ?_
            refine AX.outHere ?_
            refine AX.seq ?_
            refine AX.region ?_
            refine AXo.go (f := 0) hev (d_move rfl) ?_
            refine AXo.go (f := 0) hev (d_int rfl rfl rfl) ?_
            refine AXo.go (f := 0) hev (d_move rfl) ?_
            refine AXo.go (f := 0) hev (d_assign rfl) ?_
            refine AXo.go (f := 0) hev (d_assign rfl) ?_
            refine AXo.nil ?_
            refine AX.ret ?_
            refine ⟨⟨(_, _), fun hr => ?_⟩, .inl rfl⟩
            obtain ⟨h1, h2⟩ := hok_17_1 hr
            have h3 := all_upto (fun j hj => h2 j (by omega))
            simp only [Bool.and_eq_true] at h1
            have hie : i_12 = bs.length := by omega
            rw [hie] at h3
            have hk6 := eq_of_beq hc11; subst hk6; exact gstep_rec hb (by simp_all) (by simp_all) h3
        · skip
          have dhc16 := ne_of_beq_false hc16
          refine AX.skip ?_
          refine AX.seq ?_
          refine AX.region ?_
          refine AXo.go (f := 0) hev (d_move rfl) ?_
          refine AXo.go (f := 0) hev (d_move rfl) ?_
          refine AXo.gT (f := 0) hev rfl rfl rfl (fun hb => d_fieldAddr rfl fo38_2 rfl) ?_
          refine AXo.gT (f := 0) hev rfl rfl rfl (fun hb => d_load (rho_gv hb rfl) (ld ty36 rfl rfl)) ?_
          refine AXo.gT (f := 0) hev rfl rfl rfl (fun hb => d_lenT (rho_gv hb rfl) ty36 rfl) ?_
          refine AXo.gT (f := 0) hev rfl rfl rfl (fun hb => d_move rfl) ?_
          refine AXo.gT (f := 0) hev rfl rfl rfl (fun hb => d_eqI (rho_gv hb rfl) (rho_gv hb rfl)) ?_
          refine AXo.go (f := 0) hev ((by first | exact d_and rfl rfl (fun h => by simp_all) | exact d_pick rfl rfl rfl)) ?_
          refine AXo.go (f := 0) hev (d_assign rfl) ?_
          refine AXo.nil ?_
          refine AX.seq ?_
          refine AX.seq ?_
          refine AX.region ?_
          refine AXo.go (f := 0) hev (d_move rfl) ?_
          refine AXo.go (f := 0) hev (d_lenT rfl ty36 rfl) ?_
          refine AXo.go (f := 0) hev (d_move rfl) ?_
          refine AXo.nil ?_
          refine AX.block ?_
          have hLl : (os ++ (bs.take i_12).map tyOfAttr).length ≤ 8388608 := inner_len lo lb
          refine AX.loop (α := Nat × Int × Bool) (fun x => ⟨frm 119 [(2, .t (.int .i64 x.2.1)), (3, .t (.bool x.2.2)), (97, .t (.sl (os ++ (bs.take i_12).map tyOfAttr))), (98, .t (.int .i64 (((os ++ (bs.take i_12).map tyOfAttr).length : Nat) : Int))), (99, .t (.int .i64 ((x.1 : Nat) : Int)))], [], 0⟩) (fun x => (x.1 ≤ (os ++ (bs.take i_12).map tyOfAttr).length) ∧ (x.2.2 = true → ((((((((s == []) || (k == 4)) && ((((bs.length : Nat) : Int) == 0) || (k == 6))) && decide (k < 7)) && decide (((bs.length : Nat) : Int) ≤ 16)) && (f_ri (.sl bs) (.fn (.func 80)))) && (!(f_ca (.sl bs) (.fn (.func 82))))) && (((os.length : Nat) : Int) == 0)) = true ∧ ∀ j, j < x.1 → ∀ x, (os ++ (bs.take i_12).map tyOfAttr)[j]? = some x → G x)) (fun x => (os ++ (bs.take i_12).map tyOfAttr).length - x.1) (⟨0, 0, ((((((((s == []) || (k == 4)) && ((((bs.length : Nat) : Int) == 0) || (k == 6))) && decide (k < 7)) && decide (((bs.length : Nat) : Int) ≤ 16)) && (f_ri (.sl bs) (.fn (.func 80)))) && (!(f_ca (.sl bs) (.fn (.func 82))))) && (((os.length : Nat) : Int) == 0))⟩) (Re.sq [] ⟨rfl, rfl, rfl, rfl, rfl, trivial⟩ trivial (by decide) rfl rfl (by decide)) ⟨Nat.zero_le _, fun h => ⟨h, fun j hj => absurd hj (Nat.not_lt_zero j)⟩⟩ (fun x hok => ?_)
          obtain ⟨i_21, v2_21, v3_21⟩ := x
          replace hok : (i_21 ≤ (os ++ (bs.take i_12).map tyOfAttr).length) ∧ (v3_21 = true → ((((((((s == []) || (k == 4)) && ((((bs.length : Nat) : Int) == 0) || (k == 6))) && decide (k < 7)) && decide (((bs.length : Nat) : Int) ≤ 16)) && (f_ri (.sl bs) (.fn (.func 80)))) && (!(f_ca (.sl bs) (.fn (.func 82))))) && (((os.length : Nat) : Int) == 0)) = true ∧ ∀ j, j < i_21 → ∀ x, (os ++ (bs.take i_12).map tyOfAttr)[j]? = some x → G x) := hok
          obtain ⟨hok_21_0, hok_21_1⟩ := hok
          show AX _ _ ⟨frm 119 [(2, .t (.int .i64 v2_21)), (3, .t (.bool v3_21)), (97, .t (.sl (os ++ (bs.take i_12).map tyOfAttr))), (98, .t (.int .i64 (((os ++ (bs.take i_12).map tyOfAttr).length : Nat) : Int))), (99, .t (.int .i64 ((i_21 : Nat) : Int)))], [], 0⟩ _
          refine AX.seq ?_
          refine AX.region ?_
          refine AXo.go (f := 0) hev (d_ltI rfl rfl) ?_
          refine AXo.nil ?_
          refine AX.seq ?_
          refine AX.cond rfl (fun hc22 => ?_) (fun hc22 => ?_)
          · skip
            have dhc22 := of_decide_eq_true hc22
            refine AX.skip ?_
            refine AX.seq ?_
            refine AX.block ?_
            refine AX.seq ?_
            refine AX.region ?_
            obtain ⟨e23, he23⟩ : ∃ e, (os ++ (bs.take i_12).map tyOfAttr)[i_21]? = some e := ⟨(os ++ (bs.take i_12).map tyOfAttr)[i_21]'(by first | omega | (simp; omega)), List.getElem?_eq_getElem _⟩
            have hd_24 := (inner_ty ho hb) e23 (List.mem_of_getElem? he23)
            obtain ⟨k_24, s_24, os_24, bs_24, rfl, lo_24, lb_24⟩ := hform _ (hd_24)
            refine AXo.go (f := 0) hev (d_indexT (m := i_21) rfl rfl ty36 rfl ty38 he23 rfl) ?_
            refine AXo.go (f := 0) hev (d_load rfl (ld ty38 rfl rfl)) ?_
            refine AXo.go (f := 0) hev (d_alloc ty38 rfl rfl) ?_
            refine AXo.go0 (f := 0) hev (d_store rfl rfl (stt ty38 rfl rfl)) ?_
            refine AXo.nil ?_
            refine AX.seq ?_
            refine AX.region ?_
            refine AXo.go (f := 0) hev (d_load rfl (ld ty38 rfl rfl)) ?_
            refine AXo.go (f := 0) hev (d_callT (rh1 rfl) (has1 e_sz hd_24)) ?_
            refine AXo.go (f := 0) hev (d_move rfl) ?_
            refine AXo.go (f := 0) hev (d_extract rfl rfl) ?_
            refine AXo.go (f := 0) hev (d_extract rfl rfl) ?_
            refine AXo.go (f := 0) hev (d_assign rfl) ?_
            refine AXo.go (f := 0) hev (d_assign rfl) ?_
            refine AXo.nil ?_
            refine AX.region ?_
            refine AXo.go (f := 0) hev (d_move rfl) ?_
            refine AXo.go (f := 0) hev (d_move rfl) ?_
            refine AXo.go (f := 0) hev (d_max rfl rfl) ?_
            refine AXo.go (f := 0) hev (d_move rfl) ?_
            refine AXo.go (f := 0) hev (d_move rfl) ?_
            refine AXo.gT (f := 0) hev rfl rfl rfl (fun hb => d_move rfl) ?_
            refine AXo.go (f := 0) hev ((by first | exact d_and rfl rfl (fun h => by simp_all) | exact d_pick rfl rfl rfl)) ?_
            refine AXo.go (f := 0) hev (d_assign rfl) ?_
            refine AXo.go (f := 0) hev (d_assign rfl) ?_
            refine AXo.nil ?_
            refine AX.outNormal ?_
            refine AX.region ?_
            refine AXo.go (f := 0) hev (d_add64 rfl rfl (by omega) (by omega)) ?_
            refine AXo.go (f := 0) hev (d_move rfl) ?_
            refine AXo.nil ?_
            exact ⟨.inl ⟨⟨i_21 + 1, (max v2_21 (dz (.agg [.int .u8 k_24, .str s_24, .sl os_24, .sl bs_24]))), (v3_21 && (oz (.agg [.int .u8 k_24, .str s_24, .sl os_24, .sl bs_24])))⟩, ⟨⟨(by show (i_21 + 1) ≤ (os ++ (bs.take i_12).map tyOfAttr).length; first | omega | (simp only [List.length_append, List.length_cons, List.length_nil, List.length_singleton] at *; omega) | (simp; done) | (simp; omega)), (fun hv => by have hv := Bool.and_eq_true_iff.1 hv; obtain ⟨h1, h2⟩ := hok_21_1 hv.1; exact ⟨h1, some_upto he23 (hG _ hd_24 hv.2) h2⟩)⟩, (by show ((os ++ (bs.take i_12).map tyOfAttr).length - (i_21 + 1)) < ((os ++ (bs.take i_12).map tyOfAttr).length - i_21); omega)⟩⟩, rfl, Re.sq [] ⟨rfl, rfl, rfl, rfl, rfl, trivial⟩ trivial (by decide) rfl rfl (by decide)⟩
          · skip
            have dhc22 := of_decide_eq_false hc22
            refine AX.exit ?_
            refine AX.thenExit ?_
            refine AX.leave (e := .exit 3) (by simp) ?_
            refine AX.outHere ?_
            refine AX.seq ?_
            refine AX.region ?_
            refine AXo.go (f := 0) hev (d_move rfl) ?_
            refine AXo.go (f := 0) hev (d_int rfl rfl rfl) ?_
            refine AXo.go (f := 0) hev (d_move rfl) ?_
            refine AXo.go (f := 0) hev (d_assign rfl) ?_
            refine AXo.go (f := 0) hev (d_assign rfl) ?_
            refine AXo.nil ?_
            refine AX.ret ?_
            refine ⟨⟨(_, _), fun hr => ?_⟩, .inl rfl⟩
            obtain ⟨h1, h2⟩ := hok_21_1 hr
            have h3 := all_upto (fun j hj => h2 j (by omega))
            simp only [Bool.and_eq_true] at h1
            have hie : i_12 = bs.length := by omega
            rw [hie] at h3
            have hk6 := eq_of_beq hc11; subst hk6; exact gstep_rec hb (by simp_all) (by simp_all) h3
    · skip
      have dhc11 := ne_of_beq_false hc11
      refine AX.skip ?_
      refine AX.outNormal ?_
      refine AX.seq ?_
      refine AX.region ?_
      refine AXo.go (f := 0) hev (d_assign rfl) ?_
      refine AXo.nil ?_
      refine AX.seq ?_
      refine AX.seq ?_
      refine AX.region ?_
      refine AXo.go (f := 0) hev (d_fieldAddr rfl fo38_0 rfl) ?_
      refine AXo.go (f := 0) hev (d_loadT rfl (ld ty35 rfl rfl)) ?_
      refine AXo.go (f := 0) hev (d_eqI rfl rfl) ?_
      refine AXo.nil ?_
      refine AX.cond rfl (fun hc25 => ?_) (fun hc25 => ?_)
      · skip
        have dhc25 := eq_of_beq hc25
        refine AX.region ?_
        refine AXo.go (f := 0) hev (d_assign rfl) ?_
        refine AXo.nil ?_
        refine AX.seq ?_
        refine AX.region ?_
        refine AXo.go (f := 0) hev (d_move rfl) ?_
        refine AXo.go (f := 0) hev (d_move rfl) ?_
        refine AXo.gT (f := 0) hev rfl rfl rfl (fun hb => d_fieldAddr rfl fo38_2 rfl) ?_
        refine AXo.gT (f := 0) hev rfl rfl rfl (fun hb => d_load (rho_gv hb rfl) (ld ty36 rfl rfl)) ?_
        refine AXo.gT (f := 0) hev rfl rfl rfl (fun hb => d_lenT (rho_gv hb rfl) ty36 rfl) ?_
        refine AXo.gT (f := 0) hev rfl rfl rfl (fun hb => d_move rfl) ?_
        refine AXo.gT (f := 0) hev rfl rfl rfl (fun hb => d_eqI (rho_gv hb rfl) (rho_gv hb rfl)) ?_
        refine AXo.go (f := 0) hev ((by first | exact d_and rfl rfl (fun h => by simp_all) | exact d_pick rfl rfl rfl)) ?_
        refine AXo.go (f := 0) hev (d_assign rfl) ?_
        refine AXo.nil ?_
        refine AX.seq ?_
        refine AX.seq ?_
        refine AX.region ?_
        refine AXo.go (f := 0) hev (d_move rfl) ?_
        refine AXo.go (f := 0) hev (d_lenT rfl ty36 rfl) ?_
        refine AXo.go (f := 0) hev (d_move rfl) ?_
        refine AXo.nil ?_
        refine AX.block ?_
        have hLl : os.length ≤ 8388608 := by omega
        refine AX.loop (α := Nat × Int × Bool) (fun x => ⟨frm 119 [(2, .t (.int .i64 x.2.1)), (3, .t (.bool x.2.2)), (97, .t (.sl os)), (98, .t (.int .i64 ((os.length : Nat) : Int))), (99, .t (.int .i64 ((x.1 : Nat) : Int)))], [], 0⟩) (fun x => (x.1 ≤ os.length) ∧ (x.2.2 = true → (((((s == []) || (k == 4)) && ((((bs.length : Nat) : Int) == 0) || (k == 6))) && decide (k < 7)) && (((os.length : Nat) : Int) == 1)) = true ∧ ∀ j, j < x.1 → ∀ x, os[j]? = some x → G x)) (fun x => os.length - x.1) (⟨0, 0, (((((s == []) || (k == 4)) && ((((bs.length : Nat) : Int) == 0) || (k == 6))) && decide (k < 7)) && (((os.length : Nat) : Int) == 1))⟩) (Re.sq [] ⟨rfl, rfl, rfl, rfl, rfl, trivial⟩ trivial (by decide) rfl rfl (by decide)) ⟨Nat.zero_le _, fun h => ⟨h, fun j hj => absurd hj (Nat.not_lt_zero j)⟩⟩ (fun x hok => ?_)
        obtain ⟨i_26, v2_26, v3_26⟩ := x
        replace hok : (i_26 ≤ os.length) ∧ (v3_26 = true → (((((s == []) || (k == 4)) && ((((bs.length : Nat) : Int) == 0) || (k == 6))) && decide (k < 7)) && (((os.length : Nat) : Int) == 1)) = true ∧ ∀ j, j < i_26 → ∀ x, os[j]? = some x → G x) := hok
        obtain ⟨hok_26_0, hok_26_1⟩ := hok
        show AX _ _ ⟨frm 119 [(2, .t (.int .i64 v2_26)), (3, .t (.bool v3_26)), (97, .t (.sl os)), (98, .t (.int .i64 ((os.length : Nat) : Int))), (99, .t (.int .i64 ((i_26 : Nat) : Int)))], [], 0⟩ _
        refine AX.seq ?_
        refine AX.region ?_
        refine AXo.go (f := 0) hev (d_ltI rfl rfl) ?_
        refine AXo.nil ?_
        refine AX.seq ?_
        refine AX.cond rfl (fun hc27 => ?_) (fun hc27 => ?_)
        · skip
          have dhc27 := of_decide_eq_true hc27
          refine AX.skip ?_
          refine AX.seq ?_
          refine AX.block ?_
          refine AX.seq ?_
          refine AX.region ?_
          obtain ⟨e28, he28⟩ : ∃ e, os[i_26]? = some e := ⟨os[i_26]'(by first | omega | (simp; omega)), List.getElem?_eq_getElem _⟩
          have hd_29 := (ho) e28 (List.mem_of_getElem? he28)
          obtain ⟨k_29, s_29, os_29, bs_29, rfl, lo_29, lb_29⟩ := hform _ (hd_29)
          refine AXo.go (f := 0) hev (d_indexT (m := i_26) rfl rfl ty36 rfl ty38 he28 rfl) ?_
          refine AXo.go (f := 0) hev (d_load rfl (ld ty38 rfl rfl)) ?_
          refine AXo.go (f := 0) hev (d_alloc ty38 rfl rfl) ?_
          refine AXo.go0 (f := 0) hev (d_store rfl rfl (stt ty38 rfl rfl)) ?_
          refine AXo.nil ?_
          refine AX.seq ?_
          refine AX.region ?_
          refine AXo.go (f := 0) hev (d_load rfl (ld ty38 rfl rfl)) ?_
          refine AXo.go (f := 0) hev (d_callT (rh1 rfl) (has1 e_sz hd_29)) ?_
          refine AXo.go (f := 0) hev (d_move rfl) ?_
          refine AXo.go (f := 0) hev (d_extract rfl rfl) ?_
          refine AXo.go (f := 0) hev (d_extract rfl rfl) ?_
          refine AXo.go (f := 0) hev (d_assign rfl) ?_
          refine AXo.go (f := 0) hev (d_assign rfl) ?_
          refine AXo.nil ?_
          refine AX.region ?_
          refine AXo.go (f := 0) hev (d_move rfl) ?_
          refine AXo.go (f := 0) hev (d_move rfl) ?_
          refine AXo.go (f := 0) hev (d_max rfl rfl) ?_
          refine AXo.go (f := 0) hev (d_move rfl) ?_
          refine AXo.go (f := 0) hev (d_move rfl) ?_
          refine AXo.gT (f := 0) hev rfl rfl rfl (fun hb => d_move rfl) ?_
          refine AXo.go (f := 0) hev ((by first | exact d_and rfl rfl (fun h => by simp_all) | exact d_pick rfl rfl rfl)) ?_
          refine AXo.go (f := 0) hev (d_assign rfl) ?_
          refine AXo.go (f := 0) hev (d_assign rfl) ?_
          refine AXo.nil ?_
          refine AX.outNormal ?_
          refine AX.region ?_
          refine AXo.go (f := 0) hev (d_add64 rfl rfl (by omega) (by omega)) ?_
          refine AXo.go (f := 0) hev (d_move rfl) ?_
          refine AXo.nil ?_
          exact ⟨.inl ⟨⟨i_26 + 1, (max v2_26 (dz (.agg [.int .u8 k_29, .str s_29, .sl os_29, .sl bs_29]))), (v3_26 && (oz (.agg [.int .u8 k_29, .str s_29, .sl os_29, .sl bs_29])))⟩, ⟨⟨(by show (i_26 + 1) ≤ os.length; first | omega | (simp only [List.length_append, List.length_cons, List.length_nil, List.length_singleton] at *; omega) | (simp; done) | (simp; omega)), (fun hv => by have hv := Bool.and_eq_true_iff.1 hv; obtain ⟨h1, h2⟩ := hok_26_1 hv.1; exact ⟨h1, some_upto he28 (hG _ hd_29 hv.2) h2⟩)⟩, (by show (os.length - (i_26 + 1)) < (os.length - i_26); omega)⟩⟩, rfl, Re.sq [] ⟨rfl, rfl, rfl, rfl, rfl, trivial⟩ trivial (by decide) rfl rfl (by decide)⟩
        · skip
          have dhc27 := of_decide_eq_false hc27
          refine AX.exit ?_
          refine AX.thenExit ?_
          refine AX.leave (e := .exit 3) (by simp) ?_
          refine AX.outHere ?_
          refine AX.seq ?_
          refine AX.region ?_
          refine AXo.go (f := 0) hev (d_move rfl) ?_
          refine AXo.go (f := 0) hev (d_int rfl rfl rfl) ?_
          refine AXo.go (f := 0) hev (d_move rfl) ?_
          refine AXo.go (f := 0) hev (d_assign rfl) ?_
          refine AXo.go (f := 0) hev (d_assign rfl) ?_
          refine AXo.nil ?_
          refine AX.ret ?_
          refine ⟨⟨(_, _), fun hr => ?_⟩, .inl rfl⟩
          obtain ⟨h1, h2⟩ := hok_26_1 hr
          have h3 := all_upto (fun j hj => h2 j (by omega))
          simp only [Bool.and_eq_true] at h1
          exact gstep_plain (ne_of_beq_false hc11) (by simp_all) (by simp_all) (by simp_all) (by simp_all) h3
      · skip
        have dhc25 := ne_of_beq_false hc25
        refine AX.skip ?_
        refine AX.seq ?_
        refine AX.region ?_
        refine AXo.go (f := 0) hev (d_move rfl) ?_
        refine AXo.go (f := 0) hev (d_move rfl) ?_
        refine AXo.gT (f := 0) hev rfl rfl rfl (fun hb => d_fieldAddr rfl fo38_2 rfl) ?_
        refine AXo.gT (f := 0) hev rfl rfl rfl (fun hb => d_load (rho_gv hb rfl) (ld ty36 rfl rfl)) ?_
        refine AXo.gT (f := 0) hev rfl rfl rfl (fun hb => d_lenT (rho_gv hb rfl) ty36 rfl) ?_
        refine AXo.gT (f := 0) hev rfl rfl rfl (fun hb => d_move rfl) ?_
        refine AXo.gT (f := 0) hev rfl rfl rfl (fun hb => d_eqI (rho_gv hb rfl) (rho_gv hb rfl)) ?_
        refine AXo.go (f := 0) hev ((by first | exact d_and rfl rfl (fun h => by simp_all) | exact d_pick rfl rfl rfl)) ?_
        refine AXo.go (f := 0) hev (d_assign rfl) ?_
        refine AXo.nil ?_
        refine AX.seq ?_
        refine AX.seq ?_
        refine AX.region ?_
        refine AXo.go (f := 0) hev (d_move rfl) ?_
        refine AXo.go (f := 0) hev (d_lenT rfl ty36 rfl) ?_
        refine AXo.go (f := 0) hev (d_move rfl) ?_
        refine AXo.nil ?_
        refine AX.block ?_
        have hLl : os.length ≤ 8388608 := by omega
        refine AX.loop (α := Nat × Int × Bool) (fun x => ⟨frm 119 [(2, .t (.int .i64 x.2.1)), (3, .t (.bool x.2.2)), (97, .t (.sl os)), (98, .t (.int .i64 ((os.length : Nat) : Int))), (99, .t (.int .i64 ((x.1 : Nat) : Int)))], [], 0⟩) (fun x => (x.1 ≤ os.length) ∧ (x.2.2 = true → (((((s == []) || (k == 4)) && ((((bs.length : Nat) : Int) == 0) || (k == 6))) && decide (k < 7)) && (((os.length : Nat) : Int) == 0)) = true ∧ ∀ j, j < x.1 → ∀ x, os[j]? = some x → G x)) (fun x => os.length - x.1) (⟨0, 0, (((((s == []) || (k == 4)) && ((((bs.length : Nat) : Int) == 0) || (k == 6))) && decide (k < 7)) && (((os.length : Nat) : Int) == 0))⟩) (Re.sq [] ⟨rfl, rfl, rfl, rfl, rfl, trivial⟩ trivial (by decide) rfl rfl (by decide)) ⟨Nat.zero_le _, fun h => ⟨h, fun j hj => absurd hj (Nat.not_lt_zero j)⟩⟩ (fun x hok => ?_)
        obtain ⟨i_30, v2_30, v3_30⟩ := x
        replace hok : (i_30 ≤ os.length) ∧ (v3_30 = true → (((((s == []) || (k == 4)) && ((((bs.length : Nat) : Int) == 0) || (k == 6))) && decide (k < 7)) && (((os.length : Nat) : Int) == 0)) = true ∧ ∀ j, j < i_30 → ∀ x, os[j]? = some x → G x) := hok
        obtain ⟨hok_30_0, hok_30_1⟩ := hok
        show AX _ _ ⟨frm 119 [(2, .t (.int .i64 v2_30)), (3, .t (.bool v3_30)), (97, .t (.sl os)), (98, .t (.int .i64 ((os.length : Nat) : Int))), (99, .t (.int .i64 ((i_30 : Nat) : Int)))], [], 0⟩ _
        refine AX.seq ?_
        refine AX.region ?_
        refine AXo.go (f := 0) hev (d_ltI rfl rfl) ?_
        refine AXo.nil ?_
        refine AX.seq ?_
        refine AX.cond rfl (fun hc31 => ?_) (fun hc31 => ?_)
        · skip
          have dhc31 := of_decide_eq_true hc31
          refine AX.skip ?_
          refine AX.seq ?_
          refine AX.block ?_
          refine AX.seq ?_
          refine AX.region ?_
          obtain ⟨e32, he32⟩ : ∃ e, os[i_30]? = some e := ⟨os[i_30]'(by first | omega | (simp; omega)), List.getElem?_eq_getElem _⟩
          have hd_33 := (ho) e32 (List.mem_of_getElem? he32)
          obtain ⟨k_33, s_33, os_33, bs_33, rfl, lo_33, lb_33⟩ := hform _ (hd_33)
          refine AXo.go (f := 0) hev (d_indexT (m := i_30) rfl rfl ty36 rfl ty38 he32 rfl) ?_
          refine AXo.go (f := 0) hev (d_load rfl (ld ty38 rfl rfl)) ?_
          refine AXo.go (f := 0) hev (d_alloc ty38 rfl rfl) ?_
          refine AXo.go0 (f := 0) hev (d_store rfl rfl (stt ty38 rfl rfl)) ?_
          refine AXo.nil ?_
          refine AX.seq ?_
          refine AX.region ?_
          refine AXo.go (f := 0) hev (d_load rfl (ld ty38 rfl rfl)) ?_
          refine AXo.go (f := 0) hev (d_callT (rh1 rfl) (has1 e_sz hd_33)) ?_
          refine AXo.go (f := 0) hev (d_move rfl) ?_
          refine AXo.go (f := 0) hev (d_extract rfl rfl) ?_
          refine AXo.go (f := 0) hev (d_extract rfl rfl) ?_
          refine AXo.go (f := 0) hev (d_assign rfl) ?_
          refine AXo.go (f := 0) hev (d_assign rfl) ?_
          refine AXo.nil ?_
          refine AX.region ?_
          refine AXo.go (f := 0) hev (d_move rfl) ?_
          refine AXo.go (f := 0) hev (d_move rfl) ?_
          refine AXo.go (f := 0) hev (d_max rfl rfl) ?_
          refine AXo.go (f := 0) hev (d_move rfl) ?_
          refine AXo.go (f := 0) hev (d_move rfl) ?_
          refine AXo.gT (f := 0) hev rfl rfl rfl (fun hb => d_move rfl) ?_
          refine AXo.go (f := 0) hev ((by first | exact d_and rfl rfl (fun h => by simp_all) | exact d_pick rfl rfl rfl)) ?_
          refine AXo.go (f := 0) hev (d_assign rfl) ?_
          refine AXo.go (f := 0) hev (d_assign rfl) ?_
          refine AXo.nil ?_
          refine AX.outNormal ?_
          refine AX.region ?_
          refine AXo.go (f := 0) hev (d_add64 rfl rfl (by omega) (by omega)) ?_
          refine AXo.go (f := 0) hev (d_move rfl) ?_
          refine AXo.nil ?_
          exact ⟨.inl ⟨⟨i_30 + 1, (max v2_30 (dz (.agg [.int .u8 k_33, .str s_33, .sl os_33, .sl bs_33]))), (v3_30 && (oz (.agg [.int .u8 k_33, .str s_33, .sl os_33, .sl bs_33])))⟩, ⟨⟨(by show (i_30 + 1) ≤ os.length; first | omega | (simp only [List.length_append, List.length_cons, List.length_nil, List.length_singleton] at *; omega) | (simp; done) | (simp; omega)), (fun hv => by have hv := Bool.and_eq_true_iff.1 hv; obtain ⟨h1, h2⟩ := hok_30_1 hv.1; exact ⟨h1, some_upto he32 (hG _ hd_33 hv.2) h2⟩)⟩, (by show (os.length - (i_30 + 1)) < (os.length - i_30); omega)⟩⟩, rfl, Re.sq [] ⟨rfl, rfl, rfl, rfl, rfl, trivial⟩ trivial (by decide) rfl rfl (by decide)⟩
        · skip
          have dhc31 := of_decide_eq_false hc31
          refine AX.exit ?_
          refine AX.thenExit ?_
          refine AX.leave (e := .exit 3) (by simp) ?_
          refine AX.outHere ?_
          refine AX.seq ?_
          refine AX.region ?_
          refine AXo.go (f := 0) hev (d_move rfl) ?_
          refine AXo.go (f := 0) hev (d_int rfl rfl rfl) ?_
          refine AXo.go (f := 0) hev (d_move rfl) ?_
          refine AXo.go (f := 0) hev (d_assign rfl) ?_
          refine AXo.go (f := 0) hev (d_assign rfl) ?_
          refine AXo.nil ?_
          refine AX.ret ?_
          refine ⟨⟨(_, _), fun hr => ?_⟩, .inl rfl⟩
          obtain ⟨h1, h2⟩ := hok_30_1 hr
          have h3 := all_upto (fun j hj => h2 j (by omega))
          simp only [Bool.and_eq_true] at h1
          exact gstep_plain (ne_of_beq_false hc11) (by simp_all) (by simp_all) (by simp_all) (by simp_all) h3

end
end Go.Proofs.YtijfhoelihclbaaGreatDoor.w
