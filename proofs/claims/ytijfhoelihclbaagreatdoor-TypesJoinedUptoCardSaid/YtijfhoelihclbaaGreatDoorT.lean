/- The shapes of arguments. -/
import Derived.Test.YtijfhoelihclbaaGreatDoorN
import Derived.Test.YtijfhoelihclbaaGreatDoorO
import Derived.Test.YtijfhoelihclbaaGreatDoorS
namespace Go.Proofs.YtijfhoelihclbaaGreatDoor.w
open Go Go.Abs
set_option linter.unusedVariables false
inductive K where
  | apiValue
  | string
inductive T : K → Tree → Prop
  | apiValue (kind : Int) (b_ : Bool) (n : Int) (s : List UInt8) (t_ : List UInt8) (names : List Tree) (list : List Tree) (h0 : names.length ≤ 4194304) (h1 : ∀ y ∈ names, T .string y) (h2 : list.length ≤ 4194304) (h3 : ∀ y ∈ list, T .apiValue y) : T .apiValue (.agg [.int .u8 kind, .bool b_, .int .i64 n, .str s, .str t_, .sl names, .sl list])
  | string (v : List UInt8) : T .string (.str v)
theorem T.apiValue_inv {x : Tree} (h : T .apiValue x) : ∃ (kind : Int) (b_ : Bool) (n : Int) (s : List UInt8) (t_ : List UInt8) (names : List Tree) (list : List Tree), x = .agg [.int .u8 kind, .bool b_, .int .i64 n, .str s, .str t_, .sl names, .sl list] ∧ (names.length ≤ 4194304) ∧ (∀ y ∈ names, T .string y) ∧ (list.length ≤ 4194304) ∧ (∀ y ∈ list, T .apiValue y) := by
  cases h with
  | apiValue kind b_ n s t_ names list h0 h1 h2 h3 => exact ⟨kind, b_, n, s, t_, names, list, rfl, h0, h1, h2, h3⟩
theorem T.string_inv {x : Tree} (h : T .string x) : ∃ (v : List UInt8), x = .str v := by
  cases h with
  | string v  => exact ⟨v, rfl⟩
end Go.Proofs.YtijfhoelihclbaaGreatDoor.w

namespace Go.Proofs.YtijfhoelihclbaaGreatDoor.w
open Go Go.Abs Go.Abs.Ty
set_option linter.unusedVariables false
set_option maxRecDepth 100000
set_option maxHeartbeats 2000000
noncomputable section
abbrev ti35 : TI := { size := 1, bytes := 1, agg := false, zero := some (.t (.int .u8 0)), desc := .int .u8 }
theorem ty35 {m : Int} : (cf m).P.ty 35 = some ti35 := by kernel_rfl
theorem bl38 {m : Int} : bld (cf m).P 38 = some ([.t (.int .u8 0), .t (.str []), .nils, .nils], [(0, 1), (1, 1), (2, 1), (3, 1)]) := by kernel_rfl
theorem fo38_0 {m : Int} : fieldOff (cf m).P 38 0 = some 0 := by kernel_rfl
theorem fo38_1 {m : Int} : fieldOff (cf m).P 38 1 = some 1 := by kernel_rfl

theorem of_0 (m : Int) (k : Int) (s : List UInt8) (os bs : List Tree) : R1 (cf m) 46 (mkTy k s [] bs) (ofT (mkTy k s [] bs)) := by
  obtain ⟨ev, hev⟩ : ∃ ev, CallOk (cf m) ev := ⟨_, noEv_ok⟩
  refine CallRel.of_ex ?_
  refine AX.start 12 1 Tryz.func46 rfl (by decide) rfl rfl (by decide) ?_
  refine AX.seq ?_
  refine AX.region ?_
  refine AXo.go (f := 0) hev (d_box rfl rfl) ?_
  refine AXo.go (f := 0) hev (d_alloc ty38 rfl rfl) ?_
  refine AXo.nil ?_
  refine AX.seq ?_
  refine AX.seq ?_
  refine AX.region ?_
  refine AXo.go (f := 0) hev (d_fieldAddr rfl fo38_2 rfl) ?_
  refine AXo.go (f := 0) hev (d_load rfl (ld ty36 rfl rfl)) ?_
  refine AXo.go (f := 0) hev (d_lenT rfl ty36 rfl) ?_
  refine AXo.go (f := 0) hev (d_eqI rfl rfl) ?_
  refine AXo.nil ?_
  refine AX.condT rfl rfl ?_
  refine AX.seq ?_
  refine AX.region ?_
  refine AXo.go (f := 0) hev (d_build rfl bl38 rfl rfl) ?_
  refine AXo.go0 (f := 0) hev (d_store rfl rfl (stt ty38 rfl rfl)) ?_
  refine AXo.nil ?_
  refine AX.ret ?_
  refine AX.thenRet ?_
  exact ⟨(), .inl rfl⟩

theorem of_1 (m : Int) (k : Int) (s : List UInt8) (os bs : List Tree) (k2 : Int) (s2 : List UInt8) (os2 bs2 : List Tree) : R1 (cf m) 46 (mkTy k s (mkTy k2 s2 os2 bs2 :: os) bs) (ofT (mkTy k s (mkTy k2 s2 os2 bs2 :: os) bs)) := by
  obtain ⟨ev, hev⟩ : ∃ ev, CallOk (cf m) ev := ⟨_, noEv_ok⟩
  refine CallRel.of_ex ?_
  refine AX.start 12 1 Tryz.func46 rfl (by decide) rfl rfl (by decide) ?_
  refine AX.seq ?_
  refine AX.region ?_
  refine AXo.go (f := 0) hev (d_box rfl rfl) ?_
  refine AXo.go (f := 0) hev (d_alloc ty38 rfl rfl) ?_
  refine AXo.nil ?_
  refine AX.seq ?_
  refine AX.seq ?_
  refine AX.region ?_
  refine AXo.go (f := 0) hev (d_fieldAddr rfl fo38_2 rfl) ?_
  refine AXo.go (f := 0) hev (d_load rfl (ld ty36 rfl rfl)) ?_
  refine AXo.go (f := 0) hev (d_lenT rfl ty36 rfl) ?_
  refine AXo.go (f := 0) hev (d_eqI rfl rfl) ?_
  refine AXo.nil ?_
  refine AX.condF rfl (by simp; omega) ?_
  refine AX.skip ?_
  refine AX.seq ?_
  refine AX.region ?_
  refine AXo.go (f := 0) hev (d_fieldAddr rfl fo38_2 rfl) ?_
  refine AXo.go (f := 0) hev (d_load rfl (ld ty36 rfl rfl)) ?_
  refine AXo.go (f := 0) hev (d_indexT (m := 0) (e := mkTy k2 s2 os2 bs2) rfl rfl ty36 rfl ty38 rfl rfl) ?_
  refine AXo.go (f := 0) hev (d_load rfl (ld ty38 rfl rfl)) ?_
  refine AXo.go0 (f := 0) hev (d_store rfl rfl (stt ty38 rfl rfl)) ?_
  refine AXo.nil ?_
  refine AX.ret ?_
  exact ⟨(), .inl rfl⟩

theorem of_ok (m : Int) (n : Nat) (x : Tree) (h : Dp (n + 1) x) : R1 (cf m) 46 x (ofT x) ∧ Dp n (ofT x) := by
  obtain ⟨k, s, os, bs, rfl, _, _, ho, _⟩ := h
  cases os with
  | nil => exact ⟨of_0 m k s [] bs, Dp.ty0 n⟩
  | cons o os =>
    have h1 := ho o List.mem_cons_self
    obtain ⟨k2, s2, os2, bs2, rfl, _, _⟩ := h1.form
    exact ⟨of_1 m k s os bs k2 s2 os2 bs2, h1⟩

def same (a b : Tree) : Bool := @decide (a = b) (Classical.propDecidable _)
theorem same_t {a b : Tree} (h : a = b) : same a b = true := @decide_eq_true _ (Classical.propDecidable _) h
theorem same_f {a b : Tree} (h : a ≠ b) : same a b = false := @decide_eq_false _ (Classical.propDecidable _) h
theorem same_of_t {a b : Tree} (h : same a b = true) : a = b := @of_decide_eq_true _ (Classical.propDecidable _) h
theorem same_of_f {a b : Tree} (h : same a b = false) : a ≠ b := @of_decide_eq_false _ (Classical.propDecidable _) h
def Form (D : Tree → Prop) : Prop := ∀ x, D x → ∃ k s os bs, x = mkTy k s os bs ∧ os.length ≤ 4194304 ∧ bs.length ≤ 4194304
def Ats (D : Tree → Prop) (l : List Tree) : Prop := ∀ e ∈ l, ∃ nm r, e = .agg (.str nm :: r) ∧ D (.agg r)
theorem eq_of_at {a b : List Tree} (hl : a.length = b.length) (h : ∀ (j : Nat) x y, j < a.length → a[j]? = some x → b[j]? = some y → x = y) : a = b := by
  refine List.ext_getElem? fun j => ?_
  by_cases hj : j < a.length
  · rw [List.getElem?_eq_getElem hj, List.getElem?_eq_getElem (by omega)]
    exact congrArg some (h j _ _ hj (List.getElem?_eq_getElem hj) (List.getElem?_eq_getElem (by omega)))
  · rw [List.getElem?_eq_none (by omega), List.getElem?_eq_none (by omega)]
theorem ne_at {a b : List Tree} {j : Nat} {x y : Tree} (h1 : a[j]? = some x) (h2 : b[j]? = some y) (h : x ≠ y) : a ≠ b := fun e => by
  subst e; rw [h1] at h2; exact h (Option.some.inj h2)
theorem upto_succ {a b : List Tree} {i : Nat} {x y : Tree} (hx : a[i]? = some x) (hy : b[i]? = some y) (e : x = y) (h : ∀ j, j < i → a[j]? = b[j]?) : ∀ j, j < i + 1 → a[j]? = b[j]? := fun j hj => by
  by_cases h1 : j < i
  · exact h j h1
  · obtain rfl : j = i := by omega
    rw [hx, hy, e]
theorem eq_upto {a b : List Tree} (hl : a.length = b.length) (h : ∀ j, j < a.length → a[j]? = b[j]?) : a = b := List.ext_getElem? fun j => by
  by_cases hj : j < a.length
  · exact h j hj
  · rw [List.getElem?_eq_none (by omega), List.getElem?_eq_none (by omega)]

theorem at_eq {n n2 : List UInt8} {r r2 : List Tree} (h : n = n2) (e : Tree.agg r = .agg r2) : Tree.agg (.str n :: r) = .agg (.str n2 :: r2) := by
  subst h; cases e; rfl
theorem at_ne1 {n n2 : List UInt8} {r r2 : List Tree} (h : n ≠ n2) : Tree.agg (.str n :: r) ≠ .agg (.str n2 :: r2) := fun e => h (by injection e with e; injection e with e; injection e)
theorem at_ne2 {n n2 : List UInt8} {r r2 : List Tree} (h : Tree.agg r ≠ .agg r2) : Tree.agg (.str n :: r) ≠ .agg (.str n2 :: r2) := fun e => h (by injection e with e; injection e with _ e; rw [e])
theorem sl_ne {a b : List Tree} (h : a ≠ b) : Tree.sl a ≠ .sl b := fun e => h (Tree.sl.inj e)
theorem len_ne {a b : List Tree} (h : ((a.length : Nat) : Int) ≠ ((b.length : Nat) : Int)) : a ≠ b := fun e => h (by rw [e])

theorem sameAttrs_at (m : Int) (D : Tree → Prop) (hform : Form D) (hS : ∀ x y, D x ∧ D y → R2 (cf m) 8 x y (.bool (same x y))) (a b : List Tree) (la : a.length ≤ 4194304) (lb : b.length ≤ 4194304) (ha : (Ats D a)) (hb : (Ats D b)) : R2 (cf m) 21 (.sl a) (.sl b) (.bool (same (.sl a) (.sl b))) := by
  obtain ⟨ev, hev, e_st⟩ : ∃ ev, CallOk (cf m) ev ∧ Has ev 8 (pc2 (fun x y => D x ∧ D y) (fun x y => .bool (same x y))) := ⟨_, (oneEv_ok (pc2_ok (fun x y h => hS x y h)) noEv_ok), has_here⟩
  refine CallRel.of_ex ?_
  refine AX.start 42 2 Tryz.func21 rfl (by decide) rfl rfl (by decide) ?_
  refine AX.seq ?_
  refine AX.region ?_
  refine AXo.go (f := 0) hev (d_assign rfl) ?_
  refine AXo.nil ?_
  refine AX.seq ?_
  refine AX.seq ?_
  refine AX.region ?_
  refine AXo.go (f := 0) hev (d_move rfl) ?_
  refine AXo.go (f := 0) hev (d_lenT rfl ty31 rfl) ?_
  refine AXo.go (f := 0) hev (d_move rfl) ?_
  refine AXo.go (f := 0) hev (d_lenT rfl ty31 rfl) ?_
  refine AXo.go (f := 0) hev (d_neI rfl rfl) ?_
  refine AXo.nil ?_
  refine AX.cond rfl (fun hc1 => ?_) (fun hc1 => ?_)
  · skip
    have dhc1 := ne_of_bne_true hc1
    refine AX.seq ?_
    refine AX.region ?_
    refine AXo.go (f := 0) hev (d_assign rfl) ?_
    refine AXo.nil ?_
    refine AX.ret ?_
    refine AX.thenRet ?_
    exact ⟨(), .inl (by rw [show same (.sl a) (.sl b) = false from same_f (sl_ne (len_ne (ne_of_bne_true hc1)))]; rfl)⟩
  · skip
    have dhc1 := eq_of_bne_false hc1
    refine AX.skip ?_
    refine AX.seq ?_
    refine AX.seq ?_
    refine AX.region ?_
    refine AXo.go (f := 0) hev (d_move rfl) ?_
    refine AXo.go (f := 0) hev (d_lenT rfl ty31 rfl) ?_
    refine AXo.go (f := 0) hev (d_move rfl) ?_
    refine AXo.nil ?_
    refine AX.block ?_
    refine AX.loop (α := Nat) (fun x => ⟨frm 42 [(0, .t (.sl a)), (1, .t (.sl b)), (12, .t (.int .i64 ((a.length : Nat) : Int))), (13, .t (.int .i64 ((x : Nat) : Int)))], [], 0⟩) (fun x => (x ≤ a.length) ∧ (∀ j, j < x → a[j]? = b[j]?)) (fun x => a.length - x) 0 (Re.sq [] ⟨rfl, rfl, rfl, rfl, trivial⟩ trivial (by decide) rfl rfl (by decide)) ⟨Nat.zero_le _, fun j hj => absurd hj (Nat.not_lt_zero j)⟩ (fun x hok => ?_)
    obtain ⟨i_2, hx_⟩ : ∃ y, y = x := ⟨x, rfl⟩
    subst hx_
    replace hok : (i_2 ≤ a.length) ∧ (∀ j, j < i_2 → a[j]? = b[j]?) := hok
    obtain ⟨hok_2_0, hok_2_1⟩ := hok
    show AX _ _ ⟨frm 42 [(0, .t (.sl a)), (1, .t (.sl b)), (12, .t (.int .i64 ((a.length : Nat) : Int))), (13, .t (.int .i64 ((i_2 : Nat) : Int)))], [], 0⟩ _
    refine AX.seq ?_
    refine AX.region ?_
    refine AXo.go (f := 0) hev (d_ltI rfl rfl) ?_
    refine AXo.nil ?_
    refine AX.seq ?_
    refine AX.cond rfl (fun hc3 => ?_) (fun hc3 => ?_)
    · skip
      have dhc3 := of_decide_eq_true hc3
      refine AX.skip ?_
      refine AX.seq ?_
      refine AX.block ?_
      refine AX.seq ?_
      refine AX.region ?_
      refine AXo.go (f := 0) hev (d_move rfl) ?_
      refine AXo.go (f := 0) hev (d_assign rfl) ?_
      refine AXo.nil ?_
      refine AX.seq ?_
      refine AX.draw (f := 0) orders hev ?_
      refine AXd.go rfl (d_move rfl) ?_
      refine AXd.go rfl (d_move rfl) ?_
      obtain ⟨e4, he4⟩ : ∃ e, a[i_2]? = some e := ⟨a[i_2]'(by first | omega | (simp; omega)), List.getElem?_eq_getElem _⟩
      obtain ⟨nm_5, r_5, rfl, hd_5⟩ := ha e4 (List.mem_of_getElem? he4)
      obtain ⟨k_5, s_5, os_5, bs_5, er_5, lo_5, lb_5⟩ := hform _ hd_5
      obtain rfl : r_5 = [.int .u8 k_5, .str s_5, .sl os_5, .sl bs_5] := Tree.agg.inj er_5
      refine AXd.go rfl (d_indexT (m := i_2) rfl rfl ty31 rfl ty45 he4 rfl) ?_
      refine AXd.go rfl (d_fieldAddr rfl fo45_0 rfl) ?_
      refine AXd.go rfl (d_loadT rfl (ld ty9 rfl rfl)) ?_
      refine AXd.go rfl (d_move rfl) ?_
      refine AXd.go rfl (d_move rfl) ?_
      obtain ⟨e6, he6⟩ : ∃ e, b[i_2]? = some e := ⟨b[i_2]'(by first | omega | (simp; omega)), List.getElem?_eq_getElem _⟩
      obtain ⟨nm_7, r_7, rfl, hd_7⟩ := hb e6 (List.mem_of_getElem? he6)
      obtain ⟨k_7, s_7, os_7, bs_7, er_7, lo_7, lb_7⟩ := hform _ hd_7
      obtain rfl : r_7 = [.int .u8 k_7, .str s_7, .sl os_7, .sl bs_7] := Tree.agg.inj er_7
      refine AXd.go rfl (d_indexT (m := i_2) rfl rfl ty31 rfl ty45 he6 rfl) ?_
      refine AXd.go rfl (d_fieldAddr rfl fo45_0 rfl) ?_
      refine AXd.go rfl (d_loadT rfl (ld ty9 rfl rfl)) ?_
      refine AXd.go rfl (d_neS rfl rfl) ?_
      refine AXd.go rfl (d_move rfl) ?_
      refine AXd.split 27 rfl (fun hg8 => ?_) (fun hg8 => ?_)
      · skip
        have dhg8 := ne_of_beq_false (of_not_t hg8)
        refine AXd.no rfl rfl rfl (beqTF hg8) ?_
        refine AXd.no rfl rfl rfl (beqTF hg8) ?_
        refine AXd.no rfl rfl rfl (beqTF hg8) ?_
        refine AXd.no rfl rfl rfl (beqTF hg8) ?_
        refine AXd.no rfl rfl rfl (beqTF hg8) ?_
        refine AXd.no rfl rfl rfl (beqTF hg8) ?_
        refine AXd.no rfl rfl rfl (beqTF hg8) ?_
        refine AXd.no rfl rfl rfl (beqTF hg8) ?_
        refine AXd.no rfl rfl rfl (beqTF hg8) ?_
        refine AXd.no rfl rfl rfl (beqTF hg8) ?_
        refine AXd.no rfl rfl rfl (beqTF hg8) ?_
        refine AXd.no rfl rfl rfl (beqTF hg8) ?_
        refine AXd.go rfl (d_pickT rfl hg8 rfl rfl) ?_
        refine AXd.nil (ex_and2 rfl rfl ?_)
        refine AX.condT rfl rfl ?_
        refine AX.seq ?_
        refine AX.region ?_
        refine AXo.go (f := 0) hev (d_assign rfl) ?_
        refine AXo.nil ?_
        refine AX.ret ?_
        refine AX.outRet ?_
        refine AX.thenRet ?_
        refine AX.leave (e := .ret) (by simp) ?_
        refine AX.outRet ?_
        refine AX.thenRet ?_
        exact ⟨(), .inl (by rw [show same (.sl a) (.sl b) = false from same_f (sl_ne (ne_at he4 he6 (at_ne1 (ne_of_beq_false (of_not_t hg8)))))]; rfl)⟩
      · skip
        have dhg8 := eq_of_beq (of_not_f hg8)
        refine AXd.yes rfl rfl rfl (beqFF hg8) rfl (d_move rfl) ?_
        refine AXd.yes rfl rfl rfl (beqFF hg8) rfl (d_move rfl) ?_
        refine AXd.yes rfl rfl rfl (beqFF hg8) rfl (d_indexT (m := i_2) rfl rfl ty31 rfl ty45 he4 rfl) ?_
        refine AXd.yes rfl rfl rfl (beqFF hg8) rfl (d_fieldAddr rfl fo45_1 rfl) ?_
        refine AXd.yes rfl rfl rfl (beqFF hg8) rfl (d_load rfl (ld ty38 rfl rfl)) ?_
        refine AXd.yes rfl rfl rfl (beqFF hg8) rfl (d_move rfl) ?_
        refine AXd.yes rfl rfl rfl (beqFF hg8) rfl (d_move rfl) ?_
        refine AXd.yes rfl rfl rfl (beqFF hg8) rfl (d_indexT (m := i_2) rfl rfl ty31 rfl ty45 he6 rfl) ?_
        refine AXd.yes rfl rfl rfl (beqFF hg8) rfl (d_fieldAddr rfl fo45_1 rfl) ?_
        refine AXd.yes rfl rfl rfl (beqFF hg8) rfl (d_load rfl (ld ty38 rfl rfl)) ?_
        refine AXd.yes rfl rfl rfl (beqFF hg8) rfl (d_callT (rh2 rfl rfl) (has2 e_st ⟨hd_5, hd_7⟩)) ?_
        refine AXd.yes rfl rfl rfl (beqFF hg8) rfl (d_not rfl) ?_
        refine AXd.go rfl (d_pickF rfl hg8 rfl rfl) ?_
        refine AXd.nil (ex_and2 rfl rfl ?_)
        refine AX.cond rfl (fun hc9 => ?_) (fun hc9 => ?_)
        · skip
          refine AX.seq ?_
          refine AX.region ?_
          refine AXo.go (f := 0) hev (d_assign rfl) ?_
          refine AXo.nil ?_
          refine AX.ret ?_
          refine AX.outRet ?_
          refine AX.thenRet ?_
          refine AX.leave (e := .ret) (by simp) ?_
          refine AX.outRet ?_
          refine AX.thenRet ?_
          exact ⟨(), .inl (by rw [show same (.sl a) (.sl b) = false from same_f (sl_ne (ne_at he4 he6 (at_ne2 (same_of_f (of_not_t hc9)))))]; rfl)⟩
        · skip
          refine AX.skip ?_
          refine AX.outNormal ?_
          refine AX.region ?_
          refine AXo.go (f := 0) hev (d_add64 rfl rfl (by omega) (by omega)) ?_
          refine AXo.go (f := 0) hev (d_move rfl) ?_
          refine AXo.nil ?_
          exact ⟨.inl ⟨i_2 + 1, ⟨⟨(by show (i_2 + 1) ≤ a.length; first | omega | (simp only [List.length_append, List.length_cons, List.length_nil, List.length_singleton] at *; omega) | (simp; done) | (simp; omega)), (upto_succ he4 he6 (at_eq (eq_of_beq (of_not_f hg8)) (same_of_t (of_not_f hc9))) hok_2_1)⟩, (by show (a.length - (i_2 + 1)) < (a.length - i_2); omega)⟩⟩, rfl, Re.sq [] ⟨rfl, rfl, rfl, rfl, trivial⟩ trivial (by decide) rfl rfl (by decide)⟩
    · skip
      have dhc3 := of_decide_eq_false hc3
      refine AX.exit ?_
      refine AX.thenExit ?_
      refine AX.leave (e := .exit 0) (by simp) ?_
      refine AX.outHere ?_
      refine AX.seq ?_
      refine AX.region ?_
      refine AXo.go (f := 0) hev (d_assign rfl) ?_
      refine AXo.nil ?_
      refine AX.ret ?_
      have hie : i_2 = a.length := by omega
      skip
      exact ⟨(), .inl (by rw [show same (.sl a) (.sl b) = true from same_t (congrArg Tree.sl (eq_upto (by have := eq_of_bne_false hc1; omega) (fun j hj => hok_2_1 j (by omega))))]; rfl)⟩

def AtsN (D : Tree → Prop) (x : Tree) : Prop := ∃ l, x = .sl l ∧ l.length ≤ 4194304 ∧ Ats D l
theorem mk_ne {k k2 : Int} {s s2 : List UInt8} {os os2 bs bs2 : List Tree} (h : k ≠ k2 ∨ s ≠ s2 ∨ os ≠ os2 ∨ Tree.sl bs ≠ .sl bs2) : mkTy k s os bs ≠ mkTy k2 s2 os2 bs2 := fun e => by
  simp only [mkTy, Tree.agg.injEq, List.cons.injEq, Tree.int.injEq, Tree.str.injEq, Tree.sl.injEq, true_and, and_true] at e
  obtain ⟨rfl, rfl, rfl, rfl⟩ := e
  simp at h
theorem mk_eq {k k2 : Int} {s s2 : List UInt8} {os os2 bs bs2 : List Tree} (h1 : k = k2) (h2 : s = s2) (h3 : os = os2) (h4 : Tree.sl bs = .sl bs2) : mkTy k s os bs = mkTy k2 s2 os2 bs2 := by
  cases h4; subst h1; subst h2; subst h3; rfl

theorem sameType_at (m : Int) (D : Tree → Prop) (hform : Form D) (hS : ∀ x y, D x ∧ D y → R2 (cf m) 8 x y (.bool (same x y))) (hA : ∀ x y, AtsN D x ∧ AtsN D y → R2 (cf m) 21 x y (.bool (same x y))) (k : Int) (s : List UInt8) (os bs : List Tree) (k2 : Int) (s2 : List UInt8) (os2 bs2 : List Tree) (lo : os.length ≤ 4194304) (lo2 : os2.length ≤ 4194304) (ho : ∀ o ∈ os, D o) (ho2 : ∀ o ∈ os2, D o) (hb : AtsN D (.sl bs)) (hb2 : AtsN D (.sl bs2)) : R2 (cf m) 8 (mkTy k s os bs) (mkTy k2 s2 os2 bs2) (.bool (same (mkTy k s os bs) (mkTy k2 s2 os2 bs2))) := by
  obtain ⟨ev, hev, e_st, e_sa⟩ : ∃ ev, CallOk (cf m) ev ∧ Has ev 8 (pc2 (fun x y => D x ∧ D y) (fun x y => .bool (same x y))) ∧ Has ev 21 (pc2 (fun x y => AtsN D x ∧ AtsN D y) (fun x y => .bool (same x y))) := ⟨_, (oneEv_ok (pc2_ok (fun x y h => hS x y h)) (oneEv_ok (pc2_ok (fun x y h => hA x y h)) noEv_ok)), has_here, (has_there rfl has_here)⟩
  refine CallRel.of_ex ?_
  refine AX.start 51 2 Tryz.func8 rfl (by decide) rfl rfl (by decide) ?_
  refine AX.seq ?_
  refine AX.region ?_
  refine AXo.go (f := 0) hev (d_box rfl rfl) ?_
  refine AXo.go (f := 0) hev (d_box rfl rfl) ?_
  refine AXo.go (f := 0) hev (d_assign rfl) ?_
  refine AXo.nil ?_
  refine AX.seq ?_
  refine AX.seq ?_
  refine AX.region ?_
  refine AXo.go (f := 0) hev (d_fieldAddr rfl fo38_0 rfl) ?_
  refine AXo.go (f := 0) hev (d_loadT rfl (ld ty35 rfl rfl)) ?_
  refine AXo.go (f := 0) hev (d_fieldAddr rfl fo38_0 rfl) ?_
  refine AXo.go (f := 0) hev (d_loadT rfl (ld ty35 rfl rfl)) ?_
  refine AXo.go (f := 0) hev (d_neI rfl rfl) ?_
  refine AXo.go (f := 0) hev (d_move rfl) ?_
  refine AXo.split 11 rfl (fun hg1 => ?_) (fun hg1 => ?_)
  · skip
    have dhg1 := ne_of_bne_true hg1
    refine AXo.no rfl rfl rfl (beqTF hg1) ?_
    refine AXo.no rfl rfl rfl (beqTF hg1) ?_
    refine AXo.no rfl rfl rfl (beqTF hg1) ?_
    refine AXo.no rfl rfl rfl (beqTF hg1) ?_
    refine AXo.no rfl rfl rfl (beqTF hg1) ?_
    refine AXo.go (f := 0) hev (d_pickT rfl hg1 rfl rfl) ?_
    refine AXo.go (f := 0) hev (d_move rfl) ?_
    refine AXo.no rfl rfl rfl (beqTF rfl) ?_
    refine AXo.no rfl rfl rfl (beqTF rfl) ?_
    refine AXo.no rfl rfl rfl (beqTF rfl) ?_
    refine AXo.no rfl rfl rfl (beqTF rfl) ?_
    refine AXo.no rfl rfl rfl (beqTF rfl) ?_
    refine AXo.no rfl rfl rfl (beqTF rfl) ?_
    refine AXo.no rfl rfl rfl (beqTF rfl) ?_
    refine AXo.go (f := 0) hev (d_pickT rfl rfl rfl rfl) ?_
    refine AXo.nil ?_
    refine AX.condT rfl rfl ?_
    refine AX.seq ?_
    refine AX.region ?_
    refine AXo.go (f := 0) hev (d_assign rfl) ?_
    refine AXo.nil ?_
    refine AX.ret ?_
    refine AX.thenRet ?_
    exact ⟨(), .inl (by rw [show same (mkTy k s os bs) (mkTy k2 s2 os2 bs2) = false from same_f (mk_ne (.inl (ne_of_bne_true hg1)))]; rfl)⟩
  · skip
    have dhg1 := eq_of_bne_false hg1
    refine AXo.yes (f := 0) hev rfl rfl rfl (beqFF hg1) (d_fieldAddr rfl fo38_1 rfl) ?_
    refine AXo.yes (f := 0) hev rfl rfl rfl (beqFF hg1) (d_loadT rfl (ld ty9 rfl rfl)) ?_
    refine AXo.yes (f := 0) hev rfl rfl rfl (beqFF hg1) (d_fieldAddr rfl fo38_1 rfl) ?_
    refine AXo.yes (f := 0) hev rfl rfl rfl (beqFF hg1) (d_loadT rfl (ld ty9 rfl rfl)) ?_
    refine AXo.yes (f := 0) hev rfl rfl rfl (beqFF hg1) (d_neS rfl rfl) ?_
    refine AXo.go (f := 0) hev (d_pickF rfl hg1 rfl rfl) ?_
    refine AXo.go (f := 0) hev (d_move rfl) ?_
    refine AXo.split 18 rfl (fun hg2 => ?_) (fun hg2 => ?_)
    · skip
      have dhg2 := ne_of_beq_false (of_not_t hg2)
      refine AXo.no rfl rfl rfl (beqTF hg2) ?_
      refine AXo.no rfl rfl rfl (beqTF hg2) ?_
      refine AXo.no rfl rfl rfl (beqTF hg2) ?_
      refine AXo.no rfl rfl rfl (beqTF hg2) ?_
      refine AXo.no rfl rfl rfl (beqTF hg2) ?_
      refine AXo.no rfl rfl rfl (beqTF hg2) ?_
      refine AXo.no rfl rfl rfl (beqTF hg2) ?_
      refine AXo.go (f := 0) hev (d_pickT rfl hg2 rfl rfl) ?_
      refine AXo.nil ?_
      refine AX.condT rfl rfl ?_
      refine AX.seq ?_
      refine AX.region ?_
      refine AXo.go (f := 0) hev (d_assign rfl) ?_
      refine AXo.nil ?_
      refine AX.ret ?_
      refine AX.thenRet ?_
      exact ⟨(), .inl (by rw [show same (mkTy k s os bs) (mkTy k2 s2 os2 bs2) = false from same_f (mk_ne (.inr (.inl (ne_of_beq_false (of_not_t hg2)))))]; rfl)⟩
    · skip
      have dhg2 := eq_of_beq (of_not_f hg2)
      refine AXo.yes (f := 0) hev rfl rfl rfl (beqFF hg2) (d_fieldAddr rfl fo38_2 rfl) ?_
      refine AXo.yes (f := 0) hev rfl rfl rfl (beqFF hg2) (d_load rfl (ld ty36 rfl rfl)) ?_
      refine AXo.yes (f := 0) hev rfl rfl rfl (beqFF hg2) (d_lenT rfl ty36 rfl) ?_
      refine AXo.yes (f := 0) hev rfl rfl rfl (beqFF hg2) (d_fieldAddr rfl fo38_2 rfl) ?_
      refine AXo.yes (f := 0) hev rfl rfl rfl (beqFF hg2) (d_load rfl (ld ty36 rfl rfl)) ?_
      refine AXo.yes (f := 0) hev rfl rfl rfl (beqFF hg2) (d_lenT rfl ty36 rfl) ?_
      refine AXo.yes (f := 0) hev rfl rfl rfl (beqFF hg2) (d_neI rfl rfl) ?_
      refine AXo.go (f := 0) hev (d_pickF rfl hg2 rfl rfl) ?_
      refine AXo.nil ?_
      refine AX.cond rfl (fun hc3 => ?_) (fun hc3 => ?_)
      · skip
        have dhc3 := ne_of_bne_true hc3
        refine AX.seq ?_
        refine AX.region ?_
        refine AXo.go (f := 0) hev (d_assign rfl) ?_
        refine AXo.nil ?_
        refine AX.ret ?_
        refine AX.thenRet ?_
        exact ⟨(), .inl (by rw [show same (mkTy k s os bs) (mkTy k2 s2 os2 bs2) = false from same_f (mk_ne (.inr (.inr (.inl (len_ne (ne_of_bne_true hc3))))))]; rfl)⟩
      · skip
        have dhc3 := eq_of_bne_false hc3
        refine AX.skip ?_
        refine AX.seq ?_
        refine AX.seq ?_
        refine AX.region ?_
        refine AXo.go (f := 0) hev (d_fieldAddr rfl fo38_2 rfl) ?_
        refine AXo.go (f := 0) hev (d_load rfl (ld ty36 rfl rfl)) ?_
        refine AXo.go (f := 0) hev (d_lenT rfl ty36 rfl) ?_
        refine AXo.go (f := 0) hev (d_move rfl) ?_
        refine AXo.nil ?_
        refine AX.block ?_
        refine AX.loop (α := Nat) (fun x => ⟨frm 51 [(2, .ptr (.loc [0]) 0), (3, .ptr (.loc [1]) 0), (29, .t (.int .i64 ((os.length : Nat) : Int))), (30, .t (.int .i64 ((x : Nat) : Int)))], [(.loc [0], .cells 38 [.t (.int .u8 k), .t (.str s), .t (.sl os), .t (.sl bs)]), (.loc [1], .cells 38 [.t (.int .u8 k2), .t (.str s2), .t (.sl os2), .t (.sl bs2)])], 2⟩) (fun x => (x ≤ os.length) ∧ (∀ j, j < x → os[j]? = os2[j]?)) (fun x => os.length - x) 0 (Re.sq [.loc [0], .loc [1]] ⟨rfl, rfl, rfl, rfl, trivial⟩ ⟨⟨.loc [0], _, rfl, rfl, .inl rfl⟩, ⟨.loc [1], _, rfl, rfl, .inl rfl⟩, trivial⟩ (by decide) rfl rfl (by decide)) ⟨Nat.zero_le _, fun j hj => absurd hj (Nat.not_lt_zero j)⟩ (fun x hok => ?_)
        obtain ⟨i_4, hx_⟩ : ∃ y, y = x := ⟨x, rfl⟩
        subst hx_
        replace hok : (i_4 ≤ os.length) ∧ (∀ j, j < i_4 → os[j]? = os2[j]?) := hok
        obtain ⟨hok_4_0, hok_4_1⟩ := hok
        show AX _ _ ⟨frm 51 [(2, .ptr (.loc [0]) 0), (3, .ptr (.loc [1]) 0), (29, .t (.int .i64 ((os.length : Nat) : Int))), (30, .t (.int .i64 ((i_4 : Nat) : Int)))], [(.loc [0], .cells 38 [.t (.int .u8 k), .t (.str s), .t (.sl os), .t (.sl bs)]), (.loc [1], .cells 38 [.t (.int .u8 k2), .t (.str s2), .t (.sl os2), .t (.sl bs2)])], 2⟩ _
        refine AX.seq ?_
        refine AX.region ?_
        refine AXo.go (f := 0) hev (d_ltI rfl rfl) ?_
        refine AXo.nil ?_
        refine AX.seq ?_
        refine AX.cond rfl (fun hc5 => ?_) (fun hc5 => ?_)
        · skip
          have dhc5 := of_decide_eq_true hc5
          refine AX.skip ?_
          refine AX.seq ?_
          refine AX.block ?_
          refine AX.seq ?_
          refine AX.region ?_
          refine AXo.go (f := 0) hev (d_move rfl) ?_
          refine AXo.go (f := 0) hev (d_assign rfl) ?_
          refine AXo.nil ?_
          refine AX.seq ?_
          refine AX.draw (f := 0) orders hev ?_
          refine AXd.go rfl (d_fieldAddr rfl fo38_2 rfl) ?_
          refine AXd.go rfl (d_load rfl (ld ty36 rfl rfl)) ?_
          refine AXd.go rfl (d_move rfl) ?_
          obtain ⟨e6, he6⟩ : ∃ e, os[i_4]? = some e := ⟨os[i_4]'(by first | omega | (simp; omega)), List.getElem?_eq_getElem _⟩
          have hd_7 := ho e6 (List.mem_of_getElem? he6)
          obtain ⟨k_7, s_7, os_7, bs_7, rfl, lo_7, lb_7⟩ := hform _ (hd_7)
          refine AXd.go rfl (d_indexT (m := i_4) rfl rfl ty36 rfl ty38 he6 rfl) ?_
          refine AXd.go rfl (d_load rfl (ld ty38 rfl rfl)) ?_
          refine AXd.go rfl (d_fieldAddr rfl fo38_2 rfl) ?_
          refine AXd.go rfl (d_load rfl (ld ty36 rfl rfl)) ?_
          refine AXd.go rfl (d_move rfl) ?_
          obtain ⟨e8, he8⟩ : ∃ e, os2[i_4]? = some e := ⟨os2[i_4]'(by first | omega | (simp; omega)), List.getElem?_eq_getElem _⟩
          have hd_9 := ho2 e8 (List.mem_of_getElem? he8)
          obtain ⟨k_9, s_9, os_9, bs_9, rfl, lo_9, lb_9⟩ := hform _ (hd_9)
          refine AXd.go rfl (d_indexT (m := i_4) rfl rfl ty36 rfl ty38 he8 rfl) ?_
          refine AXd.go rfl (d_load rfl (ld ty38 rfl rfl)) ?_
          refine AXd.go rfl (d_callT (rh2 rfl rfl) (has2 e_st ⟨hd_7, hd_9⟩)) ?_
          refine AXd.go rfl (d_not rfl) ?_
          refine AXd.nil (ex_and2 rfl rfl ?_)
          refine AX.cond rfl (fun hc10 => ?_) (fun hc10 => ?_)
          · skip
            refine AX.seq ?_
            refine AX.region ?_
            refine AXo.go (f := 0) hev (d_assign rfl) ?_
            refine AXo.nil ?_
            refine AX.ret ?_
            refine AX.outRet ?_
            refine AX.thenRet ?_
            refine AX.leave (e := .ret) (by simp) ?_
            refine AX.outRet ?_
            refine AX.thenRet ?_
            exact ⟨(), .inl (by rw [show same (mkTy k s os bs) (mkTy k2 s2 os2 bs2) = false from same_f (mk_ne (.inr (.inr (.inl (ne_at he6 he8 (same_of_f (of_not_t hc10)))))))]; rfl)⟩
          · skip
            refine AX.skip ?_
            refine AX.outNormal ?_
            refine AX.region ?_
            refine AXo.go (f := 0) hev (d_add64 rfl rfl (by omega) (by omega)) ?_
            refine AXo.go (f := 0) hev (d_move rfl) ?_
            refine AXo.nil ?_
            exact ⟨.inl ⟨i_4 + 1, ⟨⟨(by show (i_4 + 1) ≤ os.length; first | omega | (simp only [List.length_append, List.length_cons, List.length_nil, List.length_singleton] at *; omega) | (simp; done) | (simp; omega)), (upto_succ he6 he8 (same_of_t (of_not_f hc10)) hok_4_1)⟩, (by show (os.length - (i_4 + 1)) < (os.length - i_4); omega)⟩⟩, rfl, Re.sq [.loc [0], .loc [1]] ⟨rfl, rfl, rfl, rfl, trivial⟩ ⟨⟨.loc [0], _, rfl, rfl, .inl rfl⟩, ⟨.loc [1], _, rfl, rfl, .inl rfl⟩, trivial⟩ (by decide) rfl rfl (by decide)⟩
        · skip
          have dhc5 := of_decide_eq_false hc5
          refine AX.exit ?_
          refine AX.thenExit ?_
          refine AX.leave (e := .exit 0) (by simp) ?_
          refine AX.outHere ?_
          refine AX.seq ?_
          refine AX.region ?_
          refine AXo.go (f := 0) hev (d_fieldAddr rfl fo38_3 rfl) ?_
          refine AXo.go (f := 0) hev (d_load rfl (ld ty31 rfl rfl)) ?_
          refine AXo.go (f := 0) hev (d_fieldAddr rfl fo38_3 rfl) ?_
          refine AXo.go (f := 0) hev (d_load rfl (ld ty31 rfl rfl)) ?_
          refine AXo.go (f := 0) hev (d_callT (rh2 rfl rfl) (has2 e_sa ⟨hb, hb2⟩)) ?_
          refine AXo.go (f := 0) hev (d_assign rfl) ?_
          refine AXo.nil ?_
          refine AX.ret ?_
          have he : os = os2 := eq_upto (by have := eq_of_bne_false hc3; omega) (fun j hj => hok_4_1 j (by omega))
          have hw : same (mkTy k s os bs) (mkTy k2 s2 os2 bs2) = same (.sl bs) (.sl bs2) := by
            cases hq : same (.sl bs) (.sl bs2) with
            | true => exact same_t (mk_eq (eq_of_bne_false hg1) (eq_of_beq (of_not_f hg2)) he (same_of_t hq))
            | false => exact same_f (mk_ne (.inr (.inr (.inr (same_of_f hq)))))
          exact ⟨(), .inl (by rw [hw]; rfl)⟩

theorem Dp.formD (n : Nat) : Form (Dp n) := fun x h => h.form
/-- what a type is made of -/
def Step (D : Tree → Prop) (x : Tree) : Prop := ∃ k s os bs, x = mkTy k s os bs ∧ os.length ≤ 4194304 ∧ bs.length ≤ 4194304 ∧ (∀ o ∈ os, D o) ∧ Ats D bs
theorem same_step (m : Int) (D : Tree → Prop) (hform : Form D) (hS : ∀ x y, D x ∧ D y → R2 (cf m) 8 x y (.bool (same x y))) (x y : Tree) (hx : Step D x) (hy : Step D y) : R2 (cf m) 8 x y (.bool (same x y)) := by
  obtain ⟨k, s, os, bs, rfl, l1, l2, h1, h2⟩ := hx
  obtain ⟨k2, s2, os2, bs2, rfl, l3, l4, h3, h4⟩ := hy
  exact sameType_at m D hform hS (fun x y ⟨⟨l, e, hl, h⟩, ⟨l2, e2, hl2, h2⟩⟩ => by subst e; subst e2; exact sameAttrs_at m D hform hS l l2 hl hl2 h h2) k s os bs k2 s2 os2 bs2 l1 l3 h1 h3 ⟨_, rfl, l2, h2⟩ ⟨_, rfl, l4, h4⟩
theorem step0 : Step (fun _ => False) ty0 := ⟨0, [], [], [], rfl, by simp, by simp, by simp, fun e h => by simp at h⟩
theorem form0 : Form (fun _ => False) := fun x h => h.elim
theorem same_ty (m : Int) : ∀ n x y, Dp n x ∧ Dp n y → R2 (cf m) 8 x y (.bool (same x y))
  | 0, x, y, ⟨hx, hy⟩ => by
    subst hx; subst hy
    exact same_step m _ form0 (fun x y h => h.1.elim) ty0 ty0 step0 step0
  | n + 1, x, y, ⟨hx, hy⟩ => same_step m (Dp n) (Dp.formD n) (same_ty m n) x y hx hy

end
end Go.Proofs.YtijfhoelihclbaaGreatDoor.w

namespace Go.Proofs.YtijfhoelihclbaaGreatDoor.w
open Go Go.Abs Go.Abs.Ty
set_option linter.unusedVariables false
set_option maxRecDepth 100000
set_option maxHeartbeats 2000000
noncomputable section


theorem cl38_nil {m : Int} {ev : CallF} (hev : CallOk (cf m) ev) : CallRel (cf m) 64 [.t (.sl [])] [] (.ret (.t (.sl [])) [] []) := by
  refine fn_start2 8 1 Tryz.func64 rfl (by decide) rfl rfl (by decide) ?_
  refine AW.seq ?_
  refine AW.region ?_
  refine AWo.go (f := 0) hev (by first | exact d_assignT rfl | exact d_assign rfl) ?_
  refine AWo.nil ?_
  refine AW.seq ?_
  refine AW.seq ?_
  refine AW.region ?_
  refine AWo.go (f := 0) hev (by first | exact d_moveT rfl | exact d_move rfl) ?_
  refine AWo.nilB rfl rfl ty36 rfl (fun b hb => ?_)
  refine AWo.nil ?_
  refine AW.cond rfl (fun h4 => ?_) (fun h4 => ?_)
  · skip
    refine AW.seq ?_
    refine AW.region ?_
    refine AWo.go (f := 0) hev (by first | exact d_assignT rfl | exact d_assign rfl) ?_
    refine AWo.nil ?_
    refine AW.ret ?_
    exact .inl rfl
  · skip
    refine AW.skip ?_
    refine AW.seq ?_
    refine AW.region ?_
    refine AWo.go (f := 0) hev (d_lit0 rfl ty36 rfl ty38 rfl rfl) ?_
    refine AWo.go (f := 0) hev (by first | exact d_moveT rfl | exact d_move rfl) ?_
    refine AWo.go (f := 0) hev (d_app0 app36 rfl rfl (.inl (.inl rfl)) (.inr (.inr ⟨_, rfl⟩))) ?_
    refine AWo.go (f := 0) hev (by first | exact d_assignT rfl | exact d_assign rfl) ?_
    refine AWo.nil ?_
    refine AW.ret ?_
    exact .inl rfl

theorem cl38_row {m : Int} {ev : CallF} (hev : CallOk (cf m) ev) (es : List Tree) (hne : es ≠ []) (hu : Uni true 4 es) (hl : es.length ≤ 4194304) :
    CallRel (cf m) 64 [.t (.sl es)] [] (.ret (.ref (.loc [5]) 0 es.length) [] [(.loc [5], .arr (38, true) 4 false ((flat es).map .t))]) := by
  refine fn_start2 8 1 Tryz.func64 rfl (by decide) rfl rfl (by decide) ?_
  refine AW.seq ?_
  refine AW.region ?_
  refine AWo.go (f := 0) hev (by first | exact d_assignT rfl | exact d_assign rfl) ?_
  refine AWo.nil ?_
  refine AW.seq ?_
  refine AW.seq ?_
  refine AW.region ?_
  refine AWo.go (f := 0) hev (by first | exact d_moveT rfl | exact d_move rfl) ?_
  refine AWo.nilB rfl rfl ty36 rfl (fun b hb => ?_)
  have hb := hb hne
  subst hb
  refine AWo.nil ?_
  refine AW.cond rfl (fun h => absurd h (by decide)) (fun h => ?_)
  refine AW.skip ?_
  refine AW.seq ?_
  refine AW.region ?_
  refine AWo.go (f := 0) hev (d_lit0 rfl ty36 rfl ty38 rfl rfl) ?_
  refine AWo.go (f := 0) hev (by first | exact d_moveT rfl | exact d_move rfl) ?_
  refine AWo.go (f := 0) hev (d_appG app36 rfl rfl (.inl rfl) hu hne (by show es.length * 72 ≤ 70368744177664; omega)) ?_
  refine AWo.go (f := 0) hev (by first | exact d_assignT rfl | exact d_assign rfl) ?_
  refine AWo.nil ?_
  refine AW.ret ?_
  exact .inr (fin_ref rfl rfl rfl)

def cloneS38 : List TV → List AObj → Option FRes := fun as' os => match as', os with
  | [.t (.sl [])], [] => some (.ret (.t (.sl [])) [] [])
  | [.t (.sl (e :: es))], [] => @ite _ (Uni true 4 (e :: es) ∧ (e :: es).length ≤ 4194304) (Classical.propDecidable _) (some (.ret (.ref (.loc [5]) 0 (e :: es).length) [] [(.loc [5], .arr (38, true) 4 false ((flat (e :: es)).map .t))])) none
  | _, _ => none
theorem cloneS38_ok (m : Int) : FunOk (cf m) 64 cloneS38 := fun args objs r h => by
  unfold cloneS38 at h
  split at h
  · cases h; exact cl38_nil noEv_ok
  · split at h
    · rename_i hc; cases h; exact cl38_row noEv_ok _ (by simp) hc.1 hc.2
    · cases h
  · cases h
theorem cloneS38_at {ev : CallF} (h : Has ev 64 cloneS38) {es : List Tree} (hne : es ≠ []) (hu : Uni true 4 es) (hl : es.length ≤ 4194304) : ev 64 [.t (.sl es)] [] = some (.ret (.ref (.loc [5]) 0 es.length) [] [(.loc [5], .arr (38, true) 4 false ((flat es).map .t))]) := by
  cases es with
  | nil => exact absurd rfl hne
  | cons e es => exact h _ _ _ (by unfold cloneS38; exact if_pos ⟨hu, hl⟩)

theorem cl45_nil {m : Int} {ev : CallF} (hev : CallOk (cf m) ev) : CallRel (cf m) 65 [.t (.sl [])] [] (.ret (.t (.sl [])) [] []) := by
  refine fn_start2 8 1 Tryz.func65 rfl (by decide) rfl rfl (by decide) ?_
  refine AW.seq ?_
  refine AW.region ?_
  refine AWo.go (f := 0) hev (by first | exact d_assignT rfl | exact d_assign rfl) ?_
  refine AWo.nil ?_
  refine AW.seq ?_
  refine AW.seq ?_
  refine AW.region ?_
  refine AWo.go (f := 0) hev (by first | exact d_moveT rfl | exact d_move rfl) ?_
  refine AWo.nilB rfl rfl ty31 rfl (fun b hb => ?_)
  refine AWo.nil ?_
  refine AW.cond rfl (fun h4 => ?_) (fun h4 => ?_)
  · skip
    refine AW.seq ?_
    refine AW.region ?_
    refine AWo.go (f := 0) hev (by first | exact d_assignT rfl | exact d_assign rfl) ?_
    refine AWo.nil ?_
    refine AW.ret ?_
    exact .inl rfl
  · skip
    refine AW.skip ?_
    refine AW.seq ?_
    refine AW.region ?_
    refine AWo.go (f := 0) hev (d_lit0 rfl ty31 rfl ty45 rfl rfl) ?_
    refine AWo.go (f := 0) hev (by first | exact d_moveT rfl | exact d_move rfl) ?_
    refine AWo.go (f := 0) hev (d_app0 app31 rfl rfl (.inl (.inl rfl)) (.inr (.inr ⟨_, rfl⟩))) ?_
    refine AWo.go (f := 0) hev (by first | exact d_assignT rfl | exact d_assign rfl) ?_
    refine AWo.nil ?_
    refine AW.ret ?_
    exact .inl rfl

theorem cl45_row {m : Int} {ev : CallF} (hev : CallOk (cf m) ev) (es : List Tree) (hne : es ≠ []) (hu : Uni true 5 es) (hl : es.length ≤ 4194304) :
    CallRel (cf m) 65 [.t (.sl es)] [] (.ret (.ref (.loc [5]) 0 es.length) [] [(.loc [5], .arr (45, true) 5 false ((flat es).map .t))]) := by
  refine fn_start2 8 1 Tryz.func65 rfl (by decide) rfl rfl (by decide) ?_
  refine AW.seq ?_
  refine AW.region ?_
  refine AWo.go (f := 0) hev (by first | exact d_assignT rfl | exact d_assign rfl) ?_
  refine AWo.nil ?_
  refine AW.seq ?_
  refine AW.seq ?_
  refine AW.region ?_
  refine AWo.go (f := 0) hev (by first | exact d_moveT rfl | exact d_move rfl) ?_
  refine AWo.nilB rfl rfl ty31 rfl (fun b hb => ?_)
  have hb := hb hne
  subst hb
  refine AWo.nil ?_
  refine AW.cond rfl (fun h => absurd h (by decide)) (fun h => ?_)
  refine AW.skip ?_
  refine AW.seq ?_
  refine AW.region ?_
  refine AWo.go (f := 0) hev (d_lit0 rfl ty31 rfl ty45 rfl rfl) ?_
  refine AWo.go (f := 0) hev (by first | exact d_moveT rfl | exact d_move rfl) ?_
  refine AWo.go (f := 0) hev (d_appG app31 rfl rfl (.inl rfl) hu hne (by show es.length * 88 ≤ 70368744177664; omega)) ?_
  refine AWo.go (f := 0) hev (by first | exact d_assignT rfl | exact d_assign rfl) ?_
  refine AWo.nil ?_
  refine AW.ret ?_
  exact .inr (fin_ref rfl rfl rfl)

def cloneS45 : List TV → List AObj → Option FRes := fun as' os => match as', os with
  | [.t (.sl [])], [] => some (.ret (.t (.sl [])) [] [])
  | [.t (.sl (e :: es))], [] => @ite _ (Uni true 5 (e :: es) ∧ (e :: es).length ≤ 4194304) (Classical.propDecidable _) (some (.ret (.ref (.loc [5]) 0 (e :: es).length) [] [(.loc [5], .arr (45, true) 5 false ((flat (e :: es)).map .t))])) none
  | _, _ => none
theorem cloneS45_ok (m : Int) : FunOk (cf m) 65 cloneS45 := fun args objs r h => by
  unfold cloneS45 at h
  split at h
  · cases h; exact cl45_nil noEv_ok
  · split at h
    · rename_i hc; cases h; exact cl45_row noEv_ok _ (by simp) hc.1 hc.2
    · cases h
  · cases h
theorem cloneS45_at {ev : CallF} (h : Has ev 65 cloneS45) {es : List Tree} (hne : es ≠ []) (hu : Uni true 5 es) (hl : es.length ≤ 4194304) : ev 65 [.t (.sl es)] [] = some (.ret (.ref (.loc [5]) 0 es.length) [] [(.loc [5], .arr (45, true) 5 false ((flat es).map .t))]) := by
  cases es with
  | nil => exact absurd rfl hne
  | cons e es => exact h _ _ _ (by unfold cloneS45; exact if_pos ⟨hu, hl⟩)

theorem own_00 (m : Int) (D : Tree → Prop) (hform : Form D) (hO : ∀ x, D x → R1 (cf m) 20 x x) (k : Int) (s : List UInt8) : R1 (cf m) 20 (mkTy k s [] []) (mkTy k s [] []) := by
  obtain ⟨ev, hev, e_clone38, e_clone45⟩ : ∃ ev, CallOk (cf m) ev ∧ Has ev 64 cloneS38 ∧ Has ev 65 cloneS45 := ⟨_, (oneEv_ok (cloneS38_ok m) (oneEv_ok (cloneS45_ok m) noEv_ok)), has_here, (has_there rfl has_here)⟩
  refine CallRel.of_ex ?_
  refine AX.start 50 1 Tryz.func20 rfl (by decide) rfl rfl (by decide) ?_
  refine AX.seq ?_
  refine AX.region ?_
  refine AXo.go (f := 0) hev (d_box rfl rfl) ?_
  refine AXo.go (f := 0) hev (d_alloc ty38 rfl rfl) ?_
  refine AXo.nil ?_
  refine AX.seq ?_
  refine AX.draw (f := 0) orders hev ?_
  refine AXd.go rfl (d_fieldAddr rfl fo38_2 rfl) ?_
  refine AXd.go rfl (d_load rfl (ld ty36 rfl rfl)) ?_
  refine AXd.go rfl (d_callT (rh1 rfl) (e_clone38 _ _ _ rfl)) ?_
  refine AXd.go rfl (d_fieldAddr rfl fo38_3 rfl) ?_
  refine AXd.go rfl (d_load rfl (ld ty31 rfl rfl)) ?_
  refine AXd.go rfl (d_callT (rh1 rfl) (e_clone45 _ _ _ rfl)) ?_
  refine AXd.go rfl (d_fieldAddr rfl fo38_2 rfl) ?_
  refine AXd.go0 rfl (d_store rfl rfl (stt ty36 rfl rfl)) ?_
  refine AXd.go rfl (d_fieldAddr rfl fo38_3 rfl) ?_
  refine AXd.go0 rfl (d_store rfl rfl (stt ty31 rfl rfl)) ?_
  refine AXd.nil (ex_and2 rfl rfl ?_)
  refine AX.seq ?_
  refine AX.seq ?_
  refine AX.region ?_
  refine AXo.go (f := 0) hev (d_fieldAddr rfl fo38_2 rfl) ?_
  refine AXo.go (f := 0) hev (d_load rfl (ld ty36 rfl rfl)) ?_
  refine AXo.go (f := 0) hev (d_lenT rfl ty36 rfl) ?_
  refine AXo.go (f := 0) hev (d_move rfl) ?_
  refine AXo.nil ?_
  refine AX.block ?_
  refine AX.loop (α := Unit) (fun _ => _) (fun _ => True) (fun _ => 0) () (Re.refl _) trivial (fun _ _ => ?_)
  refine AX.seq ?_
  refine AX.region ?_
  refine AXo.go (f := 0) hev (d_ltI rfl rfl) ?_
  refine AXo.nil ?_
  refine AX.seq ?_
  refine AX.condF rfl rfl ?_
  refine AX.exit ?_
  refine AX.thenExit ?_
  refine AX.leave (e := .exit 0) (by simp) ?_
  refine AX.outHere ?_
  refine AX.seq ?_
  refine AX.seq ?_
  refine AX.region ?_
  refine AXo.go (f := 0) hev (d_fieldAddr rfl fo38_3 rfl) ?_
  refine AXo.go (f := 0) hev (d_load rfl (ld ty31 rfl rfl)) ?_
  refine AXo.go (f := 0) hev (d_lenT rfl ty31 rfl) ?_
  refine AXo.go (f := 0) hev (d_move rfl) ?_
  refine AXo.nil ?_
  refine AX.block ?_
  refine AX.loop (α := Unit) (fun _ => _) (fun _ => True) (fun _ => 0) () (Re.refl _) trivial (fun _ _ => ?_)
  refine AX.seq ?_
  refine AX.region ?_
  refine AXo.go (f := 0) hev (d_ltI rfl rfl) ?_
  refine AXo.nil ?_
  refine AX.seq ?_
  refine AX.condF rfl rfl ?_
  refine AX.exit ?_
  refine AX.thenExit ?_
  refine AX.leave (e := .exit 2) (by simp) ?_
  refine AX.outHere ?_
  refine AX.seq ?_
  refine AX.region ?_
  refine AXo.go (f := 0) hev (d_load rfl (ld ty38 rfl rfl)) ?_
  refine AXo.go0 (f := 0) hev (d_store rfl rfl (stt ty38 rfl rfl)) ?_
  refine AXo.nil ?_
  refine AX.ret ?_
  exact ⟨(), .inl rfl⟩

theorem own_01 (m : Int) (D : Tree → Prop) (hform : Form D) (hO : ∀ x, D x → R1 (cf m) 20 x x) (k : Int) (s : List UInt8) (bs : List Tree) (hne2 : bs ≠ []) (lb : bs.length ≤ 4194304) (hb : Ats D bs) (hu2 : Uni true 5 bs) : R1 (cf m) 20 (mkTy k s [] bs) (mkTy k s [] bs) := by
  obtain ⟨ev, hev, e_clone38, e_clone45, e_own⟩ : ∃ ev, CallOk (cf m) ev ∧ Has ev 64 cloneS38 ∧ Has ev 65 cloneS45 ∧ Has ev 20 (pc1 D (fun x => x)) := ⟨_, (oneEv_ok (cloneS38_ok m) (oneEv_ok (cloneS45_ok m) (oneEv_ok (pc1_ok hO) noEv_ok))), has_here, (has_there rfl has_here), (has_there rfl (has_there rfl has_here))⟩
  refine CallRel.of_ex ?_
  refine AX.start 50 1 Tryz.func20 rfl (by decide) rfl rfl (by decide) ?_
  refine AX.seq ?_
  refine AX.region ?_
  refine AXo.go (f := 0) hev (d_box rfl rfl) ?_
  refine AXo.go (f := 0) hev (d_alloc ty38 rfl rfl) ?_
  refine AXo.nil ?_
  refine AX.seq ?_
  refine AX.draw (f := 0) orders hev ?_
  refine AXd.go rfl (d_fieldAddr rfl fo38_2 rfl) ?_
  refine AXd.go rfl (d_load rfl (ld ty36 rfl rfl)) ?_
  refine AXd.go rfl (d_callT (rh1 rfl) (e_clone38 _ _ _ rfl)) ?_
  refine AXd.go rfl (d_fieldAddr rfl fo38_3 rfl) ?_
  refine AXd.go rfl (d_load rfl (ld ty31 rfl rfl)) ?_
  refine AXd.go rfl (d_callN (rh1 rfl) (cloneS45_at e_clone45 (by assumption) hu2 (by assumption)) rfl news_row) ?_
  refine AXd.go rfl (d_fieldAddr rfl fo38_2 rfl) ?_
  refine AXd.go0 rfl (d_store rfl rfl (stt ty36 rfl rfl)) ?_
  refine AXd.go rfl (d_fieldAddr rfl fo38_3 rfl) ?_
  refine AXd.go0 rfl (d_store rfl rfl (stt ty31 rfl rfl)) ?_
  refine AXd.nil (ex_and2 rfl rfl ?_)
  refine AX.seq ?_
  refine AX.seq ?_
  refine AX.region ?_
  refine AXo.go (f := 0) hev (d_fieldAddr rfl fo38_2 rfl) ?_
  refine AXo.go (f := 0) hev (d_load rfl (ld ty36 rfl rfl)) ?_
  refine AXo.go (f := 0) hev (d_lenT rfl ty36 rfl) ?_
  refine AXo.go (f := 0) hev (d_move rfl) ?_
  refine AXo.nil ?_
  refine AX.block ?_
  refine AX.loop (α := Unit) (fun _ => _) (fun _ => True) (fun _ => 0) () (Re.refl _) trivial (fun _ _ => ?_)
  refine AX.seq ?_
  refine AX.region ?_
  refine AXo.go (f := 0) hev (d_ltI rfl rfl) ?_
  refine AXo.nil ?_
  refine AX.seq ?_
  refine AX.condF rfl rfl ?_
  refine AX.exit ?_
  refine AX.thenExit ?_
  refine AX.leave (e := .exit 0) (by simp) ?_
  refine AX.outHere ?_
  refine AX.seq ?_
  refine AX.seq ?_
  refine AX.region ?_
  refine AXo.go (f := 0) hev (d_fieldAddr rfl fo38_3 rfl) ?_
  refine AXo.go (f := 0) hev (d_load rfl (ld ty31 rfl rfl)) ?_
  refine AXo.go (f := 0) hev (d_lenR rfl ty31 rfl) ?_
  refine AXo.go (f := 0) hev (d_move rfl) ?_
  refine AXo.nil ?_
  refine AX.block ?_
  refine AX.loop (α := Nat) (fun x => ⟨frm 50 [(1, .ptr (.loc [0]) 0), (2, .ptr (.loc [1]) 0), (32, .t (.int .i64 ((bs.length : Nat) : Int))), (33, .t (.int .i64 ((x : Nat) : Int)))], [(.loc [0], .cells 38 [.t (.int .u8 k), .t (.str s), .t (.sl []), .ref (.loc [2]) 0 bs.length]), (.loc [1], .cells 38 [.t (.int .u8 0), .t (.str []), .nils, .nils]), (.loc [2], .arr (45, true) 5 false ((flat bs).map .t))], 3⟩) (fun x => (x ≤ bs.length)) (fun x => bs.length - x) 0 (Re.sq [.loc [0], .loc [1], .loc [7, 5]] ⟨rfl, rfl, rfl, rfl, trivial⟩ ⟨⟨.loc [0], _, rfl, rfl, .inl rfl⟩, ⟨.loc [1], _, rfl, rfl, .inl rfl⟩, ⟨.loc [7, 5], _, rfl, rfl, .inl rn_row⟩, trivial⟩ (by decide) rfl rfl (by decide)) (by show (0 ≤ bs.length); first | trivial | omega | (refine ⟨?_, ?_⟩ <;> omega) | simp) (fun x hok => ?_)
  obtain ⟨i_1, hx_⟩ : ∃ y, y = x := ⟨x, rfl⟩
  subst hx_
  replace hok : (i_1 ≤ bs.length) := hok
  have hok_1_0 := hok
  show AX _ _ ⟨frm 50 [(1, .ptr (.loc [0]) 0), (2, .ptr (.loc [1]) 0), (32, .t (.int .i64 ((bs.length : Nat) : Int))), (33, .t (.int .i64 ((i_1 : Nat) : Int)))], [(.loc [0], .cells 38 [.t (.int .u8 k), .t (.str s), .t (.sl []), .ref (.loc [2]) 0 bs.length]), (.loc [1], .cells 38 [.t (.int .u8 0), .t (.str []), .nils, .nils]), (.loc [2], .arr (45, true) 5 false ((flat bs).map .t))], 3⟩ _
  refine AX.seq ?_
  refine AX.region ?_
  refine AXo.go (f := 0) hev (d_ltI rfl rfl) ?_
  refine AXo.nil ?_
  refine AX.seq ?_
  refine AX.cond rfl (fun hc2 => ?_) (fun hc2 => ?_)
  · skip
    have dhc2 := of_decide_eq_true hc2
    refine AX.skip ?_
    refine AX.seq ?_
    refine AX.block ?_
    refine AX.seq ?_
    refine AX.region ?_
    refine AXo.go (f := 0) hev (d_move rfl) ?_
    refine AXo.go (f := 0) hev (d_assign rfl) ?_
    refine AXo.nil ?_
    refine AX.draw (f := 0) orders hev ?_
    refine AXd.go rfl (d_fieldAddr rfl fo38_3 rfl) ?_
    refine AXd.go rfl (d_load rfl (ld ty31 rfl rfl)) ?_
    refine AXd.go rfl (d_move rfl) ?_
    refine AXd.go rfl (d_fieldAddr rfl fo38_3 rfl) ?_
    refine AXd.go rfl (d_load rfl (ld ty31 rfl rfl)) ?_
    refine AXd.go rfl (d_move rfl) ?_
    refine AXd.go rfl (d_indexR (m := i_1) rfl rfl ty31 rfl ty45 rfl (by decide) (Uni.length hu2).symm (by first | omega | (simp; omega))) ?_
    refine AXd.go rfl (d_fieldAddr rfl fo45_1 (padd rfl)) ?_
    obtain ⟨e3, he3⟩ : ∃ e, bs[i_1]? = some e := ⟨bs[i_1]'(by first | omega | (simp; omega)), List.getElem?_eq_getElem _⟩
    obtain ⟨nm_4, r_4, rfl, hd_4⟩ := hb e3 (List.mem_of_getElem? he3)
    obtain ⟨k_4, s_4, os_4, bs_4, er_4, lo_4, lb_4⟩ := hform _ hd_4
    obtain rfl : r_4 = [.int .u8 k_4, .str s_4, .sl os_4, .sl bs_4] := Tree.agg.inj er_4
    refine AXd.go rfl (d_load (v := .t (.agg [.int .u8 k_4, .str s_4, .sl os_4, .sl bs_4])) rfl (lda ty38 rfl (part_row (i := i_1) (j := 1) (Uni.lens hu2) he3 (by decide)))) ?_
    refine AXd.go rfl (d_callT (rh1 rfl) (has1 e_own hd_4)) ?_
    refine AXd.go rfl (d_indexR (m := i_1) rfl rfl ty31 rfl ty45 rfl (by decide) (Uni.length hu2).symm (by first | omega | (simp; omega))) ?_
    refine AXd.go rfl (d_fieldAddr rfl fo45_1 (padd rfl)) ?_
    refine AXd.go0 rfl (d_store rfl rfl (sta' ty38 rfl rfl (by show i_1 * 5 + 1 + 4 ≤ _; rw [Uni.length hu2]; omega) (set_row (j := 1) (m := 4) (Uni.lens hu2) he3 (by decide)))) ?_
    refine AXd.nil (ex_and2 rfl rfl ?_)
    refine AX.outNormal ?_
    refine AX.region ?_
    refine AXo.go (f := 0) hev (d_add64 rfl rfl (by omega) (by omega)) ?_
    refine AXo.go (f := 0) hev (d_move rfl) ?_
    refine AXo.nil ?_
    exact ⟨.inl ⟨i_1 + 1, ⟨(by show (i_1 + 1) ≤ bs.length; first | omega | (simp only [List.length_append, List.length_cons, List.length_nil, List.length_singleton] at *; omega) | (simp; done) | (simp; omega)), (by show (bs.length - (i_1 + 1)) < (bs.length - i_1); omega)⟩⟩, rfl, Re.sq [.loc [0], .loc [1], .loc [2]] ⟨rfl, rfl, rfl, rfl, trivial⟩ ⟨⟨.loc [0], _, rfl, rfl, .inl rfl⟩, ⟨.loc [1], _, rfl, rfl, .inl rfl⟩, ⟨.loc [2], _, rfl, rfl, .inl rn_row⟩, trivial⟩ (by decide) rfl rfl (by decide)⟩
  · skip
    have dhc2 := of_decide_eq_false hc2
    refine AX.exit ?_
    refine AX.thenExit ?_
    refine AX.leave (e := .exit 2) (by simp) ?_
    refine AX.outHere ?_
    refine AX.seq ?_
    refine AX.region ?_
    refine AXo.go (f := 0) hev (d_load rfl (ld ty38 rfl rfl)) ?_
    refine AXo.go0 (f := 0) hev (d_store rfl rfl (stt ty38 rfl rfl)) ?_
    refine AXo.nil ?_
    refine AX.ret ?_
    exact ⟨(), .inl (fin_data rfl (frz_agg (frzs_cons (frz_tree _ _ _) (frzs_cons (frz_tree _ _ _) (frzs_cons (frz_tree _ _ _) (frzs_cons (frz_row' rfl hu2 (by decide) (by first | rfl | (simp; done) | (simp; omega)) rfl) frzs_nil))))))⟩

theorem own_10 (m : Int) (D : Tree → Prop) (hform : Form D) (hO : ∀ x, D x → R1 (cf m) 20 x x) (k : Int) (s : List UInt8) (os : List Tree) (hne1 : os ≠ []) (lo : os.length ≤ 4194304) (ho : ∀ o ∈ os, D o) (hu1 : Uni true 4 os) : R1 (cf m) 20 (mkTy k s os []) (mkTy k s os []) := by
  obtain ⟨ev, hev, e_clone38, e_clone45, e_own⟩ : ∃ ev, CallOk (cf m) ev ∧ Has ev 64 cloneS38 ∧ Has ev 65 cloneS45 ∧ Has ev 20 (pc1 D (fun x => x)) := ⟨_, (oneEv_ok (cloneS38_ok m) (oneEv_ok (cloneS45_ok m) (oneEv_ok (pc1_ok hO) noEv_ok))), has_here, (has_there rfl has_here), (has_there rfl (has_there rfl has_here))⟩
  refine CallRel.of_ex ?_
  refine AX.start 50 1 Tryz.func20 rfl (by decide) rfl rfl (by decide) ?_
  refine AX.seq ?_
  refine AX.region ?_
  refine AXo.go (f := 0) hev (d_box rfl rfl) ?_
  refine AXo.go (f := 0) hev (d_alloc ty38 rfl rfl) ?_
  refine AXo.nil ?_
  refine AX.seq ?_
  refine AX.draw (f := 0) orders hev ?_
  refine AXd.go rfl (d_fieldAddr rfl fo38_2 rfl) ?_
  refine AXd.go rfl (d_load rfl (ld ty36 rfl rfl)) ?_
  refine AXd.go rfl (d_callN (rh1 rfl) (cloneS38_at e_clone38 (by assumption) hu1 (by assumption)) rfl news_row) ?_
  refine AXd.go rfl (d_fieldAddr rfl fo38_3 rfl) ?_
  refine AXd.go rfl (d_load rfl (ld ty31 rfl rfl)) ?_
  refine AXd.go rfl (d_callT (rh1 rfl) (e_clone45 _ _ _ rfl)) ?_
  refine AXd.go rfl (d_fieldAddr rfl fo38_2 rfl) ?_
  refine AXd.go0 rfl (d_store rfl rfl (stt ty36 rfl rfl)) ?_
  refine AXd.go rfl (d_fieldAddr rfl fo38_3 rfl) ?_
  refine AXd.go0 rfl (d_store rfl rfl (stt ty31 rfl rfl)) ?_
  refine AXd.nil (ex_and2 rfl rfl ?_)
  refine AX.seq ?_
  refine AX.seq ?_
  refine AX.region ?_
  refine AXo.go (f := 0) hev (d_fieldAddr rfl fo38_2 rfl) ?_
  refine AXo.go (f := 0) hev (d_load rfl (ld ty36 rfl rfl)) ?_
  refine AXo.go (f := 0) hev (d_lenR rfl ty36 rfl) ?_
  refine AXo.go (f := 0) hev (d_move rfl) ?_
  refine AXo.nil ?_
  refine AX.block ?_
  refine AX.loop (α := Nat) (fun x => ⟨frm 50 [(1, .ptr (.loc [0]) 0), (2, .ptr (.loc [1]) 0), (15, .t (.int .i64 ((os.length : Nat) : Int))), (16, .t (.int .i64 ((x : Nat) : Int)))], [(.loc [0], .cells 38 [.t (.int .u8 k), .t (.str s), .ref (.loc [2]) 0 os.length, .t (.sl [])]), (.loc [1], .cells 38 [.t (.int .u8 0), .t (.str []), .nils, .nils]), (.loc [2], .arr (38, true) 4 false ((flat os).map .t))], 3⟩) (fun x => (x ≤ os.length)) (fun x => os.length - x) 0 (Re.sq [.loc [0], .loc [1], .loc [4, 5]] ⟨rfl, rfl, rfl, rfl, trivial⟩ ⟨⟨.loc [0], _, rfl, rfl, .inl rfl⟩, ⟨.loc [1], _, rfl, rfl, .inl rfl⟩, ⟨.loc [4, 5], _, rfl, rfl, .inl rn_row⟩, trivial⟩ (by decide) rfl rfl (by decide)) (by show (0 ≤ os.length); first | trivial | omega | (refine ⟨?_, ?_⟩ <;> omega) | simp) (fun x hok => ?_)
  obtain ⟨i_1, hx_⟩ : ∃ y, y = x := ⟨x, rfl⟩
  subst hx_
  replace hok : (i_1 ≤ os.length) := hok
  have hok_1_0 := hok
  show AX _ _ ⟨frm 50 [(1, .ptr (.loc [0]) 0), (2, .ptr (.loc [1]) 0), (15, .t (.int .i64 ((os.length : Nat) : Int))), (16, .t (.int .i64 ((i_1 : Nat) : Int)))], [(.loc [0], .cells 38 [.t (.int .u8 k), .t (.str s), .ref (.loc [2]) 0 os.length, .t (.sl [])]), (.loc [1], .cells 38 [.t (.int .u8 0), .t (.str []), .nils, .nils]), (.loc [2], .arr (38, true) 4 false ((flat os).map .t))], 3⟩ _
  refine AX.seq ?_
  refine AX.region ?_
  refine AXo.go (f := 0) hev (d_ltI rfl rfl) ?_
  refine AXo.nil ?_
  refine AX.seq ?_
  refine AX.cond rfl (fun hc2 => ?_) (fun hc2 => ?_)
  · skip
    have dhc2 := of_decide_eq_true hc2
    refine AX.skip ?_
    refine AX.seq ?_
    refine AX.block ?_
    refine AX.seq ?_
    refine AX.region ?_
    refine AXo.go (f := 0) hev (d_move rfl) ?_
    refine AXo.go (f := 0) hev (d_assign rfl) ?_
    refine AXo.nil ?_
    refine AX.draw (f := 0) orders hev ?_
    refine AXd.go rfl (d_fieldAddr rfl fo38_2 rfl) ?_
    refine AXd.go rfl (d_load rfl (ld ty36 rfl rfl)) ?_
    refine AXd.go rfl (d_move rfl) ?_
    refine AXd.go rfl (d_fieldAddr rfl fo38_2 rfl) ?_
    refine AXd.go rfl (d_load rfl (ld ty36 rfl rfl)) ?_
    refine AXd.go rfl (d_move rfl) ?_
    refine AXd.go rfl (d_indexR (m := i_1) rfl rfl ty36 rfl ty38 rfl (by decide) (Uni.length hu1).symm (by first | omega | (simp; omega))) ?_
    obtain ⟨e3, he3⟩ : ∃ e, os[i_1]? = some e := ⟨os[i_1]'(by first | omega | (simp; omega)), List.getElem?_eq_getElem _⟩
    have hd_4 := ho e3 (List.mem_of_getElem? he3)
    obtain ⟨k_4, s_4, os_4, bs_4, rfl, lo_4, lb_4⟩ := hform _ (hd_4)
    refine AXd.go rfl (d_load (v := .t (.agg [.int .u8 k_4, .str s_4, .sl os_4, .sl bs_4])) rfl (lda ty38 rfl (part_row (i := i_1) (j := 0) (Uni.lens hu1) he3 (by decide)))) ?_
    refine AXd.go rfl (d_callT (rh1 rfl) (has1 e_own hd_4)) ?_
    refine AXd.go rfl (d_indexR (m := i_1) rfl rfl ty36 rfl ty38 rfl (by decide) (Uni.length hu1).symm (by first | omega | (simp; omega))) ?_
    refine AXd.go0 rfl (d_store rfl rfl (sta' ty38 rfl rfl (by show i_1 * 4 + 0 + 4 ≤ _; rw [Uni.length hu1]; omega) (set_row (j := 0) (m := 4) (Uni.lens hu1) he3 (by decide)))) ?_
    refine AXd.nil (ex_and2 rfl rfl ?_)
    refine AX.outNormal ?_
    refine AX.region ?_
    refine AXo.go (f := 0) hev (d_add64 rfl rfl (by omega) (by omega)) ?_
    refine AXo.go (f := 0) hev (d_move rfl) ?_
    refine AXo.nil ?_
    exact ⟨.inl ⟨i_1 + 1, ⟨(by show (i_1 + 1) ≤ os.length; first | omega | (simp only [List.length_append, List.length_cons, List.length_nil, List.length_singleton] at *; omega) | (simp; done) | (simp; omega)), (by show (os.length - (i_1 + 1)) < (os.length - i_1); omega)⟩⟩, rfl, Re.sq [.loc [0], .loc [1], .loc [2]] ⟨rfl, rfl, rfl, rfl, trivial⟩ ⟨⟨.loc [0], _, rfl, rfl, .inl rfl⟩, ⟨.loc [1], _, rfl, rfl, .inl rfl⟩, ⟨.loc [2], _, rfl, rfl, .inl rn_row⟩, trivial⟩ (by decide) rfl rfl (by decide)⟩
  · skip
    have dhc2 := of_decide_eq_false hc2
    refine AX.exit ?_
    refine AX.thenExit ?_
    refine AX.leave (e := .exit 0) (by simp) ?_
    refine AX.outHere ?_
    refine AX.seq ?_
    refine AX.seq ?_
    refine AX.region ?_
    refine AXo.go (f := 0) hev (d_fieldAddr rfl fo38_3 rfl) ?_
    refine AXo.go (f := 0) hev (d_load rfl (ld ty31 rfl rfl)) ?_
    refine AXo.go (f := 0) hev (d_lenT rfl ty31 rfl) ?_
    refine AXo.go (f := 0) hev (d_move rfl) ?_
    refine AXo.nil ?_
    refine AX.block ?_
    refine AX.loop (α := Unit) (fun _ => _) (fun _ => True) (fun _ => 0) () (Re.refl _) trivial (fun _ _ => ?_)
    refine AX.seq ?_
    refine AX.region ?_
    refine AXo.go (f := 0) hev (d_ltI rfl rfl) ?_
    refine AXo.nil ?_
    refine AX.seq ?_
    refine AX.condF rfl rfl ?_
    refine AX.exit ?_
    refine AX.thenExit ?_
    refine AX.leave (e := .exit 2) (by simp) ?_
    refine AX.outHere ?_
    refine AX.seq ?_
    refine AX.region ?_
    refine AXo.go (f := 0) hev (d_load rfl (ld ty38 rfl rfl)) ?_
    refine AXo.go0 (f := 0) hev (d_store rfl rfl (stt ty38 rfl rfl)) ?_
    refine AXo.nil ?_
    refine AX.ret ?_
    exact ⟨(), .inl (fin_data rfl (frz_agg (frzs_cons (frz_tree _ _ _) (frzs_cons (frz_tree _ _ _) (frzs_cons (frz_row' rfl hu1 (by decide) (by first | rfl | (simp; done) | (simp; omega)) rfl) (frzs_cons (frz_tree _ _ _) frzs_nil))))))⟩

theorem own_11 (m : Int) (D : Tree → Prop) (hform : Form D) (hO : ∀ x, D x → R1 (cf m) 20 x x) (k : Int) (s : List UInt8) (os : List Tree) (hne1 : os ≠ []) (lo : os.length ≤ 4194304) (ho : ∀ o ∈ os, D o) (hu1 : Uni true 4 os) (bs : List Tree) (hne2 : bs ≠ []) (lb : bs.length ≤ 4194304) (hb : Ats D bs) (hu2 : Uni true 5 bs) : R1 (cf m) 20 (mkTy k s os bs) (mkTy k s os bs) := by
  obtain ⟨ev, hev, e_clone38, e_clone45, e_own⟩ : ∃ ev, CallOk (cf m) ev ∧ Has ev 64 cloneS38 ∧ Has ev 65 cloneS45 ∧ Has ev 20 (pc1 D (fun x => x)) := ⟨_, (oneEv_ok (cloneS38_ok m) (oneEv_ok (cloneS45_ok m) (oneEv_ok (pc1_ok hO) noEv_ok))), has_here, (has_there rfl has_here), (has_there rfl (has_there rfl has_here))⟩
  refine CallRel.of_ex ?_
  refine AX.start 50 1 Tryz.func20 rfl (by decide) rfl rfl (by decide) ?_
  refine AX.seq ?_
  refine AX.region ?_
  refine AXo.go (f := 0) hev (d_box rfl rfl) ?_
  refine AXo.go (f := 0) hev (d_alloc ty38 rfl rfl) ?_
  refine AXo.nil ?_
  refine AX.seq ?_
  refine AX.draw (f := 0) orders hev ?_
  refine AXd.go rfl (d_fieldAddr rfl fo38_2 rfl) ?_
  refine AXd.go rfl (d_load rfl (ld ty36 rfl rfl)) ?_
  refine AXd.go rfl (d_callN (rh1 rfl) (cloneS38_at e_clone38 (by assumption) hu1 (by assumption)) rfl news_row) ?_
  refine AXd.go rfl (d_fieldAddr rfl fo38_3 rfl) ?_
  refine AXd.go rfl (d_load rfl (ld ty31 rfl rfl)) ?_
  refine AXd.go rfl (d_callN (rh1 rfl) (cloneS45_at e_clone45 (by assumption) hu2 (by assumption)) rfl news_row) ?_
  refine AXd.go rfl (d_fieldAddr rfl fo38_2 rfl) ?_
  refine AXd.go0 rfl (d_store rfl rfl (stt ty36 rfl rfl)) ?_
  refine AXd.go rfl (d_fieldAddr rfl fo38_3 rfl) ?_
  refine AXd.go0 rfl (d_store rfl rfl (stt ty31 rfl rfl)) ?_
  refine AXd.nil (ex_and2 rfl rfl ?_)
  refine AX.seq ?_
  refine AX.seq ?_
  refine AX.region ?_
  refine AXo.go (f := 0) hev (d_fieldAddr rfl fo38_2 rfl) ?_
  refine AXo.go (f := 0) hev (d_load rfl (ld ty36 rfl rfl)) ?_
  refine AXo.go (f := 0) hev (d_lenR rfl ty36 rfl) ?_
  refine AXo.go (f := 0) hev (d_move rfl) ?_
  refine AXo.nil ?_
  refine AX.block ?_
  refine AX.loop (α := Nat) (fun x => ⟨frm 50 [(1, .ptr (.loc [0]) 0), (2, .ptr (.loc [1]) 0), (15, .t (.int .i64 ((os.length : Nat) : Int))), (16, .t (.int .i64 ((x : Nat) : Int)))], [(.loc [0], .cells 38 [.t (.int .u8 k), .t (.str s), .ref (.loc [2]) 0 os.length, .ref (.loc [3]) 0 bs.length]), (.loc [1], .cells 38 [.t (.int .u8 0), .t (.str []), .nils, .nils]), (.loc [2], .arr (38, true) 4 false ((flat os).map .t)), (.loc [3], .arr (45, true) 5 false ((flat bs).map .t))], 4⟩) (fun x => (x ≤ os.length)) (fun x => os.length - x) 0 (Re.sq [.loc [0], .loc [1], .loc [4, 5], .loc [7, 5]] ⟨rfl, rfl, rfl, rfl, trivial⟩ ⟨⟨.loc [0], _, rfl, rfl, .inl rfl⟩, ⟨.loc [1], _, rfl, rfl, .inl rfl⟩, ⟨.loc [4, 5], _, rfl, rfl, .inl rn_row⟩, ⟨.loc [7, 5], _, rfl, rfl, .inl rn_row⟩, trivial⟩ (by decide) rfl rfl (by decide)) (by show (0 ≤ os.length); first | trivial | omega | (refine ⟨?_, ?_⟩ <;> omega) | simp) (fun x hok => ?_)
  obtain ⟨i_1, hx_⟩ : ∃ y, y = x := ⟨x, rfl⟩
  subst hx_
  replace hok : (i_1 ≤ os.length) := hok
  have hok_1_0 := hok
  show AX _ _ ⟨frm 50 [(1, .ptr (.loc [0]) 0), (2, .ptr (.loc [1]) 0), (15, .t (.int .i64 ((os.length : Nat) : Int))), (16, .t (.int .i64 ((i_1 : Nat) : Int)))], [(.loc [0], .cells 38 [.t (.int .u8 k), .t (.str s), .ref (.loc [2]) 0 os.length, .ref (.loc [3]) 0 bs.length]), (.loc [1], .cells 38 [.t (.int .u8 0), .t (.str []), .nils, .nils]), (.loc [2], .arr (38, true) 4 false ((flat os).map .t)), (.loc [3], .arr (45, true) 5 false ((flat bs).map .t))], 4⟩ _
  refine AX.seq ?_
  refine AX.region ?_
  refine AXo.go (f := 0) hev (d_ltI rfl rfl) ?_
  refine AXo.nil ?_
  refine AX.seq ?_
  refine AX.cond rfl (fun hc2 => ?_) (fun hc2 => ?_)
  · skip
    have dhc2 := of_decide_eq_true hc2
    refine AX.skip ?_
    refine AX.seq ?_
    refine AX.block ?_
    refine AX.seq ?_
    refine AX.region ?_
    refine AXo.go (f := 0) hev (d_move rfl) ?_
    refine AXo.go (f := 0) hev (d_assign rfl) ?_
    refine AXo.nil ?_
    refine AX.draw (f := 0) orders hev ?_
    refine AXd.go rfl (d_fieldAddr rfl fo38_2 rfl) ?_
    refine AXd.go rfl (d_load rfl (ld ty36 rfl rfl)) ?_
    refine AXd.go rfl (d_move rfl) ?_
    refine AXd.go rfl (d_fieldAddr rfl fo38_2 rfl) ?_
    refine AXd.go rfl (d_load rfl (ld ty36 rfl rfl)) ?_
    refine AXd.go rfl (d_move rfl) ?_
    refine AXd.go rfl (d_indexR (m := i_1) rfl rfl ty36 rfl ty38 rfl (by decide) (Uni.length hu1).symm (by first | omega | (simp; omega))) ?_
    obtain ⟨e3, he3⟩ : ∃ e, os[i_1]? = some e := ⟨os[i_1]'(by first | omega | (simp; omega)), List.getElem?_eq_getElem _⟩
    have hd_4 := ho e3 (List.mem_of_getElem? he3)
    obtain ⟨k_4, s_4, os_4, bs_4, rfl, lo_4, lb_4⟩ := hform _ (hd_4)
    refine AXd.go rfl (d_load (v := .t (.agg [.int .u8 k_4, .str s_4, .sl os_4, .sl bs_4])) rfl (lda ty38 rfl (part_row (i := i_1) (j := 0) (Uni.lens hu1) he3 (by decide)))) ?_
    refine AXd.go rfl (d_callT (rh1 rfl) (has1 e_own hd_4)) ?_
    refine AXd.go rfl (d_indexR (m := i_1) rfl rfl ty36 rfl ty38 rfl (by decide) (Uni.length hu1).symm (by first | omega | (simp; omega))) ?_
    refine AXd.go0 rfl (d_store rfl rfl (sta' ty38 rfl rfl (by show i_1 * 4 + 0 + 4 ≤ _; rw [Uni.length hu1]; omega) (set_row (j := 0) (m := 4) (Uni.lens hu1) he3 (by decide)))) ?_
    refine AXd.nil (ex_and2 rfl rfl ?_)
    refine AX.outNormal ?_
    refine AX.region ?_
    refine AXo.go (f := 0) hev (d_add64 rfl rfl (by omega) (by omega)) ?_
    refine AXo.go (f := 0) hev (d_move rfl) ?_
    refine AXo.nil ?_
    exact ⟨.inl ⟨i_1 + 1, ⟨(by show (i_1 + 1) ≤ os.length; first | omega | (simp only [List.length_append, List.length_cons, List.length_nil, List.length_singleton] at *; omega) | (simp; done) | (simp; omega)), (by show (os.length - (i_1 + 1)) < (os.length - i_1); omega)⟩⟩, rfl, Re.sq [.loc [0], .loc [1], .loc [2], .loc [3]] ⟨rfl, rfl, rfl, rfl, trivial⟩ ⟨⟨.loc [0], _, rfl, rfl, .inl rfl⟩, ⟨.loc [1], _, rfl, rfl, .inl rfl⟩, ⟨.loc [2], _, rfl, rfl, .inl rn_row⟩, ⟨.loc [3], _, rfl, rfl, .inl rn_row⟩, trivial⟩ (by decide) rfl rfl (by decide)⟩
  · skip
    have dhc2 := of_decide_eq_false hc2
    refine AX.exit ?_
    refine AX.thenExit ?_
    refine AX.leave (e := .exit 0) (by simp) ?_
    refine AX.outHere ?_
    refine AX.seq ?_
    refine AX.seq ?_
    refine AX.region ?_
    refine AXo.go (f := 0) hev (d_fieldAddr rfl fo38_3 rfl) ?_
    refine AXo.go (f := 0) hev (d_load rfl (ld ty31 rfl rfl)) ?_
    refine AXo.go (f := 0) hev (d_lenR rfl ty31 rfl) ?_
    refine AXo.go (f := 0) hev (d_move rfl) ?_
    refine AXo.nil ?_
    refine AX.block ?_
    refine AX.loop (α := Nat) (fun x => ⟨frm 50 [(1, .ptr (.loc [0]) 0), (2, .ptr (.loc [1]) 0), (32, .t (.int .i64 ((bs.length : Nat) : Int))), (33, .t (.int .i64 ((x : Nat) : Int)))], [(.loc [0], .cells 38 [.t (.int .u8 k), .t (.str s), .ref (.loc [2]) 0 os.length, .ref (.loc [3]) 0 bs.length]), (.loc [1], .cells 38 [.t (.int .u8 0), .t (.str []), .nils, .nils]), (.loc [2], .arr (38, true) 4 false ((flat os).map .t)), (.loc [3], .arr (45, true) 5 false ((flat bs).map .t))], 4⟩) (fun x => (x ≤ bs.length)) (fun x => bs.length - x) 0 (Re.sq [.loc [0], .loc [1], .loc [2], .loc [3]] ⟨rfl, rfl, rfl, rfl, trivial⟩ ⟨⟨.loc [0], _, rfl, rfl, .inl rfl⟩, ⟨.loc [1], _, rfl, rfl, .inl rfl⟩, ⟨.loc [2], _, rfl, rfl, .inl rn_row⟩, ⟨.loc [3], _, rfl, rfl, .inl rn_row⟩, trivial⟩ (by decide) rfl rfl (by decide)) (by show (0 ≤ bs.length); first | trivial | omega | (refine ⟨?_, ?_⟩ <;> omega) | simp) (fun x hok => ?_)
    obtain ⟨i_5, hx_⟩ : ∃ y, y = x := ⟨x, rfl⟩
    subst hx_
    replace hok : (i_5 ≤ bs.length) := hok
    have hok_5_0 := hok
    show AX _ _ ⟨frm 50 [(1, .ptr (.loc [0]) 0), (2, .ptr (.loc [1]) 0), (32, .t (.int .i64 ((bs.length : Nat) : Int))), (33, .t (.int .i64 ((i_5 : Nat) : Int)))], [(.loc [0], .cells 38 [.t (.int .u8 k), .t (.str s), .ref (.loc [2]) 0 os.length, .ref (.loc [3]) 0 bs.length]), (.loc [1], .cells 38 [.t (.int .u8 0), .t (.str []), .nils, .nils]), (.loc [2], .arr (38, true) 4 false ((flat os).map .t)), (.loc [3], .arr (45, true) 5 false ((flat bs).map .t))], 4⟩ _
    refine AX.seq ?_
    refine AX.region ?_
    refine AXo.go (f := 0) hev (d_ltI rfl rfl) ?_
    refine AXo.nil ?_
    refine AX.seq ?_
    refine AX.cond rfl (fun hc6 => ?_) (fun hc6 => ?_)
    · skip
      have dhc6 := of_decide_eq_true hc6
      refine AX.skip ?_
      refine AX.seq ?_
      refine AX.block ?_
      refine AX.seq ?_
      refine AX.region ?_
      refine AXo.go (f := 0) hev (d_move rfl) ?_
      refine AXo.go (f := 0) hev (d_assign rfl) ?_
      refine AXo.nil ?_
      refine AX.draw (f := 0) orders hev ?_
      refine AXd.go rfl (d_fieldAddr rfl fo38_3 rfl) ?_
      refine AXd.go rfl (d_load rfl (ld ty31 rfl rfl)) ?_
      refine AXd.go rfl (d_move rfl) ?_
      refine AXd.go rfl (d_fieldAddr rfl fo38_3 rfl) ?_
      refine AXd.go rfl (d_load rfl (ld ty31 rfl rfl)) ?_
      refine AXd.go rfl (d_move rfl) ?_
      refine AXd.go rfl (d_indexR (m := i_5) rfl rfl ty31 rfl ty45 rfl (by decide) (Uni.length hu2).symm (by first | omega | (simp; omega))) ?_
      refine AXd.go rfl (d_fieldAddr rfl fo45_1 (padd rfl)) ?_
      obtain ⟨e7, he7⟩ : ∃ e, bs[i_5]? = some e := ⟨bs[i_5]'(by first | omega | (simp; omega)), List.getElem?_eq_getElem _⟩
      obtain ⟨nm_8, r_8, rfl, hd_8⟩ := hb e7 (List.mem_of_getElem? he7)
      obtain ⟨k_8, s_8, os_8, bs_8, er_8, lo_8, lb_8⟩ := hform _ hd_8
      obtain rfl : r_8 = [.int .u8 k_8, .str s_8, .sl os_8, .sl bs_8] := Tree.agg.inj er_8
      refine AXd.go rfl (d_load (v := .t (.agg [.int .u8 k_8, .str s_8, .sl os_8, .sl bs_8])) rfl (lda ty38 rfl (part_row (i := i_5) (j := 1) (Uni.lens hu2) he7 (by decide)))) ?_
      refine AXd.go rfl (d_callT (rh1 rfl) (has1 e_own hd_8)) ?_
      refine AXd.go rfl (d_indexR (m := i_5) rfl rfl ty31 rfl ty45 rfl (by decide) (Uni.length hu2).symm (by first | omega | (simp; omega))) ?_
      refine AXd.go rfl (d_fieldAddr rfl fo45_1 (padd rfl)) ?_
      refine AXd.go0 rfl (d_store rfl rfl (sta' ty38 rfl rfl (by show i_5 * 5 + 1 + 4 ≤ _; rw [Uni.length hu2]; omega) (set_row (j := 1) (m := 4) (Uni.lens hu2) he7 (by decide)))) ?_
      refine AXd.nil (ex_and2 rfl rfl ?_)
      refine AX.outNormal ?_
      refine AX.region ?_
      refine AXo.go (f := 0) hev (d_add64 rfl rfl (by omega) (by omega)) ?_
      refine AXo.go (f := 0) hev (d_move rfl) ?_
      refine AXo.nil ?_
      exact ⟨.inl ⟨i_5 + 1, ⟨(by show (i_5 + 1) ≤ bs.length; first | omega | (simp only [List.length_append, List.length_cons, List.length_nil, List.length_singleton] at *; omega) | (simp; done) | (simp; omega)), (by show (bs.length - (i_5 + 1)) < (bs.length - i_5); omega)⟩⟩, rfl, Re.sq [.loc [0], .loc [1], .loc [2], .loc [3]] ⟨rfl, rfl, rfl, rfl, trivial⟩ ⟨⟨.loc [0], _, rfl, rfl, .inl rfl⟩, ⟨.loc [1], _, rfl, rfl, .inl rfl⟩, ⟨.loc [2], _, rfl, rfl, .inl rn_row⟩, ⟨.loc [3], _, rfl, rfl, .inl rn_row⟩, trivial⟩ (by decide) rfl rfl (by decide)⟩
    · skip
      have dhc6 := of_decide_eq_false hc6
      refine AX.exit ?_
      refine AX.thenExit ?_
      refine AX.leave (e := .exit 2) (by simp) ?_
      refine AX.outHere ?_
      refine AX.seq ?_
      refine AX.region ?_
      refine AXo.go (f := 0) hev (d_load rfl (ld ty38 rfl rfl)) ?_
      refine AXo.go0 (f := 0) hev (d_store rfl rfl (stt ty38 rfl rfl)) ?_
      refine AXo.nil ?_
      refine AX.ret ?_
      exact ⟨(), .inl (fin_data rfl (frz_agg (frzs_cons (frz_tree _ _ _) (frzs_cons (frz_tree _ _ _) (frzs_cons (frz_row' rfl hu1 (by decide) (by first | rfl | (simp; done) | (simp; omega)) rfl) (frzs_cons (frz_row' rfl hu2 (by decide) (by first | rfl | (simp; done) | (simp; omega)) rfl) frzs_nil))))))⟩

end
end Go.Proofs.YtijfhoelihclbaaGreatDoor.w
