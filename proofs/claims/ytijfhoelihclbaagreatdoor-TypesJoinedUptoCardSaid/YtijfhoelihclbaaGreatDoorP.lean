/- More of it. -/
import Derived.Test.YtijfhoelihclbaaGreatDoorO
import Derived.Test.YtijfhoelihclbaaGreatDoorG
namespace Go.Proofs.YtijfhoelihclbaaGreatDoor.w
open Go Go.Abs
set_option linter.unusedVariables false
set_option maxRecDepth 100000
set_option maxHeartbeats 1000000
noncomputable section
abbrev ti204 : TI := { size := 1, bytes := 24, agg := false, zero := some (.nils), desc := .slice 5 }
theorem ty204 {m : Int} : (cf m).P.ty 204 = some ti204 := by kernel_rfl
theorem fo45_0 {m : Int} : fieldOff (cf m).P 45 0 = some 0 := by kernel_rfl

theorem digit_at {m : Int} {ev : CallF} (hev : CallOk (cf m) ev) (n : Int) : ∃ r : Bool, CallRel (cf m) 139 [.t (.int .u8 n)] [] (.ret (.t (.bool r)) [] []) := by
  refine AX.start 9 1 Tryz.func139 rfl (by decide) rfl rfl (by decide) ?_
  refine AX.seq ?_
  refine AX.region ?_
  refine AXo.go (f := 0) hev (d_assign rfl) ?_
  refine AXo.nil ?_
  refine AX.seq ?_
  refine AX.region ?_
  refine AXo.go (f := 0) hev (d_move rfl) ?_
  refine AXo.go (f := 0) hev (d_geI rfl rfl) ?_
  refine AXo.go (f := 0) hev (d_move rfl) ?_
  refine AXo.split 5 rfl (fun hg5 => ?_) (fun hg5 => ?_)
  · skip
    refine AXo.yes (f := 0) hev rfl rfl rfl (beqTT hg5) (d_move rfl) ?_
    refine AXo.yes (f := 0) hev rfl rfl rfl (beqTT hg5) (d_leI rfl rfl) ?_
    refine AXo.go (f := 0) hev (d_pickT rfl hg5 rfl rfl) ?_
    refine AXo.go (f := 0) hev (d_assign rfl) ?_
    refine AXo.nil ?_
    refine AX.ret ?_
    exact ⟨_, .inl rfl⟩
  · skip
    refine AXo.no rfl rfl rfl (beqFT hg5) ?_
    refine AXo.no rfl rfl rfl (beqFT hg5) ?_
    refine AXo.go (f := 0) hev (d_pickF rfl hg5 rfl rfl) ?_
    refine AXo.go (f := 0) hev (d_assign rfl) ?_
    refine AXo.nil ?_
    refine AX.ret ?_
    exact ⟨_, .inl rfl⟩

theorem letter_at {m : Int} {ev : CallF} (hev : CallOk (cf m) ev) (n : Int) : ∃ r : Bool, CallRel (cf m) 142 [.t (.int .u8 n)] [] (.ret (.t (.bool r)) [] []) := by
  refine AX.start 15 1 Tryz.func142 rfl (by decide) rfl rfl (by decide) ?_
  refine AX.seq ?_
  refine AX.region ?_
  refine AXo.go (f := 0) hev (d_assign rfl) ?_
  refine AXo.nil ?_
  refine AX.seq ?_
  refine AX.region ?_
  refine AXo.go (f := 0) hev (d_move rfl) ?_
  refine AXo.go (f := 0) hev (d_bin rfl rfl rfl) ?_
  refine AXo.go (f := 0) hev (d_geI rfl rfl) ?_
  refine AXo.go (f := 0) hev (d_move rfl) ?_
  refine AXo.split 6 rfl (fun hg6 => ?_) (fun hg6 => ?_)
  · skip
    refine AXo.yes (f := 0) hev rfl rfl rfl (beqTT hg6) (d_move rfl) ?_
    refine AXo.yes (f := 0) hev rfl rfl rfl (beqTT hg6) (d_bin rfl rfl rfl) ?_
    refine AXo.yes (f := 0) hev rfl rfl rfl (beqTT hg6) (d_leI rfl rfl) ?_
    refine AXo.go (f := 0) hev (d_pickT rfl hg6 rfl rfl) ?_
    refine AXo.go (f := 0) hev (d_move rfl) ?_
    refine AXo.split 11 rfl (fun hg11 => ?_) (fun hg11 => ?_)
    · skip
      refine AXo.no rfl rfl rfl (beqTF hg11) ?_
      refine AXo.no rfl rfl rfl (beqTF hg11) ?_
      refine AXo.go (f := 0) hev (d_pickT rfl hg11 rfl rfl) ?_
      refine AXo.go (f := 0) hev (d_assign rfl) ?_
      refine AXo.nil ?_
      refine AX.ret ?_
      exact ⟨_, .inl rfl⟩
    · skip
      refine AXo.yes (f := 0) hev rfl rfl rfl (beqFF hg11) (d_move rfl) ?_
      refine AXo.yes (f := 0) hev rfl rfl rfl (beqFF hg11) (d_eqI rfl rfl) ?_
      refine AXo.go (f := 0) hev (d_pickF rfl hg11 rfl rfl) ?_
      refine AXo.go (f := 0) hev (d_assign rfl) ?_
      refine AXo.nil ?_
      refine AX.ret ?_
      exact ⟨_, .inl rfl⟩
  · skip
    refine AXo.no rfl rfl rfl (beqFT hg6) ?_
    refine AXo.no rfl rfl rfl (beqFT hg6) ?_
    refine AXo.no rfl rfl rfl (beqFT hg6) ?_
    refine AXo.go (f := 0) hev (d_pickF rfl hg6 rfl rfl) ?_
    refine AXo.go (f := 0) hev (d_move rfl) ?_
    refine AXo.yes (f := 0) hev rfl rfl rfl (beqFF rfl) (d_move rfl) ?_
    refine AXo.yes (f := 0) hev rfl rfl rfl (beqFF rfl) (d_eqI rfl rfl) ?_
    refine AXo.go (f := 0) hev (d_pickF rfl rfl rfl rfl) ?_
    refine AXo.go (f := 0) hev (d_assign rfl) ?_
    refine AXo.nil ?_
    refine AX.ret ?_
    exact ⟨_, .inl rfl⟩

theorem name1_at {m : Int} {ev : CallF} (hev : CallOk (cf m) ev) (lt dg : Int → Bool) (hL : ∀ n, ev 142 [.t (.int .u8 n)] [] = some (.ret (.t (.bool (lt n))) [] [])) (hD : ∀ n, ev 139 [.t (.int .u8 n)] [] = some (.ret (.t (.bool (dg n))) [] [])) (n : Int) :
    ∃ r : Bool, CallRel (cf m) 141 [.t (.int .u8 n)] [] (.ret (.t (.bool r)) [] []) := by
  refine AX.start 11 1 Tryz.func141 rfl (by decide) rfl rfl (by decide) ?_
  refine AX.seq ?_
  refine AX.region ?_
  refine AXo.go (f := 0) hev (d_assign rfl) ?_
  refine AXo.nil ?_
  refine AX.seq ?_
  refine AX.region ?_
  refine AXo.go (f := 0) hev (d_move rfl) ?_
  refine AXo.go (f := 0) hev (d_callT (rh1 rfl) (hL _)) ?_
  refine AXo.go (f := 0) hev (d_not rfl) ?_
  refine AXo.go (f := 0) hev (d_move rfl) ?_
  refine AXo.split 6 rfl (fun hg6 => ?_) (fun hg6 => ?_)
  · skip
    refine AXo.yes (f := 0) hev rfl rfl rfl (beqTT hg6) (d_move rfl) ?_
    refine AXo.yes (f := 0) hev rfl rfl rfl (beqTT hg6) (d_callT (rh1 rfl) (hD _)) ?_
    refine AXo.yes (f := 0) hev rfl rfl rfl (beqTT hg6) (d_not rfl) ?_
    refine AXo.go (f := 0) hev (d_pickT rfl hg6 rfl rfl) ?_
    refine AXo.go (f := 0) hev (d_assign rfl) ?_
    refine AXo.nil ?_
    refine AX.ret ?_
    exact ⟨_, .inl rfl⟩
  · skip
    refine AXo.no rfl rfl rfl (beqFT hg6) ?_
    refine AXo.no rfl rfl rfl (beqFT hg6) ?_
    refine AXo.no rfl rfl rfl (beqFT hg6) ?_
    refine AXo.go (f := 0) hev (d_pickF rfl hg6 rfl rfl) ?_
    refine AXo.go (f := 0) hev (d_assign rfl) ?_
    refine AXo.nil ?_
    refine AX.ret ?_
    exact ⟨_, .inl rfl⟩

theorem ixB_at {m : Int} {ev : CallF} (hev : CallOk (cf m) ev) (l : List Tree) (hl : l.length ≤ 4194304) (hf : ∀ e ∈ l, ∃ n, e = .int .u8 n) (g : FuncId) (q : Tree → Bool) (hq : ∀ e ∈ l, ev g [.t e] [] = some (.ret (.t (.bool (q e))) [] [])) :
    ∃ r : Int, CallRel (cf m) 181 [.t (.sl l), .t (.fn (.func g))] [] (.ret (.t (.int .i64 r)) [] []) := by
  refine AX.start 19 2 Tryz.func181 rfl (by decide) rfl rfl (by decide) ?_
  refine AX.seq ?_
  refine AX.region ?_
  refine AXo.go (f := 0) hev (d_assign rfl) ?_
  refine AXo.nil ?_
  refine AX.seq ?_
  refine AX.seq ?_
  refine AX.region ?_
  refine AXo.go (f := 0) hev (d_move rfl) ?_
  refine AXo.go (f := 0) hev ((by first | exact d_lenT rfl ty204 rfl | exact d_lenR rfl ty204 rfl | exact d_lenN rfl ty204 rfl | exact d_lenG rfl ty204 rfl)) ?_
  refine AXo.go (f := 0) hev (d_move rfl) ?_
  refine AXo.nil ?_
  refine AX.block ?_
  refine AX.loop (α := Nat) (fun i => ⟨frm 19 [(0, .t (.sl l)), (1, .t (.fn (.func g))), (7, .t (.int .i64 l.length)), (8, .t (.int .i64 i))], [], 0⟩) (fun i => i ≤ l.length) (fun i => l.length - i) 0 (Re.sq [] ⟨rfl, rfl, rfl, rfl, trivial⟩ trivial (by decide) rfl rfl (by decide)) (Nat.zero_le _) (fun i hok => ?_)
  replace hok : i ≤ l.length := hok
  refine AX.seq ?_
  refine AX.region ?_
  refine AXo.go (f := 0) hev (d_ltI rfl rfl) ?_
  refine AXo.nil ?_
  refine AX.seq ?_
  refine AX.cond rfl (fun h9 => ?_) (fun h9 => ?_)
  · have hlt : i < l.length := by have := of_decide_eq_true h9; omega
    obtain ⟨e, he⟩ : ∃ e, l[i]? = some e := ⟨l[i], List.getElem?_eq_getElem hlt⟩
    obtain ⟨n, rfl⟩ := hf e (List.mem_of_getElem? he)
    refine AX.skip ?_
    refine AX.seq ?_
    refine AX.block ?_
    refine AX.seq ?_
    refine AX.region ?_
    refine AXo.go (f := 0) hev (d_move rfl) ?_
    refine AXo.go (f := 0) hev (d_assign rfl) ?_
    refine AXo.nil ?_
    refine AX.seq ?_
    refine AX.region ?_
    refine AXo.go (f := 0) hev (d_move rfl) ?_
    refine AXo.go (f := 0) hev (d_move rfl) ?_
    refine AXo.go (f := 0) hev (d_move rfl) ?_
    refine AXo.go (f := 0) hev (d_indexT rfl rfl ty204 rfl ty5 he rfl) ?_
    refine AXo.go (f := 0) hev ((by first | exact d_loadT rfl (ld ty5 rfl rfl) | exact d_load rfl (ld ty5 rfl rfl))) ?_
    refine AXo.go (f := 0) hev (d_callV rfl (rh1 rfl) (hq _ (List.mem_of_getElem? he))) ?_
    refine AXo.nil ?_
    refine AX.cond rfl (fun h16 => ?_) (fun h16 => ?_)
    · skip
      refine AX.seq ?_
      refine AX.region ?_
      refine AXo.go (f := 0) hev (d_move rfl) ?_
      refine AXo.go (f := 0) hev (d_assign rfl) ?_
      refine AXo.nil ?_
      refine AX.ret ?_
      refine AX.outRet ?_
      refine AX.thenRet ?_
      refine AX.leave (e := .ret) (by simp) ?_
      refine AX.outRet ?_
      refine AX.thenRet ?_
      exact ⟨_, .inl rfl⟩
    · skip
      refine AX.skip ?_
      refine AX.outNormal ?_
      refine AX.region ?_
      refine AXo.go (f := 0) hev (d_add64 rfl rfl (by omega) (by omega)) ?_
      refine AXo.go (f := 0) hev (d_move rfl) ?_
      refine AXo.nil ?_
      exact ⟨.inl ⟨i + 1, by show i + 1 ≤ _ ∧ l.length - (i + 1) < l.length - i; omega⟩, rfl, (Re.sq [] ⟨rfl, rfl, rfl, rfl, trivial⟩ trivial (by decide) rfl rfl (by decide))⟩
  · skip
    refine AX.exit ?_
    refine AX.thenExit ?_
    refine AX.leave (e := .exit 0) (by simp) ?_
    refine AX.outHere ?_
    refine AX.seq ?_
    refine AX.region ?_
    refine AXo.go (f := 0) hev (d_assign rfl) ?_
    refine AXo.nil ?_
    refine AX.ret ?_
    exact ⟨_, .inl rfl⟩

theorem cfB_at {m : Int} {ev : CallF} (hev : CallOk (cf m) ev) (x y : Tree) (z : Int) (hI : ev 181 [.t x, .t y] [] = some (.ret (.t (.int .i64 z)) [] [])) :
    ∃ r : Bool, CallRel (cf m) 140 [.t x, .t y] [] (.ret (.t (.bool r)) [] []) := by
  refine AX.start 9 2 Tryz.func140 rfl (by decide) rfl rfl (by decide) ?_
  refine AX.seq ?_
  refine AX.region ?_
  refine AXo.go (f := 0) hev (d_assign rfl) ?_
  refine AXo.nil ?_
  refine AX.seq ?_
  refine AX.region ?_
  refine AXo.go (f := 0) hev (d_move rfl) ?_
  refine AXo.go (f := 0) hev (d_move rfl) ?_
  refine AXo.go (f := 0) hev (d_callT (rh2 rfl rfl) hI) ?_
  refine AXo.go (f := 0) hev (d_geI rfl rfl) ?_
  refine AXo.go (f := 0) hev (d_assign rfl) ?_
  refine AXo.nil ?_
  refine AX.ret ?_
  exact ⟨_, .inl rfl⟩

theorem ixS_at {m : Int} {ev : CallF} (hev : CallOk (cf m) ev) (l : List Tree) (hl : l.length ≤ 4194304) (hf : ∀ e ∈ l, ∃ u, e = .str u) (g : FuncId) (q : Tree → Bool) (hq : ∀ e ∈ l, ev g [.t e] [] = some (.ret (.t (.bool (q e))) [] [])) :
    ∃ r : Int, CallRel (cf m) 112 [.t (.sl l), .t (.fn (.func g))] [] (.ret (.t (.int .i64 r)) [] []) := by
  refine AX.start 19 2 Tryz.func112 rfl (by decide) rfl rfl (by decide) ?_
  refine AX.seq ?_
  refine AX.region ?_
  refine AXo.go (f := 0) hev (d_assign rfl) ?_
  refine AXo.nil ?_
  refine AX.seq ?_
  refine AX.seq ?_
  refine AX.region ?_
  refine AXo.go (f := 0) hev (d_move rfl) ?_
  refine AXo.go (f := 0) hev ((by first | exact d_lenT rfl ty23 rfl | exact d_lenR rfl ty23 rfl | exact d_lenN rfl ty23 rfl | exact d_lenG rfl ty23 rfl)) ?_
  refine AXo.go (f := 0) hev (d_move rfl) ?_
  refine AXo.nil ?_
  refine AX.block ?_
  refine AX.loop (α := Nat) (fun i => ⟨frm 19 [(0, .t (.sl l)), (1, .t (.fn (.func g))), (7, .t (.int .i64 l.length)), (8, .t (.int .i64 i))], [], 0⟩) (fun i => i ≤ l.length) (fun i => l.length - i) 0 (Re.sq [] ⟨rfl, rfl, rfl, rfl, trivial⟩ trivial (by decide) rfl rfl (by decide)) (Nat.zero_le _) (fun i hok => ?_)
  replace hok : i ≤ l.length := hok
  refine AX.seq ?_
  refine AX.region ?_
  refine AXo.go (f := 0) hev (d_ltI rfl rfl) ?_
  refine AXo.nil ?_
  refine AX.seq ?_
  refine AX.cond rfl (fun h9 => ?_) (fun h9 => ?_)
  · have hlt : i < l.length := by have := of_decide_eq_true h9; omega
    obtain ⟨e, he⟩ : ∃ e, l[i]? = some e := ⟨l[i], List.getElem?_eq_getElem hlt⟩
    obtain ⟨u, rfl⟩ := hf e (List.mem_of_getElem? he)
    refine AX.skip ?_
    refine AX.seq ?_
    refine AX.block ?_
    refine AX.seq ?_
    refine AX.region ?_
    refine AXo.go (f := 0) hev (d_move rfl) ?_
    refine AXo.go (f := 0) hev (d_assign rfl) ?_
    refine AXo.nil ?_
    refine AX.seq ?_
    refine AX.region ?_
    refine AXo.go (f := 0) hev (d_move rfl) ?_
    refine AXo.go (f := 0) hev (d_move rfl) ?_
    refine AXo.go (f := 0) hev (d_move rfl) ?_
    refine AXo.go (f := 0) hev (d_indexT rfl rfl ty23 rfl ty9 he rfl) ?_
    refine AXo.go (f := 0) hev ((by first | exact d_loadT rfl (ld ty9 rfl rfl) | exact d_load rfl (ld ty9 rfl rfl))) ?_
    refine AXo.go (f := 0) hev (d_callV rfl (rh1 rfl) (hq _ (List.mem_of_getElem? he))) ?_
    refine AXo.nil ?_
    refine AX.cond rfl (fun h16 => ?_) (fun h16 => ?_)
    · skip
      refine AX.seq ?_
      refine AX.region ?_
      refine AXo.go (f := 0) hev (d_move rfl) ?_
      refine AXo.go (f := 0) hev (d_assign rfl) ?_
      refine AXo.nil ?_
      refine AX.ret ?_
      refine AX.outRet ?_
      refine AX.thenRet ?_
      refine AX.leave (e := .ret) (by simp) ?_
      refine AX.outRet ?_
      refine AX.thenRet ?_
      exact ⟨_, .inl rfl⟩
    · skip
      refine AX.skip ?_
      refine AX.outNormal ?_
      refine AX.region ?_
      refine AXo.go (f := 0) hev (d_add64 rfl rfl (by omega) (by omega)) ?_
      refine AXo.go (f := 0) hev (d_move rfl) ?_
      refine AXo.nil ?_
      exact ⟨.inl ⟨i + 1, by show i + 1 ≤ _ ∧ l.length - (i + 1) < l.length - i; omega⟩, rfl, (Re.sq [] ⟨rfl, rfl, rfl, rfl, trivial⟩ trivial (by decide) rfl rfl (by decide))⟩
  · skip
    refine AX.exit ?_
    refine AX.thenExit ?_
    refine AX.leave (e := .exit 0) (by simp) ?_
    refine AX.outHere ?_
    refine AX.seq ?_
    refine AX.region ?_
    refine AXo.go (f := 0) hev (d_assign rfl) ?_
    refine AXo.nil ?_
    refine AX.ret ?_
    exact ⟨_, .inl rfl⟩

theorem cfS_at {m : Int} {ev : CallF} (hev : CallOk (cf m) ev) (x y : Tree) (z : Int) (hI : ev 112 [.t x, .t y] [] = some (.ret (.t (.int .i64 z)) [] [])) :
    ∃ r : Bool, CallRel (cf m) 77 [.t x, .t y] [] (.ret (.t (.bool r)) [] []) := by
  refine AX.start 9 2 Tryz.func77 rfl (by decide) rfl rfl (by decide) ?_
  refine AX.seq ?_
  refine AX.region ?_
  refine AXo.go (f := 0) hev (d_assign rfl) ?_
  refine AXo.nil ?_
  refine AX.seq ?_
  refine AX.region ?_
  refine AXo.go (f := 0) hev (d_move rfl) ?_
  refine AXo.go (f := 0) hev (d_move rfl) ?_
  refine AXo.go (f := 0) hev (d_callT (rh2 rfl rfl) hI) ?_
  refine AXo.go (f := 0) hev (d_geI rfl rfl) ?_
  refine AXo.go (f := 0) hev (d_assign rfl) ?_
  refine AXo.nil ?_
  refine AX.ret ?_
  exact ⟨_, .inl rfl⟩

theorem ixA_at {m : Int} {ev : CallF} (hev : CallOk (cf m) ev) (l : List Tree) (hl : l.length ≤ 4194304) (hf : ∀ e ∈ l, ∃ nm k s o a, e = .agg [.str nm, .int .u8 k, .str s, .sl o, .sl a]) (g : FuncId) (q : Tree → Bool) (hq : ∀ e ∈ l, ev g [.t e] [] = some (.ret (.t (.bool (q e))) [] [])) :
    ∃ r : Int, CallRel (cf m) 99 [.t (.sl l), .t (.fn (.func g))] [] (.ret (.t (.int .i64 r)) [] []) := by
  refine AX.start 19 2 Tryz.func99 rfl (by decide) rfl rfl (by decide) ?_
  refine AX.seq ?_
  refine AX.region ?_
  refine AXo.go (f := 0) hev (d_assign rfl) ?_
  refine AXo.nil ?_
  refine AX.seq ?_
  refine AX.seq ?_
  refine AX.region ?_
  refine AXo.go (f := 0) hev (d_move rfl) ?_
  refine AXo.go (f := 0) hev ((by first | exact d_lenT rfl ty31 rfl | exact d_lenR rfl ty31 rfl | exact d_lenN rfl ty31 rfl | exact d_lenG rfl ty31 rfl)) ?_
  refine AXo.go (f := 0) hev (d_move rfl) ?_
  refine AXo.nil ?_
  refine AX.block ?_
  refine AX.loop (α := Nat) (fun i => ⟨frm 19 [(0, .t (.sl l)), (1, .t (.fn (.func g))), (7, .t (.int .i64 l.length)), (8, .t (.int .i64 i))], [], 0⟩) (fun i => i ≤ l.length) (fun i => l.length - i) 0 (Re.sq [] ⟨rfl, rfl, rfl, rfl, trivial⟩ trivial (by decide) rfl rfl (by decide)) (Nat.zero_le _) (fun i hok => ?_)
  replace hok : i ≤ l.length := hok
  refine AX.seq ?_
  refine AX.region ?_
  refine AXo.go (f := 0) hev (d_ltI rfl rfl) ?_
  refine AXo.nil ?_
  refine AX.seq ?_
  refine AX.cond rfl (fun h9 => ?_) (fun h9 => ?_)
  · have hlt : i < l.length := by have := of_decide_eq_true h9; omega
    obtain ⟨e, he⟩ : ∃ e, l[i]? = some e := ⟨l[i], List.getElem?_eq_getElem hlt⟩
    obtain ⟨nm, k, s, o, a, rfl⟩ := hf e (List.mem_of_getElem? he)
    refine AX.skip ?_
    refine AX.seq ?_
    refine AX.block ?_
    refine AX.seq ?_
    refine AX.region ?_
    refine AXo.go (f := 0) hev (d_move rfl) ?_
    refine AXo.go (f := 0) hev (d_assign rfl) ?_
    refine AXo.nil ?_
    refine AX.seq ?_
    refine AX.region ?_
    refine AXo.go (f := 0) hev (d_move rfl) ?_
    refine AXo.go (f := 0) hev (d_move rfl) ?_
    refine AXo.go (f := 0) hev (d_move rfl) ?_
    refine AXo.go (f := 0) hev (d_indexT rfl rfl ty31 rfl ty45 he rfl) ?_
    refine AXo.go (f := 0) hev ((by first | exact d_loadT rfl (ld ty45 rfl rfl) | exact d_load rfl (ld ty45 rfl rfl))) ?_
    refine AXo.go (f := 0) hev (d_callV rfl (rh1 rfl) (hq _ (List.mem_of_getElem? he))) ?_
    refine AXo.nil ?_
    refine AX.cond rfl (fun h16 => ?_) (fun h16 => ?_)
    · skip
      refine AX.seq ?_
      refine AX.region ?_
      refine AXo.go (f := 0) hev (d_move rfl) ?_
      refine AXo.go (f := 0) hev (d_assign rfl) ?_
      refine AXo.nil ?_
      refine AX.ret ?_
      refine AX.outRet ?_
      refine AX.thenRet ?_
      refine AX.leave (e := .ret) (by simp) ?_
      refine AX.outRet ?_
      refine AX.thenRet ?_
      exact ⟨_, .inl rfl⟩
    · skip
      refine AX.skip ?_
      refine AX.outNormal ?_
      refine AX.region ?_
      refine AXo.go (f := 0) hev (d_add64 rfl rfl (by omega) (by omega)) ?_
      refine AXo.go (f := 0) hev (d_move rfl) ?_
      refine AXo.nil ?_
      exact ⟨.inl ⟨i + 1, by show i + 1 ≤ _ ∧ l.length - (i + 1) < l.length - i; omega⟩, rfl, (Re.sq [] ⟨rfl, rfl, rfl, rfl, trivial⟩ trivial (by decide) rfl rfl (by decide))⟩
  · skip
    refine AX.exit ?_
    refine AX.thenExit ?_
    refine AX.leave (e := .exit 0) (by simp) ?_
    refine AX.outHere ?_
    refine AX.seq ?_
    refine AX.region ?_
    refine AXo.go (f := 0) hev (d_assign rfl) ?_
    refine AXo.nil ?_
    refine AX.ret ?_
    exact ⟨_, .inl rfl⟩

theorem cfA_at {m : Int} {ev : CallF} (hev : CallOk (cf m) ev) (x y : Tree) (z : Int) (hI : ev 99 [.t x, .t y] [] = some (.ret (.t (.int .i64 z)) [] [])) :
    ∃ r : Bool, CallRel (cf m) 81 [.t x, .t y] [] (.ret (.t (.bool r)) [] []) := by
  refine AX.start 9 2 Tryz.func81 rfl (by decide) rfl rfl (by decide) ?_
  refine AX.seq ?_
  refine AX.region ?_
  refine AXo.go (f := 0) hev (d_assign rfl) ?_
  refine AXo.nil ?_
  refine AX.seq ?_
  refine AX.region ?_
  refine AXo.go (f := 0) hev (d_move rfl) ?_
  refine AXo.go (f := 0) hev (d_move rfl) ?_
  refine AXo.go (f := 0) hev (d_callT (rh2 rfl rfl) hI) ?_
  refine AXo.go (f := 0) hev (d_geI rfl rfl) ?_
  refine AXo.go (f := 0) hev (d_assign rfl) ?_
  refine AXo.nil ?_
  refine AX.ret ?_
  exact ⟨_, .inl rfl⟩

theorem idS_at {m : Int} {ev : CallF} (hev : CallOk (cf m) ev) (l : List Tree) (hl : l.length ≤ 4194304) (hf : ∀ e ∈ l, ∃ u, e = .str u) (v : List UInt8) :
    ∃ r : Int, CallRel (cf m) 108 [.t (.sl l), .t (.str v)] [] (.ret (.t (.int .i64 r)) [] []) := by
  refine AX.start 19 2 Tryz.func108 rfl (by decide) rfl rfl (by decide) ?_
  refine AX.seq ?_
  refine AX.region ?_
  refine AXo.go (f := 0) hev (d_assign rfl) ?_
  refine AXo.nil ?_
  refine AX.seq ?_
  refine AX.seq ?_
  refine AX.region ?_
  refine AXo.go (f := 0) hev (d_move rfl) ?_
  refine AXo.go (f := 0) hev ((by first | exact d_lenT rfl ty23 rfl | exact d_lenR rfl ty23 rfl | exact d_lenN rfl ty23 rfl | exact d_lenG rfl ty23 rfl)) ?_
  refine AXo.go (f := 0) hev (d_move rfl) ?_
  refine AXo.nil ?_
  refine AX.block ?_
  refine AX.loop (α := Nat) (fun i => ⟨frm 19 [(0, .t (.sl l)), (1, .t (.str v)), (7, .t (.int .i64 l.length)), (8, .t (.int .i64 i))], [], 0⟩) (fun i => i ≤ l.length) (fun i => l.length - i) 0 (Re.sq [] ⟨rfl, rfl, rfl, rfl, trivial⟩ trivial (by decide) rfl rfl (by decide)) (Nat.zero_le _) (fun i hok => ?_)
  replace hok : i ≤ l.length := hok
  refine AX.seq ?_
  refine AX.region ?_
  refine AXo.go (f := 0) hev (d_ltI rfl rfl) ?_
  refine AXo.nil ?_
  refine AX.seq ?_
  refine AX.cond rfl (fun h9 => ?_) (fun h9 => ?_)
  · have hlt : i < l.length := by have := of_decide_eq_true h9; omega
    obtain ⟨e, he⟩ : ∃ e, l[i]? = some e := ⟨l[i], List.getElem?_eq_getElem hlt⟩
    obtain ⟨u, rfl⟩ := hf e (List.mem_of_getElem? he)
    refine AX.skip ?_
    refine AX.seq ?_
    refine AX.block ?_
    refine AX.seq ?_
    refine AX.region ?_
    refine AXo.go (f := 0) hev (d_move rfl) ?_
    refine AXo.go (f := 0) hev (d_assign rfl) ?_
    refine AXo.nil ?_
    refine AX.seq ?_
    refine AX.region ?_
    refine AXo.go (f := 0) hev (d_move rfl) ?_
    refine AXo.go (f := 0) hev (d_move rfl) ?_
    refine AXo.go (f := 0) hev (d_move rfl) ?_
    refine AXo.go (f := 0) hev (d_indexT rfl rfl ty23 rfl ty9 he rfl) ?_
    refine AXo.go (f := 0) hev ((by first | exact d_loadT rfl (ld ty9 rfl rfl) | exact d_load rfl (ld ty9 rfl rfl))) ?_
    refine AXo.go (f := 0) hev (d_eqS rfl rfl) ?_
    refine AXo.nil ?_
    refine AX.cond rfl (fun h16 => ?_) (fun h16 => ?_)
    · skip
      refine AX.seq ?_
      refine AX.region ?_
      refine AXo.go (f := 0) hev (d_move rfl) ?_
      refine AXo.go (f := 0) hev (d_assign rfl) ?_
      refine AXo.nil ?_
      refine AX.ret ?_
      refine AX.outRet ?_
      refine AX.thenRet ?_
      refine AX.leave (e := .ret) (by simp) ?_
      refine AX.outRet ?_
      refine AX.thenRet ?_
      exact ⟨_, .inl rfl⟩
    · skip
      refine AX.skip ?_
      refine AX.outNormal ?_
      refine AX.region ?_
      refine AXo.go (f := 0) hev (d_add64 rfl rfl (by omega) (by omega)) ?_
      refine AXo.go (f := 0) hev (d_move rfl) ?_
      refine AXo.nil ?_
      exact ⟨.inl ⟨i + 1, by show i + 1 ≤ _ ∧ l.length - (i + 1) < l.length - i; omega⟩, rfl, (Re.sq [] ⟨rfl, rfl, rfl, rfl, trivial⟩ trivial (by decide) rfl rfl (by decide))⟩
  · skip
    refine AX.exit ?_
    refine AX.thenExit ?_
    refine AX.leave (e := .exit 0) (by simp) ?_
    refine AX.outHere ?_
    refine AX.seq ?_
    refine AX.region ?_
    refine AXo.go (f := 0) hev (d_assign rfl) ?_
    refine AXo.nil ?_
    refine AX.ret ?_
    exact ⟨_, .inl rfl⟩

theorem ctS_at {m : Int} {ev : CallF} (hev : CallOk (cf m) ev) (x y : Tree) (z : Int) (hI : ev 108 [.t x, .t y] [] = some (.ret (.t (.int .i64 z)) [] [])) :
    ∃ r : Bool, CallRel (cf m) 69 [.t x, .t y] [] (.ret (.t (.bool r)) [] []) := by
  refine AX.start 9 2 Tryz.func69 rfl (by decide) rfl rfl (by decide) ?_
  refine AX.seq ?_
  refine AX.region ?_
  refine AXo.go (f := 0) hev (d_assign rfl) ?_
  refine AXo.nil ?_
  refine AX.seq ?_
  refine AX.region ?_
  refine AXo.go (f := 0) hev (d_move rfl) ?_
  refine AXo.go (f := 0) hev (d_move rfl) ?_
  refine AXo.go (f := 0) hev (d_callT (rh2 rfl rfl) hI) ?_
  refine AXo.go (f := 0) hev (d_geI rfl rfl) ?_
  refine AXo.go (f := 0) hev (d_assign rfl) ?_
  refine AXo.nil ?_
  refine AX.ret ?_
  exact ⟨_, .inl rfl⟩

theorem ne_cons {s : List UInt8} (h : (s == []) = false) : ∃ b s', s = b :: s' := by
  cases s with
  | nil => simp at h
  | cons b s' => exact ⟨b, s', rfl⟩

theorem name_at {m : Int} {ev : CallF} (hev : CallOk (cf m) ev) (dg : Int → Bool) (cw nb : List UInt8 → Bool) (hF : ev 70 [.t (.str text2)] [] = some (.ret (.t (.sl (words2.map .str))) [] [])) (hD : ∀ n, ev 139 [.t (.int .u8 n)] [] = some (.ret (.t (.bool (dg n))) [] []))
    (hC : ∀ s, ev 69 [.t (.sl (words2.map .str)), .t (.str s)] [] = some (.ret (.t (.bool (cw s))) [] [])) (hB : ∀ s : List UInt8, s.length ≤ 64 → ev 140 [.t (.sl (s.map fun b => .int .u8 b.toNat)), .t (.fn (.func 141))] [] = some (.ret (.t (.bool (nb s))) [] [])) (s : List UInt8) :
    ∃ r : Bool, CallRel (cf m) 107 [.t (.str s)] [] (.ret (.t (.bool r)) [] []) := by
  refine AX.start 26 1 Tryz.func107 rfl (by decide) rfl rfl (by decide) ?_
  refine AX.seq ?_
  refine AX.region ?_
  refine AXo.go (f := 0) hev (d_assign rfl) ?_
  refine AXo.nil ?_
  refine AX.seq ?_
  refine AX.region ?_
  refine AXo.go (f := 0) hev (d_callT (rh1 rfl) hF) ?_
  refine AXo.go (f := 0) hev (d_assign rfl) ?_
  refine AXo.nil ?_
  refine AX.seq ?_
  refine AX.seq ?_
  refine AX.region ?_
  refine AXo.go (f := 0) hev (d_move rfl) ?_
  refine AXo.go (f := 0) hev (d_eqS rfl rfl) ?_
  refine AXo.go (f := 0) hev (d_move rfl) ?_
  refine AXo.split 7 rfl (fun hg7 => ?_) (fun hg7 => ?_)
  · skip
    refine AXo.no rfl rfl rfl (beqTF hg7) ?_
    refine AXo.no rfl rfl rfl (beqTF hg7) ?_
    refine AXo.no rfl rfl rfl (beqTF hg7) ?_
    refine AXo.go (f := 0) hev (d_pickT rfl hg7 rfl rfl) ?_
    refine AXo.go (f := 0) hev (d_move rfl) ?_
    refine AXo.no rfl rfl rfl (beqTF rfl) ?_
    refine AXo.no rfl rfl rfl (beqTF rfl) ?_
    refine AXo.no rfl rfl rfl (beqTF rfl) ?_
    refine AXo.go (f := 0) hev (d_pickT rfl rfl rfl rfl) ?_
    refine AXo.go (f := 0) hev (d_move rfl) ?_
    refine AXo.no rfl rfl rfl (beqTF rfl) ?_
    refine AXo.no rfl rfl rfl (beqTF rfl) ?_
    refine AXo.no rfl rfl rfl (beqTF rfl) ?_
    refine AXo.go (f := 0) hev (d_pickT rfl rfl rfl rfl) ?_
    refine AXo.nil ?_
    refine AX.condT rfl rfl ?_
    refine AX.seq ?_
    refine AX.region ?_
    refine AXo.go (f := 0) hev (d_assign rfl) ?_
    refine AXo.nil ?_
    refine AX.ret ?_
    refine AX.thenRet ?_
    exact ⟨_, .inl rfl⟩
  · obtain ⟨b, s', rfl⟩ := ne_cons hg7
    refine AXo.yes (f := 0) hev rfl rfl rfl (beqFF hg7) (d_move rfl) ?_
    refine AXo.yes (f := 0) hev rfl rfl rfl (beqFF hg7) (d_lenS rfl ty9 rfl) ?_
    refine AXo.yes (f := 0) hev rfl rfl rfl (beqFF hg7) (d_gtI rfl rfl) ?_
    refine AXo.go (f := 0) hev (d_pickF rfl hg7 rfl rfl) ?_
    refine AXo.go (f := 0) hev (d_move rfl) ?_
    refine AXo.split 12 rfl (fun hg12 => ?_) (fun hg12 => ?_)
    · skip
      refine AXo.no rfl rfl rfl (beqTF hg12) ?_
      refine AXo.no rfl rfl rfl (beqTF hg12) ?_
      refine AXo.no rfl rfl rfl (beqTF hg12) ?_
      refine AXo.go (f := 0) hev (d_pickT rfl hg12 rfl rfl) ?_
      refine AXo.go (f := 0) hev (d_move rfl) ?_
      refine AXo.no rfl rfl rfl (beqTF rfl) ?_
      refine AXo.no rfl rfl rfl (beqTF rfl) ?_
      refine AXo.no rfl rfl rfl (beqTF rfl) ?_
      refine AXo.go (f := 0) hev (d_pickT rfl rfl rfl rfl) ?_
      refine AXo.nil ?_
      refine AX.condT rfl rfl ?_
      refine AX.seq ?_
      refine AX.region ?_
      refine AXo.go (f := 0) hev (d_assign rfl) ?_
      refine AXo.nil ?_
      refine AX.ret ?_
      refine AX.thenRet ?_
      exact ⟨_, .inl rfl⟩
    · have h64 : (b :: s').length ≤ 64 := by have := of_decide_eq_false hg12; omega
      refine AXo.yes (f := 0) hev rfl rfl rfl (beqFF hg12) (d_move rfl) ?_
      refine AXo.yes (f := 0) hev rfl rfl rfl (beqFF hg12) (d_byte rfl rfl ty9 rfl rfl) ?_
      refine AXo.yes (f := 0) hev rfl rfl rfl (beqFF hg12) (d_callT (rh1 rfl) (hD _)) ?_
      refine AXo.go (f := 0) hev (d_pickF rfl hg12 rfl rfl) ?_
      refine AXo.go (f := 0) hev (d_move rfl) ?_
      refine AXo.split 17 rfl (fun hg17 => ?_) (fun hg17 => ?_)
      · skip
        refine AXo.no rfl rfl rfl (beqTF hg17) ?_
        refine AXo.no rfl rfl rfl (beqTF hg17) ?_
        refine AXo.no rfl rfl rfl (beqTF hg17) ?_
        refine AXo.go (f := 0) hev (d_pickT rfl hg17 rfl rfl) ?_
        refine AXo.nil ?_
        refine AX.condT rfl rfl ?_
        refine AX.seq ?_
        refine AX.region ?_
        refine AXo.go (f := 0) hev (d_assign rfl) ?_
        refine AXo.nil ?_
        refine AX.ret ?_
        refine AX.thenRet ?_
        exact ⟨_, .inl rfl⟩
      · skip
        refine AXo.yes (f := 0) hev rfl rfl rfl (beqFF hg17) (d_move rfl) ?_
        refine AXo.yes (f := 0) hev rfl rfl rfl (beqFF hg17) (d_move rfl) ?_
        refine AXo.yes (f := 0) hev rfl rfl rfl (beqFF hg17) (d_callT (rh2 rfl rfl) (hC _)) ?_
        refine AXo.go (f := 0) hev (d_pickF rfl hg17 rfl rfl) ?_
        refine AXo.nil ?_
        refine AX.cond rfl (fun h21 => ?_) (fun h21 => ?_)
        · skip
          refine AX.seq ?_
          refine AX.region ?_
          refine AXo.go (f := 0) hev (d_assign rfl) ?_
          refine AXo.nil ?_
          refine AX.ret ?_
          refine AX.thenRet ?_
          exact ⟨_, .inl rfl⟩
        · skip
          refine AX.skip ?_
          refine AX.seq ?_
          refine AX.region ?_
          refine AXo.go (f := 0) hev (d_move rfl) ?_
          refine AXo.go (f := 0) hev (d_bytes rfl rfl ty9 rfl ty204 rfl ty5 rfl) ?_
          refine AXo.go (f := 0) hev (d_callT (rh2 rfl rfl) (hB _ h64)) ?_
          refine AXo.go (f := 0) hev (d_not rfl) ?_
          refine AXo.go (f := 0) hev (d_assign rfl) ?_
          refine AXo.nil ?_
          refine AX.ret ?_
          exact ⟨_, .inl rfl⟩

theorem typeName1_at {m : Int} {ev : CallF} (hev : CallOk (cf m) ev) (nm : List UInt8 → Bool) (hN : ∀ s, ev 107 [.t (.str s)] [] = some (.ret (.t (.bool (nm s))) [] [])) (s : List UInt8) :
    ∃ r : Bool, CallRel (cf m) 106 [.t (.str s)] [] (.ret (.t (.bool r)) [] []) := by
  refine AX.start 6 1 Tryz.func106 rfl (by decide) rfl rfl (by decide) ?_
  refine AX.seq ?_
  refine AX.region ?_
  refine AXo.go (f := 0) hev (d_assign rfl) ?_
  refine AXo.nil ?_
  refine AX.seq ?_
  refine AX.region ?_
  refine AXo.go (f := 0) hev (d_move rfl) ?_
  refine AXo.go (f := 0) hev (d_callT (rh1 rfl) (hN _)) ?_
  refine AXo.go (f := 0) hev (d_not rfl) ?_
  refine AXo.go (f := 0) hev (d_assign rfl) ?_
  refine AXo.nil ?_
  refine AX.ret ?_
  exact ⟨_, .inl rfl⟩

theorem typeName_at {m : Int} {ev : CallF} (hev : CallOk (cf m) ev) (pc : List UInt8 → List (List UInt8)) (ct : List UInt8 → Bool) (hS : ∀ s : List UInt8, s.length ≤ 64 → ev 105 [.t (.str s), .t (.str [58, 58])] [] = some (.ret (.t (.sl ((pc s).map .str))) [] []))
    (hC : ∀ s : List UInt8, s.length ≤ 64 → ev 77 [.t (.sl ((pc s).map .str)), .t (.fn (.func 106))] [] = some (.ret (.t (.bool (ct s))) [] [])) (s : List UInt8) :
    ∃ r : Bool, CallRel (cf m) 68 [.t (.str s)] [] (.ret (.t (.bool r)) [] []) := by
  refine AX.start 12 1 Tryz.func68 rfl (by decide) rfl rfl (by decide) ?_
  refine AX.seq ?_
  refine AX.region ?_
  refine AXo.go (f := 0) hev (d_assign rfl) ?_
  refine AXo.nil ?_
  refine AX.seq ?_
  refine AX.region ?_
  refine AXo.go (f := 0) hev (d_move rfl) ?_
  refine AXo.go (f := 0) hev (d_lenS rfl ty9 rfl) ?_
  refine AXo.go (f := 0) hev (d_leI rfl rfl) ?_
  refine AXo.go (f := 0) hev (d_move rfl) ?_
  refine AXo.split 6 rfl (fun hg6 => ?_) (fun hg6 => ?_)
  · have h64 : s.length ≤ 64 := by have := of_decide_eq_true hg6; omega
    refine AXo.yes (f := 0) hev rfl rfl rfl (beqTT hg6) (d_move rfl) ?_
    refine AXo.yes (f := 0) hev rfl rfl rfl (beqTT hg6) (d_callT (rh2 rfl rfl) (hS _ h64)) ?_
    refine AXo.yes (f := 0) hev rfl rfl rfl (beqTT hg6) (d_callT (rh2 rfl rfl) (hC _ h64)) ?_
    refine AXo.yes (f := 0) hev rfl rfl rfl (beqTT hg6) (d_not rfl) ?_
    refine AXo.go (f := 0) hev (d_pickT rfl hg6 rfl rfl) ?_
    refine AXo.go (f := 0) hev (d_assign rfl) ?_
    refine AXo.nil ?_
    refine AX.ret ?_
    exact ⟨_, .inl rfl⟩
  · skip
    refine AXo.no rfl rfl rfl (beqFT hg6) ?_
    refine AXo.no rfl rfl rfl (beqFT hg6) ?_
    refine AXo.no rfl rfl rfl (beqFT hg6) ?_
    refine AXo.no rfl rfl rfl (beqFT hg6) ?_
    refine AXo.go (f := 0) hev (d_pickF rfl hg6 rfl rfl) ?_
    refine AXo.go (f := 0) hev (d_assign rfl) ?_
    refine AXo.nil ?_
    refine AX.ret ?_
    exact ⟨_, .inl rfl⟩

theorem label_at {m : Int} {ev : CallF} (hev : CallOk (cf m) ev) (va : List UInt8 → Bool) (hV : ∀ s, ev 29 [.t (.str s)] [] = some (.ret (.t (.bool (va s))) [] [])) (s : List UInt8) :
    ∃ r : Bool, CallRel (cf m) 83 [.t (.str s)] [] (.ret (.t (.bool r)) [] []) := by
  refine AX.start 14 1 Tryz.func83 rfl (by decide) rfl rfl (by decide) ?_
  refine AX.seq ?_
  refine AX.region ?_
  refine AXo.go (f := 0) hev (d_assign rfl) ?_
  refine AXo.nil ?_
  refine AX.seq ?_
  refine AX.region ?_
  refine AXo.go (f := 0) hev (d_move rfl) ?_
  refine AXo.go (f := 0) hev (d_neS rfl rfl) ?_
  refine AXo.go (f := 0) hev (d_move rfl) ?_
  refine AXo.split 5 rfl (fun hg5 => ?_) (fun hg5 => ?_)
  · skip
    refine AXo.yes (f := 0) hev rfl rfl rfl (beqTT hg5) (d_move rfl) ?_
    refine AXo.yes (f := 0) hev rfl rfl rfl (beqTT hg5) (d_lenS rfl ty9 rfl) ?_
    refine AXo.yes (f := 0) hev rfl rfl rfl (beqTT hg5) (d_leI rfl rfl) ?_
    refine AXo.go (f := 0) hev (d_pickT rfl hg5 rfl rfl) ?_
    refine AXo.go (f := 0) hev (d_move rfl) ?_
    refine AXo.split 10 rfl (fun hg10 => ?_) (fun hg10 => ?_)
    · skip
      refine AXo.yes (f := 0) hev rfl rfl rfl (beqTT hg10) (d_move rfl) ?_
      refine AXo.yes (f := 0) hev rfl rfl rfl (beqTT hg10) (d_callT (rh1 rfl) (hV _)) ?_
      refine AXo.go (f := 0) hev (d_pickT rfl hg10 rfl rfl) ?_
      refine AXo.go (f := 0) hev (d_assign rfl) ?_
      refine AXo.nil ?_
      refine AX.ret ?_
      exact ⟨_, .inl rfl⟩
    · skip
      refine AXo.no rfl rfl rfl (beqFT hg10) ?_
      refine AXo.no rfl rfl rfl (beqFT hg10) ?_
      refine AXo.go (f := 0) hev (d_pickF rfl hg10 rfl rfl) ?_
      refine AXo.go (f := 0) hev (d_assign rfl) ?_
      refine AXo.nil ?_
      refine AX.ret ?_
      exact ⟨_, .inl rfl⟩
  · skip
    refine AXo.no rfl rfl rfl (beqFT hg5) ?_
    refine AXo.no rfl rfl rfl (beqFT hg5) ?_
    refine AXo.no rfl rfl rfl (beqFT hg5) ?_
    refine AXo.go (f := 0) hev (d_pickF rfl hg5 rfl rfl) ?_
    refine AXo.go (f := 0) hev (d_move rfl) ?_
    refine AXo.no rfl rfl rfl (beqFT rfl) ?_
    refine AXo.no rfl rfl rfl (beqFT rfl) ?_
    refine AXo.go (f := 0) hev (d_pickF rfl rfl rfl rfl) ?_
    refine AXo.go (f := 0) hev (d_assign rfl) ?_
    refine AXo.nil ?_
    refine AX.ret ?_
    exact ⟨_, .inl rfl⟩

theorem size1_at {m : Int} {ev : CallF} (hev : CallOk (cf m) ev) (la : List UInt8 → Bool) (hLb : ∀ s, ev 83 [.t (.str s)] [] = some (.ret (.t (.bool (la s))) [] [])) (nm s : List UInt8) (k : Int) (o a : List Tree) :
    ∃ r : Bool, CallRel (cf m) 82 [.t (.agg [.str nm, .int .u8 k, .str s, .sl o, .sl a])] [] (.ret (.t (.bool r)) [] []) := by
  refine AX.start 7 1 Tryz.func82 rfl (by decide) rfl rfl (by decide) ?_
  refine AX.seq ?_
  refine AX.region ?_
  refine AXo.go (f := 0) hev (d_box rfl rfl) ?_
  refine AXo.go (f := 0) hev (d_assign rfl) ?_
  refine AXo.nil ?_
  refine AX.seq ?_
  refine AX.region ?_
  refine AXo.go (f := 0) hev (d_fieldAddr rfl fo45_0 rfl) ?_
  refine AXo.go (f := 0) hev ((by first | exact d_loadT rfl (ld ty9 rfl rfl) | exact d_load rfl (ld ty9 rfl rfl))) ?_
  refine AXo.go (f := 0) hev (d_callT (rh1 rfl) (hLb _)) ?_
  refine AXo.go (f := 0) hev (d_not rfl) ?_
  refine AXo.go (f := 0) hev (d_assign rfl) ?_
  refine AXo.nil ?_
  refine AX.ret ?_
  exact ⟨_, .inl rfl⟩

theorem nameOf_at {m : Int} {ev : CallF} (hev : CallOk (cf m) ev) (nm s : List UInt8) (k : Int) (o a : List Tree) :
    ∃ r : List UInt8, CallRel (cf m) 80 [.t (.agg [.str nm, .int .u8 k, .str s, .sl o, .sl a])] [] (.ret (.t (.str r)) [] []) := by
  refine AX.start 5 1 Tryz.func80 rfl (by decide) rfl rfl (by decide) ?_
  refine AX.seq ?_
  refine AX.region ?_
  refine AXo.go (f := 0) hev (d_box rfl rfl) ?_
  refine AXo.go (f := 0) hev (d_assign rfl) ?_
  refine AXo.nil ?_
  refine AX.seq ?_
  refine AX.region ?_
  refine AXo.go (f := 0) hev (d_fieldAddr rfl fo45_0 rfl) ?_
  refine AXo.go (f := 0) hev ((by first | exact d_loadT rfl (ld ty9 rfl rfl) | exact d_load rfl (ld ty9 rfl rfl))) ?_
  refine AXo.go (f := 0) hev (d_assign rfl) ?_
  refine AXo.nil ?_
  refine AX.ret ?_
  exact ⟨_, .inl rfl⟩

theorem rising_at {m : Int} {ev : CallF} (hev : CallOk (cf m) ev) (l : List Tree) (hl : l.length ≤ 4194304) (hf : ∀ e ∈ l, ∃ nm k s o a, e = .agg [.str nm, .int .u8 k, .str s, .sl o, .sl a]) (g : FuncId) (q : Tree → List UInt8) (hq : ∀ e ∈ l, ev g [.t e] [] = some (.ret (.t (.str (q e))) [] [])) :
    ∃ r : Bool, CallRel (cf m) 79 [.t (.sl l), .t (.fn (.func g))] [] (.ret (.t (.bool r)) [] []) := by
  refine AX.start 26 2 Tryz.func79 rfl (by decide) rfl rfl (by decide) ?_
  refine AX.seq ?_
  refine AX.region ?_
  refine AXo.go (f := 0) hev (d_assign rfl) ?_
  refine AXo.nil ?_
  refine AX.seq ?_
  refine AX.seq ?_
  refine AX.region ?_
  refine AXo.go (f := 0) hev (d_assign rfl) ?_
  refine AXo.nil ?_
  refine AX.block ?_
  refine AX.loop (α := Nat) (fun j => ⟨frm 26 [(0, .t (.sl l)), (1, .t (.fn (.func g))), (5, .t (.int .i64 ((j + 1 : Nat) : Int)))], [], 0⟩) (fun j => j ≤ l.length) (fun j => l.length - j) 0 (Re.sq [] ⟨rfl, rfl, rfl, trivial⟩ trivial (by decide) rfl rfl (by decide)) (Nat.zero_le _) (fun j hok => ?_)
  replace hok : j ≤ l.length := hok
  refine AX.seq ?_
  refine AX.seq ?_
  refine AX.region ?_
  refine AXo.go (f := 0) hev (d_move rfl) ?_
  refine AXo.go (f := 0) hev (d_move rfl) ?_
  refine AXo.go (f := 0) hev ((by first | exact d_lenT rfl ty31 rfl | exact d_lenR rfl ty31 rfl | exact d_lenN rfl ty31 rfl | exact d_lenG rfl ty31 rfl)) ?_
  refine AXo.go (f := 0) hev (d_ltI rfl rfl) ?_
  refine AXo.nil ?_
  refine AX.cond rfl (fun h9 => ?_) (fun h9 => ?_)
  · have hlt : j + 1 < l.length := by have := of_decide_eq_true h9; omega
    obtain ⟨e0, he0⟩ : ∃ e, l[j]? = some e := ⟨l[j], List.getElem?_eq_getElem (by omega)⟩
    obtain ⟨e1, he1⟩ : ∃ e, l[j + 1]? = some e := ⟨l[j + 1], List.getElem?_eq_getElem hlt⟩
    obtain ⟨n0, k0, s0, o0, a0, rfl⟩ := hf e0 (List.mem_of_getElem? he0)
    obtain ⟨n1, k1, s1, o1, a1, rfl⟩ := hf e1 (List.mem_of_getElem? he1)
    refine AX.skip ?_
    refine AX.seq ?_
    refine AX.block ?_
    refine AX.seq ?_
    refine AX.draw (f := 0) orders hev ?_
    refine AXd.go rfl (d_move rfl) ?_
    refine AXd.go rfl (d_move rfl) ?_
    refine AXd.go rfl (d_move rfl) ?_
    refine AXd.go rfl (d_pred rfl rfl (by omega)) ?_
    refine AXd.go rfl (d_indexT rfl rfl ty31 rfl ty45 he0 rfl) ?_
    refine AXd.go rfl ((by first | exact d_loadT rfl (ld ty45 rfl rfl) | exact d_load rfl (ld ty45 rfl rfl))) ?_
    refine AXd.go rfl (d_callV rfl (rh1 rfl) (hq _ (List.mem_of_getElem? he0))) ?_
    refine AXd.go rfl (d_move rfl) ?_
    refine AXd.go rfl (d_move rfl) ?_
    refine AXd.go rfl (d_move rfl) ?_
    refine AXd.go rfl (d_indexT rfl rfl ty31 rfl ty45 he1 rfl) ?_
    refine AXd.go rfl ((by first | exact d_loadT rfl (ld ty45 rfl rfl) | exact d_load rfl (ld ty45 rfl rfl))) ?_
    refine AXd.go rfl (d_callV rfl (rh1 rfl) (hq _ (List.mem_of_getElem? he1))) ?_
    refine AXd.go rfl (d_geS rfl rfl) ?_
    refine AXd.nil (ex_and2 rfl rfl ?_)
    refine AX.cond rfl (fun h25 => ?_) (fun h25 => ?_)
    · skip
      refine AX.seq ?_
      refine AX.region ?_
      refine AXo.go (f := 0) hev (d_assign rfl) ?_
      refine AXo.nil ?_
      refine AX.ret ?_
      refine AX.outRet ?_
      refine AX.thenRet ?_
      refine AX.leave (e := .ret) (by simp) ?_
      refine AX.outRet ?_
      refine AX.thenRet ?_
      exact ⟨_, .inl rfl⟩
    · skip
      refine AX.skip ?_
      refine AX.outNormal ?_
      refine AX.region ?_
      refine AXo.go (f := 0) hev (d_move rfl) ?_
      refine AXo.go (f := 0) hev (d_add64 rfl rfl (by omega) (by omega)) ?_
      refine AXo.go (f := 0) hev (d_assign rfl) ?_
      refine AXo.nil ?_
      exact ⟨.inl ⟨j + 1, by show j + 1 ≤ _ ∧ l.length - (j + 1) < l.length - j; omega⟩, rfl, (Re.sq [] ⟨rfl, rfl, rfl, trivial⟩ trivial (by decide) rfl rfl (by decide))⟩
  · skip
    refine AX.exit ?_
    refine AX.thenExit ?_
    refine AX.leave (e := .exit 0) (by simp) ?_
    refine AX.outHere ?_
    refine AX.seq ?_
    refine AX.region ?_
    refine AXo.go (f := 0) hev (d_assign rfl) ?_
    refine AXo.nil ?_
    refine AX.ret ?_
    exact ⟨_, .inl rfl⟩

theorem checkType_no {m : Int} {ev : CallF} (hev : CallOk (cf m) ev) (k : Int) (s : List UInt8) (os bs : List Tree) (dp : Int) (hz : ev 47 [.t (.agg [.int .u8 k, .str s, .sl os, .sl bs])] [] = some (.ret (.t (.tup [.int .i64 dp, .bool true])) [] [])) :
    ∃ r : Int, CallRel (cf m) 13 [.t (.agg [.int .u8 k, .str s, .sl os, .sl bs])] [] (.ret (.t (.int .i64 r)) [] []) := by
  refine AX.start 16 1 Tryz.func13 rfl (by decide) rfl rfl (by decide) ?_
  refine AX.seq ?_
  refine AX.region ?_
  refine AXo.go (f := 0) hev (d_box rfl rfl) ?_
  refine AXo.go (f := 0) hev (d_assign rfl) ?_
  refine AXo.nil ?_
  refine AX.seq ?_
  refine AX.region ?_
  refine AXo.go (f := 0) hev ((by first | exact d_loadT rfl (ld ty38 rfl rfl) | exact d_load rfl (ld ty38 rfl rfl))) ?_
  refine AXo.go (f := 0) hev (d_callT (rh1 rfl) hz) ?_
  refine AXo.go (f := 0) hev (d_move rfl) ?_
  refine AXo.go (f := 0) hev ((by first | exact d_extractT rfl rfl | exact d_extract rfl rfl)) ?_
  refine AXo.go (f := 0) hev ((by first | exact d_extractT rfl rfl | exact d_extract rfl rfl)) ?_
  refine AXo.go (f := 0) hev (d_assign rfl) ?_
  refine AXo.go (f := 0) hev (d_assign rfl) ?_
  refine AXo.nil ?_
  refine AX.seq ?_
  refine AX.block ?_
  refine AX.seq ?_
  refine AX.region ?_
  refine AXo.go (f := 0) hev (d_move rfl) ?_
  refine AXo.go (f := 0) hev (d_not rfl) ?_
  refine AXo.go (f := 0) hev (d_assign rfl) ?_
  refine AXo.nil ?_
  refine AX.cond rfl (fun h10 => ?_) (fun h10 => ?_)
  · skip
    refine AX.seq ?_
    refine AX.region ?_
    refine AXo.go (f := 0) hev (d_assign rfl) ?_
    refine AXo.nil ?_
    refine AX.ret ?_
    refine AX.outRet ?_
    refine AX.thenRet ?_
    exact ⟨_, .inl rfl⟩
  · skip
    refine AX.seq ?_
    refine AX.region ?_
    refine AXo.go (f := 0) hev (d_move rfl) ?_
    refine AXo.go (f := 0) hev (d_gtI rfl rfl) ?_
    refine AXo.go (f := 0) hev (d_assign rfl) ?_
    refine AXo.nil ?_
    refine AX.cond rfl (fun h13 => ?_) (fun h13 => ?_)
    · skip
      refine AX.seq ?_
      refine AX.region ?_
      refine AXo.go (f := 0) hev (d_assign rfl) ?_
      refine AXo.nil ?_
      refine AX.ret ?_
      refine AX.outRet ?_
      refine AX.thenRet ?_
      exact ⟨_, .inl rfl⟩
    · skip
      refine AX.skip ?_
      refine AX.outNormal ?_
      refine AX.seq ?_
      refine AX.region ?_
      refine AXo.go (f := 0) hev (d_assign rfl) ?_
      refine AXo.nil ?_
      refine AX.ret ?_
      exact ⟨_, .inl rfl⟩
end
end Go.Proofs.YtijfhoelihclbaaGreatDoor.w
