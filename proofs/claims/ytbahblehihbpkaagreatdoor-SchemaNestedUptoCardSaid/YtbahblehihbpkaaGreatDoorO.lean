/- More of it. -/
import Derived.Test.YtbahblehihbpkaaGreatDoorN
import Derived.Test.YtbahblehihbpkaaGreatDoorG
import Derived.Test.YtbahblehihbpkaaGreatDoorE
namespace Go.Proofs.YtbahblehihbpkaaGreatDoor.w
open Go Go.Abs
set_option linter.unusedVariables false
set_option maxRecDepth 100000
set_option maxHeartbeats 1000000
noncomputable section
abbrev ti78 : TI := { size := 1, bytes := 24, agg := false, zero := some (.nils), desc := .slice 5 }
theorem ty78 {m : Int} : (cf m).P.ty 78 = some ti78 := by kernel_rfl
theorem fo31_0 {m : Int} : fieldOff (cf m).P 31 0 = some 0 := by kernel_rfl

theorem digit_at {m : Int} {ev : CallF} (hev : CallOk (cf m) ev) (n : Int) : ∃ r : Bool, CallRel (cf m) 132 [.t (.int .u8 n)] [] (.ret (.t (.bool r)) [] []) := by
  refine AX.start 9 1 Tryz.func132 rfl (by decide) rfl rfl (by decide) ?_
  refine AX.seq ?_
  refine AX.region ?_
  refine AXo.go (f := 0) hev (d_assign rfl) ?_
  refine AXo.nil ?_
  refine AX.seq ?_
  refine AX.region ?_
  refine AXo.go (f := 0) hev (d_move rfl) ?_
  refine AXo.go (f := 0) hev (d_geI rfl rfl) ?_
  refine AXo.go (f := 0) hev (d_move rfl) ?_
  refine AXo.split 5 rfl (fun hg5 => ?_) (fun hg5 => ?_)
  · skip
    refine AXo.yes (f := 0) hev rfl rfl rfl (beqTT hg5) (d_move rfl) ?_
    refine AXo.yes (f := 0) hev rfl rfl rfl (beqTT hg5) (d_leI rfl rfl) ?_
    refine AXo.go (f := 0) hev (d_pickT rfl hg5 rfl rfl) ?_
    refine AXo.go (f := 0) hev (d_assign rfl) ?_
    refine AXo.nil ?_
    refine AX.ret ?_
    exact ⟨_, .inl rfl⟩
  · skip
    refine AXo.no rfl rfl rfl (beqFT hg5) ?_
    refine AXo.no rfl rfl rfl (beqFT hg5) ?_
    refine AXo.go (f := 0) hev (d_pickF rfl hg5 rfl rfl) ?_
    refine AXo.go (f := 0) hev (d_assign rfl) ?_
    refine AXo.nil ?_
    refine AX.ret ?_
    exact ⟨_, .inl rfl⟩

theorem letter_at {m : Int} {ev : CallF} (hev : CallOk (cf m) ev) (n : Int) : ∃ r : Bool, CallRel (cf m) 135 [.t (.int .u8 n)] [] (.ret (.t (.bool r)) [] []) := by
  refine AX.start 15 1 Tryz.func135 rfl (by decide) rfl rfl (by decide) ?_
  refine AX.seq ?_
  refine AX.region ?_
  refine AXo.go (f := 0) hev (d_assign rfl) ?_
  refine AXo.nil ?_
  refine AX.seq ?_
  refine AX.region ?_
  refine AXo.go (f := 0) hev (d_move rfl) ?_
  refine AXo.go (f := 0) hev (d_bin rfl rfl rfl) ?_
  refine AXo.go (f := 0) hev (d_geI rfl rfl) ?_
  refine AXo.go (f := 0) hev (d_move rfl) ?_
  refine AXo.split 6 rfl (fun hg6 => ?_) (fun hg6 => ?_)
  · skip
    refine AXo.yes (f := 0) hev rfl rfl rfl (beqTT hg6) (d_move rfl) ?_
    refine AXo.yes (f := 0) hev rfl rfl rfl (beqTT hg6) (d_bin rfl rfl rfl) ?_
    refine AXo.yes (f := 0) hev rfl rfl rfl (beqTT hg6) (d_leI rfl rfl) ?_
    refine AXo.go (f := 0) hev (d_pickT rfl hg6 rfl rfl) ?_
    refine AXo.go (f := 0) hev (d_move rfl) ?_
    refine AXo.split 11 rfl (fun hg11 => ?_) (fun hg11 => ?_)
    · skip
      refine AXo.no rfl rfl rfl (beqTF hg11) ?_
      refine AXo.no rfl rfl rfl (beqTF hg11) ?_
      refine AXo.go (f := 0) hev (d_pickT rfl hg11 rfl rfl) ?_
      refine AXo.go (f := 0) hev (d_assign rfl) ?_
      refine AXo.nil ?_
      refine AX.ret ?_
      exact ⟨_, .inl rfl⟩
    · skip
      refine AXo.yes (f := 0) hev rfl rfl rfl (beqFF hg11) (d_move rfl) ?_
      refine AXo.yes (f := 0) hev rfl rfl rfl (beqFF hg11) (d_eqI rfl rfl) ?_
      refine AXo.go (f := 0) hev (d_pickF rfl hg11 rfl rfl) ?_
      refine AXo.go (f := 0) hev (d_assign rfl) ?_
      refine AXo.nil ?_
      refine AX.ret ?_
      exact ⟨_, .inl rfl⟩
  · skip
    refine AXo.no rfl rfl rfl (beqFT hg6) ?_
    refine AXo.no rfl rfl rfl (beqFT hg6) ?_
    refine AXo.no rfl rfl rfl (beqFT hg6) ?_
    refine AXo.go (f := 0) hev (d_pickF rfl hg6 rfl rfl) ?_
    refine AXo.go (f := 0) hev (d_move rfl) ?_
    refine AXo.yes (f := 0) hev rfl rfl rfl (beqFF rfl) (d_move rfl) ?_
    refine AXo.yes (f := 0) hev rfl rfl rfl (beqFF rfl) (d_eqI rfl rfl) ?_
    refine AXo.go (f := 0) hev (d_pickF rfl rfl rfl rfl) ?_
    refine AXo.go (f := 0) hev (d_assign rfl) ?_
    refine AXo.nil ?_
    refine AX.ret ?_
    exact ⟨_, .inl rfl⟩

theorem name1_at {m : Int} {ev : CallF} (hev : CallOk (cf m) ev) (lt dg : Int → Bool) (hL : ∀ n, ev 135 [.t (.int .u8 n)] [] = some (.ret (.t (.bool (lt n))) [] [])) (hD : ∀ n, ev 132 [.t (.int .u8 n)] [] = some (.ret (.t (.bool (dg n))) [] [])) (n : Int) :
    ∃ r : Bool, CallRel (cf m) 134 [.t (.int .u8 n)] [] (.ret (.t (.bool r)) [] []) := by
  refine AX.start 11 1 Tryz.func134 rfl (by decide) rfl rfl (by decide) ?_
  refine AX.seq ?_
  refine AX.region ?_
  refine AXo.go (f := 0) hev (d_assign rfl) ?_
  refine AXo.nil ?_
  refine AX.seq ?_
  refine AX.region ?_
  refine AXo.go (f := 0) hev (d_move rfl) ?_
  refine AXo.go (f := 0) hev (d_callT (rh1 rfl) (hL _)) ?_
  refine AXo.go (f := 0) hev (d_not rfl) ?_
  refine AXo.go (f := 0) hev (d_move rfl) ?_
  refine AXo.split 6 rfl (fun hg6 => ?_) (fun hg6 => ?_)
  · skip
    refine AXo.yes (f := 0) hev rfl rfl rfl (beqTT hg6) (d_move rfl) ?_
    refine AXo.yes (f := 0) hev rfl rfl rfl (beqTT hg6) (d_callT (rh1 rfl) (hD _)) ?_
    refine AXo.yes (f := 0) hev rfl rfl rfl (beqTT hg6) (d_not rfl) ?_
    refine AXo.go (f := 0) hev (d_pickT rfl hg6 rfl rfl) ?_
    refine AXo.go (f := 0) hev (d_assign rfl) ?_
    refine AXo.nil ?_
    refine AX.ret ?_
    exact ⟨_, .inl rfl⟩
  · skip
    refine AXo.no rfl rfl rfl (beqFT hg6) ?_
    refine AXo.no rfl rfl rfl (beqFT hg6) ?_
    refine AXo.no rfl rfl rfl (beqFT hg6) ?_
    refine AXo.go (f := 0) hev (d_pickF rfl hg6 rfl rfl) ?_
    refine AXo.go (f := 0) hev (d_assign rfl) ?_
    refine AXo.nil ?_
    refine AX.ret ?_
    exact ⟨_, .inl rfl⟩

theorem ixB_at {m : Int} {ev : CallF} (hev : CallOk (cf m) ev) (l : List Tree) (hl : l.length ≤ 4194304) (hf : ∀ e ∈ l, ∃ n, e = .int .u8 n) (g : FuncId) (q : Tree → Bool) (hq : ∀ e ∈ l, ev g [.t e] [] = some (.ret (.t (.bool (q e))) [] [])) :
    ∃ r : Int, CallRel (cf m) 154 [.t (.sl l), .t (.fn (.func g))] [] (.ret (.t (.int .i64 r)) [] []) := by
  refine AX.start 19 2 Tryz.func154 rfl (by decide) rfl rfl (by decide) ?_
  refine AX.seq ?_
  refine AX.region ?_
  refine AXo.go (f := 0) hev (d_assign rfl) ?_
  refine AXo.nil ?_
  refine AX.seq ?_
  refine AX.seq ?_
  refine AX.region ?_
  refine AXo.go (f := 0) hev (d_move rfl) ?_
  refine AXo.go (f := 0) hev ((by first | exact d_lenT rfl ty78 rfl | exact d_lenR rfl ty78 rfl | exact d_lenN rfl ty78 rfl | exact d_lenG rfl ty78 rfl)) ?_
  refine AXo.go (f := 0) hev (d_move rfl) ?_
  refine AXo.nil ?_
  refine AX.block ?_
  refine AX.loop (α := Nat) (fun i => ⟨frm 19 [(0, .t (.sl l)), (1, .t (.fn (.func g))), (7, .t (.int .i64 l.length)), (8, .t (.int .i64 i))], [], 0⟩) (fun i => i ≤ l.length) (fun i => l.length - i) 0 (Re.sq [] ⟨rfl, rfl, rfl, rfl, trivial⟩ trivial (by decide) rfl rfl (by decide)) (Nat.zero_le _) (fun i hok => ?_)
  replace hok : i ≤ l.length := hok
  refine AX.seq ?_
  refine AX.region ?_
  refine AXo.go (f := 0) hev (d_ltI rfl rfl) ?_
  refine AXo.nil ?_
  refine AX.seq ?_
  refine AX.cond rfl (fun h9 => ?_) (fun h9 => ?_)
  · have hlt : i < l.length := by have := of_decide_eq_true h9; omega
    obtain ⟨e, he⟩ : ∃ e, l[i]? = some e := ⟨l[i], List.getElem?_eq_getElem hlt⟩
    obtain ⟨n, rfl⟩ := hf e (List.mem_of_getElem? he)
    refine AX.skip ?_
    refine AX.seq ?_
    refine AX.block ?_
    refine AX.seq ?_
    refine AX.region ?_
    refine AXo.go (f := 0) hev (d_move rfl) ?_
    refine AXo.go (f := 0) hev (d_assign rfl) ?_
    refine AXo.nil ?_
    refine AX.seq ?_
    refine AX.region ?_
    refine AXo.go (f := 0) hev (d_move rfl) ?_
    refine AXo.go (f := 0) hev (d_move rfl) ?_
    refine AXo.go (f := 0) hev (d_move rfl) ?_
    refine AXo.go (f := 0) hev (d_indexT rfl rfl ty78 rfl ty5 he rfl) ?_
    refine AXo.go (f := 0) hev ((by first | exact d_loadT rfl (ld ty5 rfl rfl) | exact d_load rfl (ld ty5 rfl rfl))) ?_
    refine AXo.go (f := 0) hev (d_callV rfl (rh1 rfl) (hq _ (List.mem_of_getElem? he))) ?_
    refine AXo.nil ?_
    refine AX.cond rfl (fun h16 => ?_) (fun h16 => ?_)
    · skip
      refine AX.seq ?_
      refine AX.region ?_
      refine AXo.go (f := 0) hev (d_move rfl) ?_
      refine AXo.go (f := 0) hev (d_assign rfl) ?_
      refine AXo.nil ?_
      refine AX.ret ?_
      refine AX.outRet ?_
      refine AX.thenRet ?_
      refine AX.leave (e := .ret) (by simp) ?_
      refine AX.outRet ?_
      refine AX.thenRet ?_
      exact ⟨_, .inl rfl⟩
    · skip
      refine AX.skip ?_
      refine AX.outNormal ?_
      refine AX.region ?_
      refine AXo.go (f := 0) hev (d_add64 rfl rfl (by omega) (by omega)) ?_
      refine AXo.go (f := 0) hev (d_move rfl) ?_
      refine AXo.nil ?_
      exact ⟨.inl ⟨i + 1, by show i + 1 ≤ _ ∧ l.length - (i + 1) < l.length - i; omega⟩, rfl, (Re.sq [] ⟨rfl, rfl, rfl, rfl, trivial⟩ trivial (by decide) rfl rfl (by decide))⟩
  · skip
    refine AX.exit ?_
    refine AX.thenExit ?_
    refine AX.leave (e := .exit 0) (by simp) ?_
    refine AX.outHere ?_
    refine AX.seq ?_
    refine AX.region ?_
    refine AXo.go (f := 0) hev (d_assign rfl) ?_
    refine AXo.nil ?_
    refine AX.ret ?_
    exact ⟨_, .inl rfl⟩

theorem cfB_at {m : Int} {ev : CallF} (hev : CallOk (cf m) ev) (x y : Tree) (z : Int) (hI : ev 154 [.t x, .t y] [] = some (.ret (.t (.int .i64 z)) [] [])) :
    ∃ r : Bool, CallRel (cf m) 133 [.t x, .t y] [] (.ret (.t (.bool r)) [] []) := by
  refine AX.start 9 2 Tryz.func133 rfl (by decide) rfl rfl (by decide) ?_
  refine AX.seq ?_
  refine AX.region ?_
  refine AXo.go (f := 0) hev (d_assign rfl) ?_
  refine AXo.nil ?_
  refine AX.seq ?_
  refine AX.region ?_
  refine AXo.go (f := 0) hev (d_move rfl) ?_
  refine AXo.go (f := 0) hev (d_move rfl) ?_
  refine AXo.go (f := 0) hev (d_callT (rh2 rfl rfl) hI) ?_
  refine AXo.go (f := 0) hev (d_geI rfl rfl) ?_
  refine AXo.go (f := 0) hev (d_assign rfl) ?_
  refine AXo.nil ?_
  refine AX.ret ?_
  exact ⟨_, .inl rfl⟩

theorem ixS_at {m : Int} {ev : CallF} (hev : CallOk (cf m) ev) (l : List Tree) (hl : l.length ≤ 4194304) (hf : ∀ e ∈ l, ∃ u, e = .str u) (g : FuncId) (q : Tree → Bool) (hq : ∀ e ∈ l, ev g [.t e] [] = some (.ret (.t (.bool (q e))) [] [])) :
    ∃ r : Int, CallRel (cf m) 130 [.t (.sl l), .t (.fn (.func g))] [] (.ret (.t (.int .i64 r)) [] []) := by
  refine AX.start 19 2 Tryz.func130 rfl (by decide) rfl rfl (by decide) ?_
  refine AX.seq ?_
  refine AX.region ?_
  refine AXo.go (f := 0) hev (d_assign rfl) ?_
  refine AXo.nil ?_
  refine AX.seq ?_
  refine AX.seq ?_
  refine AX.region ?_
  refine AXo.go (f := 0) hev (d_move rfl) ?_
  refine AXo.go (f := 0) hev ((by first | exact d_lenT rfl ty38 rfl | exact d_lenR rfl ty38 rfl | exact d_lenN rfl ty38 rfl | exact d_lenG rfl ty38 rfl)) ?_
  refine AXo.go (f := 0) hev (d_move rfl) ?_
  refine AXo.nil ?_
  refine AX.block ?_
  refine AX.loop (α := Nat) (fun i => ⟨frm 19 [(0, .t (.sl l)), (1, .t (.fn (.func g))), (7, .t (.int .i64 l.length)), (8, .t (.int .i64 i))], [], 0⟩) (fun i => i ≤ l.length) (fun i => l.length - i) 0 (Re.sq [] ⟨rfl, rfl, rfl, rfl, trivial⟩ trivial (by decide) rfl rfl (by decide)) (Nat.zero_le _) (fun i hok => ?_)
  replace hok : i ≤ l.length := hok
  refine AX.seq ?_
  refine AX.region ?_
  refine AXo.go (f := 0) hev (d_ltI rfl rfl) ?_
  refine AXo.nil ?_
  refine AX.seq ?_
  refine AX.cond rfl (fun h9 => ?_) (fun h9 => ?_)
  · have hlt : i < l.length := by have := of_decide_eq_true h9; omega
    obtain ⟨e, he⟩ : ∃ e, l[i]? = some e := ⟨l[i], List.getElem?_eq_getElem hlt⟩
    obtain ⟨u, rfl⟩ := hf e (List.mem_of_getElem? he)
    refine AX.skip ?_
    refine AX.seq ?_
    refine AX.block ?_
    refine AX.seq ?_
    refine AX.region ?_
    refine AXo.go (f := 0) hev (d_move rfl) ?_
    refine AXo.go (f := 0) hev (d_assign rfl) ?_
    refine AXo.nil ?_
    refine AX.seq ?_
    refine AX.region ?_
    refine AXo.go (f := 0) hev (d_move rfl) ?_
    refine AXo.go (f := 0) hev (d_move rfl) ?_
    refine AXo.go (f := 0) hev (d_move rfl) ?_
    refine AXo.go (f := 0) hev (d_indexT rfl rfl ty38 rfl ty9 he rfl) ?_
    refine AXo.go (f := 0) hev ((by first | exact d_loadT rfl (ld ty9 rfl rfl) | exact d_load rfl (ld ty9 rfl rfl))) ?_
    refine AXo.go (f := 0) hev (d_callV rfl (rh1 rfl) (hq _ (List.mem_of_getElem? he))) ?_
    refine AXo.nil ?_
    refine AX.cond rfl (fun h16 => ?_) (fun h16 => ?_)
    · skip
      refine AX.seq ?_
      refine AX.region ?_
      refine AXo.go (f := 0) hev (d_move rfl) ?_
      refine AXo.go (f := 0) hev (d_assign rfl) ?_
      refine AXo.nil ?_
      refine AX.ret ?_
      refine AX.outRet ?_
      refine AX.thenRet ?_
      refine AX.leave (e := .ret) (by simp) ?_
      refine AX.outRet ?_
      refine AX.thenRet ?_
      exact ⟨_, .inl rfl⟩
    · skip
      refine AX.skip ?_
      refine AX.outNormal ?_
      refine AX.region ?_
      refine AXo.go (f := 0) hev (d_add64 rfl rfl (by omega) (by omega)) ?_
      refine AXo.go (f := 0) hev (d_move rfl) ?_
      refine AXo.nil ?_
      exact ⟨.inl ⟨i + 1, by show i + 1 ≤ _ ∧ l.length - (i + 1) < l.length - i; omega⟩, rfl, (Re.sq [] ⟨rfl, rfl, rfl, rfl, trivial⟩ trivial (by decide) rfl rfl (by decide))⟩
  · skip
    refine AX.exit ?_
    refine AX.thenExit ?_
    refine AX.leave (e := .exit 0) (by simp) ?_
    refine AX.outHere ?_
    refine AX.seq ?_
    refine AX.region ?_
    refine AXo.go (f := 0) hev (d_assign rfl) ?_
    refine AXo.nil ?_
    refine AX.ret ?_
    exact ⟨_, .inl rfl⟩

theorem cfS_at {m : Int} {ev : CallF} (hev : CallOk (cf m) ev) (x y : Tree) (z : Int) (hI : ev 130 [.t x, .t y] [] = some (.ret (.t (.int .i64 z)) [] [])) :
    ∃ r : Bool, CallRel (cf m) 86 [.t x, .t y] [] (.ret (.t (.bool r)) [] []) := by
  refine AX.start 9 2 Tryz.func86 rfl (by decide) rfl rfl (by decide) ?_
  refine AX.seq ?_
  refine AX.region ?_
  refine AXo.go (f := 0) hev (d_assign rfl) ?_
  refine AXo.nil ?_
  refine AX.seq ?_
  refine AX.region ?_
  refine AXo.go (f := 0) hev (d_move rfl) ?_
  refine AXo.go (f := 0) hev (d_move rfl) ?_
  refine AXo.go (f := 0) hev (d_callT (rh2 rfl rfl) hI) ?_
  refine AXo.go (f := 0) hev (d_geI rfl rfl) ?_
  refine AXo.go (f := 0) hev (d_assign rfl) ?_
  refine AXo.nil ?_
  refine AX.ret ?_
  exact ⟨_, .inl rfl⟩

theorem ixA_at {m : Int} {ev : CallF} (hev : CallOk (cf m) ev) (l : List Tree) (hl : l.length ≤ 4194304) (hf : ∀ e ∈ l, ∃ nm k s o a, e = .agg [.str nm, .int .u8 k, .str s, .sl o, .sl a]) (g : FuncId) (q : Tree → Bool) (hq : ∀ e ∈ l, ev g [.t e] [] = some (.ret (.t (.bool (q e))) [] [])) :
    ∃ r : Int, CallRel (cf m) 85 [.t (.sl l), .t (.fn (.func g))] [] (.ret (.t (.int .i64 r)) [] []) := by
  refine AX.start 19 2 Tryz.func85 rfl (by decide) rfl rfl (by decide) ?_
  refine AX.seq ?_
  refine AX.region ?_
  refine AXo.go (f := 0) hev (d_assign rfl) ?_
  refine AXo.nil ?_
  refine AX.seq ?_
  refine AX.seq ?_
  refine AX.region ?_
  refine AXo.go (f := 0) hev (d_move rfl) ?_
  refine AXo.go (f := 0) hev ((by first | exact d_lenT rfl ty24 rfl | exact d_lenR rfl ty24 rfl | exact d_lenN rfl ty24 rfl | exact d_lenG rfl ty24 rfl)) ?_
  refine AXo.go (f := 0) hev (d_move rfl) ?_
  refine AXo.nil ?_
  refine AX.block ?_
  refine AX.loop (α := Nat) (fun i => ⟨frm 19 [(0, .t (.sl l)), (1, .t (.fn (.func g))), (7, .t (.int .i64 l.length)), (8, .t (.int .i64 i))], [], 0⟩) (fun i => i ≤ l.length) (fun i => l.length - i) 0 (Re.sq [] ⟨rfl, rfl, rfl, rfl, trivial⟩ trivial (by decide) rfl rfl (by decide)) (Nat.zero_le _) (fun i hok => ?_)
  replace hok : i ≤ l.length := hok
  refine AX.seq ?_
  refine AX.region ?_
  refine AXo.go (f := 0) hev (d_ltI rfl rfl) ?_
  refine AXo.nil ?_
  refine AX.seq ?_
  refine AX.cond rfl (fun h9 => ?_) (fun h9 => ?_)
  · have hlt : i < l.length := by have := of_decide_eq_true h9; omega
    obtain ⟨e, he⟩ : ∃ e, l[i]? = some e := ⟨l[i], List.getElem?_eq_getElem hlt⟩
    obtain ⟨nm, k, s, o, a, rfl⟩ := hf e (List.mem_of_getElem? he)
    refine AX.skip ?_
    refine AX.seq ?_
    refine AX.block ?_
    refine AX.seq ?_
    refine AX.region ?_
    refine AXo.go (f := 0) hev (d_move rfl) ?_
    refine AXo.go (f := 0) hev (d_assign rfl) ?_
    refine AXo.nil ?_
    refine AX.seq ?_
    refine AX.region ?_
    refine AXo.go (f := 0) hev (d_move rfl) ?_
    refine AXo.go (f := 0) hev (d_move rfl) ?_
    refine AXo.go (f := 0) hev (d_move rfl) ?_
    refine AXo.go (f := 0) hev (d_indexT rfl rfl ty24 rfl ty31 he rfl) ?_
    refine AXo.go (f := 0) hev ((by first | exact d_loadT rfl (ld ty31 rfl rfl) | exact d_load rfl (ld ty31 rfl rfl))) ?_
    refine AXo.go (f := 0) hev (d_callV rfl (rh1 rfl) (hq _ (List.mem_of_getElem? he))) ?_
    refine AXo.nil ?_
    refine AX.cond rfl (fun h16 => ?_) (fun h16 => ?_)
    · skip
      refine AX.seq ?_
      refine AX.region ?_
      refine AXo.go (f := 0) hev (d_move rfl) ?_
      refine AXo.go (f := 0) hev (d_assign rfl) ?_
      refine AXo.nil ?_
      refine AX.ret ?_
      refine AX.outRet ?_
      refine AX.thenRet ?_
      refine AX.leave (e := .ret) (by simp) ?_
      refine AX.outRet ?_
      refine AX.thenRet ?_
      exact ⟨_, .inl rfl⟩
    · skip
      refine AX.skip ?_
      refine AX.outNormal ?_
      refine AX.region ?_
      refine AXo.go (f := 0) hev (d_add64 rfl rfl (by omega) (by omega)) ?_
      refine AXo.go (f := 0) hev (d_move rfl) ?_
      refine AXo.nil ?_
      exact ⟨.inl ⟨i + 1, by show i + 1 ≤ _ ∧ l.length - (i + 1) < l.length - i; omega⟩, rfl, (Re.sq [] ⟨rfl, rfl, rfl, rfl, trivial⟩ trivial (by decide) rfl rfl (by decide))⟩
  · skip
    refine AX.exit ?_
    refine AX.thenExit ?_
    refine AX.leave (e := .exit 0) (by simp) ?_
    refine AX.outHere ?_
    refine AX.seq ?_
    refine AX.region ?_
    refine AXo.go (f := 0) hev (d_assign rfl) ?_
    refine AXo.nil ?_
    refine AX.ret ?_
    exact ⟨_, .inl rfl⟩

theorem cfA_at {m : Int} {ev : CallF} (hev : CallOk (cf m) ev) (x y : Tree) (z : Int) (hI : ev 85 [.t x, .t y] [] = some (.ret (.t (.int .i64 z)) [] [])) :
    ∃ r : Bool, CallRel (cf m) 37 [.t x, .t y] [] (.ret (.t (.bool r)) [] []) := by
  refine AX.start 9 2 Tryz.func37 rfl (by decide) rfl rfl (by decide) ?_
  refine AX.seq ?_
  refine AX.region ?_
  refine AXo.go (f := 0) hev (d_assign rfl) ?_
  refine AXo.nil ?_
  refine AX.seq ?_
  refine AX.region ?_
  refine AXo.go (f := 0) hev (d_move rfl) ?_
  refine AXo.go (f := 0) hev (d_move rfl) ?_
  refine AXo.go (f := 0) hev (d_callT (rh2 rfl rfl) hI) ?_
  refine AXo.go (f := 0) hev (d_geI rfl rfl) ?_
  refine AXo.go (f := 0) hev (d_assign rfl) ?_
  refine AXo.nil ?_
  refine AX.ret ?_
  exact ⟨_, .inl rfl⟩

theorem idS_at {m : Int} {ev : CallF} (hev : CallOk (cf m) ev) (l : List Tree) (hl : l.length ≤ 4194304) (hf : ∀ e ∈ l, ∃ u, e = .str u) (v : List UInt8) :
    ∃ r : Int, CallRel (cf m) 144 [.t (.sl l), .t (.str v)] [] (.ret (.t (.int .i64 r)) [] []) := by
  refine AX.start 19 2 Tryz.func144 rfl (by decide) rfl rfl (by decide) ?_
  refine AX.seq ?_
  refine AX.region ?_
  refine AXo.go (f := 0) hev (d_assign rfl) ?_
  refine AXo.nil ?_
  refine AX.seq ?_
  refine AX.seq ?_
  refine AX.region ?_
  refine AXo.go (f := 0) hev (d_move rfl) ?_
  refine AXo.go (f := 0) hev ((by first | exact d_lenT rfl ty38 rfl | exact d_lenR rfl ty38 rfl | exact d_lenN rfl ty38 rfl | exact d_lenG rfl ty38 rfl)) ?_
  refine AXo.go (f := 0) hev (d_move rfl) ?_
  refine AXo.nil ?_
  refine AX.block ?_
  refine AX.loop (α := Nat) (fun i => ⟨frm 19 [(0, .t (.sl l)), (1, .t (.str v)), (7, .t (.int .i64 l.length)), (8, .t (.int .i64 i))], [], 0⟩) (fun i => i ≤ l.length) (fun i => l.length - i) 0 (Re.sq [] ⟨rfl, rfl, rfl, rfl, trivial⟩ trivial (by decide) rfl rfl (by decide)) (Nat.zero_le _) (fun i hok => ?_)
  replace hok : i ≤ l.length := hok
  refine AX.seq ?_
  refine AX.region ?_
  refine AXo.go (f := 0) hev (d_ltI rfl rfl) ?_
  refine AXo.nil ?_
  refine AX.seq ?_
  refine AX.cond rfl (fun h9 => ?_) (fun h9 => ?_)
  · have hlt : i < l.length := by have := of_decide_eq_true h9; omega
    obtain ⟨e, he⟩ : ∃ e, l[i]? = some e := ⟨l[i], List.getElem?_eq_getElem hlt⟩
    obtain ⟨u, rfl⟩ := hf e (List.mem_of_getElem? he)
    refine AX.skip ?_
    refine AX.seq ?_
    refine AX.block ?_
    refine AX.seq ?_
    refine AX.region ?_
    refine AXo.go (f := 0) hev (d_move rfl) ?_
    refine AXo.go (f := 0) hev (d_assign rfl) ?_
    refine AXo.nil ?_
    refine AX.seq ?_
    refine AX.region ?_
    refine AXo.go (f := 0) hev (d_move rfl) ?_
    refine AXo.go (f := 0) hev (d_move rfl) ?_
    refine AXo.go (f := 0) hev (d_move rfl) ?_
    refine AXo.go (f := 0) hev (d_indexT rfl rfl ty38 rfl ty9 he rfl) ?_
    refine AXo.go (f := 0) hev ((by first | exact d_loadT rfl (ld ty9 rfl rfl) | exact d_load rfl (ld ty9 rfl rfl))) ?_
    refine AXo.go (f := 0) hev (d_eqS rfl rfl) ?_
    refine AXo.nil ?_
    refine AX.cond rfl (fun h16 => ?_) (fun h16 => ?_)
    · skip
      refine AX.seq ?_
      refine AX.region ?_
      refine AXo.go (f := 0) hev (d_move rfl) ?_
      refine AXo.go (f := 0) hev (d_assign rfl) ?_
      refine AXo.nil ?_
      refine AX.ret ?_
      refine AX.outRet ?_
      refine AX.thenRet ?_
      refine AX.leave (e := .ret) (by simp) ?_
      refine AX.outRet ?_
      refine AX.thenRet ?_
      exact ⟨_, .inl rfl⟩
    · skip
      refine AX.skip ?_
      refine AX.outNormal ?_
      refine AX.region ?_
      refine AXo.go (f := 0) hev (d_add64 rfl rfl (by omega) (by omega)) ?_
      refine AXo.go (f := 0) hev (d_move rfl) ?_
      refine AXo.nil ?_
      exact ⟨.inl ⟨i + 1, by show i + 1 ≤ _ ∧ l.length - (i + 1) < l.length - i; omega⟩, rfl, (Re.sq [] ⟨rfl, rfl, rfl, rfl, trivial⟩ trivial (by decide) rfl rfl (by decide))⟩
  · skip
    refine AX.exit ?_
    refine AX.thenExit ?_
    refine AX.leave (e := .exit 0) (by simp) ?_
    refine AX.outHere ?_
    refine AX.seq ?_
    refine AX.region ?_
    refine AXo.go (f := 0) hev (d_assign rfl) ?_
    refine AXo.nil ?_
    refine AX.ret ?_
    exact ⟨_, .inl rfl⟩

theorem ctS_at {m : Int} {ev : CallF} (hev : CallOk (cf m) ev) (x y : Tree) (z : Int) (hI : ev 144 [.t x, .t y] [] = some (.ret (.t (.int .i64 z)) [] [])) :
    ∃ r : Bool, CallRel (cf m) 119 [.t x, .t y] [] (.ret (.t (.bool r)) [] []) := by
  refine AX.start 9 2 Tryz.func119 rfl (by decide) rfl rfl (by decide) ?_
  refine AX.seq ?_
  refine AX.region ?_
  refine AXo.go (f := 0) hev (d_assign rfl) ?_
  refine AXo.nil ?_
  refine AX.seq ?_
  refine AX.region ?_
  refine AXo.go (f := 0) hev (d_move rfl) ?_
  refine AXo.go (f := 0) hev (d_move rfl) ?_
  refine AXo.go (f := 0) hev (d_callT (rh2 rfl rfl) hI) ?_
  refine AXo.go (f := 0) hev (d_geI rfl rfl) ?_
  refine AXo.go (f := 0) hev (d_assign rfl) ?_
  refine AXo.nil ?_
  refine AX.ret ?_
  exact ⟨_, .inl rfl⟩

theorem ne_cons {s : List UInt8} (h : (s == []) = false) : ∃ b s', s = b :: s' := by
  cases s with
  | nil => simp at h
  | cons b s' => exact ⟨b, s', rfl⟩

theorem name_at {m : Int} {ev : CallF} (hev : CallOk (cf m) ev) (dg : Int → Bool) (cw nb : List UInt8 → Bool) (hF : ev 120 [.t (.str text2)] [] = some (.ret (.t (.sl (words2.map .str))) [] [])) (hD : ∀ n, ev 132 [.t (.int .u8 n)] [] = some (.ret (.t (.bool (dg n))) [] []))
    (hC : ∀ s, ev 119 [.t (.sl (words2.map .str)), .t (.str s)] [] = some (.ret (.t (.bool (cw s))) [] [])) (hB : ∀ s : List UInt8, s.length ≤ 64 → ev 133 [.t (.sl (s.map fun b => .int .u8 b.toNat)), .t (.fn (.func 134))] [] = some (.ret (.t (.bool (nb s))) [] [])) (s : List UInt8) :
    ∃ r : Bool, CallRel (cf m) 89 [.t (.str s)] [] (.ret (.t (.bool r)) [] []) := by
  refine AX.start 26 1 Tryz.func89 rfl (by decide) rfl rfl (by decide) ?_
  refine AX.seq ?_
  refine AX.region ?_
  refine AXo.go (f := 0) hev (d_assign rfl) ?_
  refine AXo.nil ?_
  refine AX.seq ?_
  refine AX.region ?_
  refine AXo.go (f := 0) hev (d_callT (rh1 rfl) hF) ?_
  refine AXo.go (f := 0) hev (d_assign rfl) ?_
  refine AXo.nil ?_
  refine AX.seq ?_
  refine AX.seq ?_
  refine AX.region ?_
  refine AXo.go (f := 0) hev (d_move rfl) ?_
  refine AXo.go (f := 0) hev (d_eqS rfl rfl) ?_
  refine AXo.go (f := 0) hev (d_move rfl) ?_
  refine AXo.split 7 rfl (fun hg7 => ?_) (fun hg7 => ?_)
  · skip
    refine AXo.no rfl rfl rfl (beqTF hg7) ?_
    refine AXo.no rfl rfl rfl (beqTF hg7) ?_
    refine AXo.no rfl rfl rfl (beqTF hg7) ?_
    refine AXo.go (f := 0) hev (d_pickT rfl hg7 rfl rfl) ?_
    refine AXo.go (f := 0) hev (d_move rfl) ?_
    refine AXo.no rfl rfl rfl (beqTF rfl) ?_
    refine AXo.no rfl rfl rfl (beqTF rfl) ?_
    refine AXo.no rfl rfl rfl (beqTF rfl) ?_
    refine AXo.go (f := 0) hev (d_pickT rfl rfl rfl rfl) ?_
    refine AXo.go (f := 0) hev (d_move rfl) ?_
    refine AXo.no rfl rfl rfl (beqTF rfl) ?_
    refine AXo.no rfl rfl rfl (beqTF rfl) ?_
    refine AXo.no rfl rfl rfl (beqTF rfl) ?_
    refine AXo.go (f := 0) hev (d_pickT rfl rfl rfl rfl) ?_
    refine AXo.nil ?_
    refine AX.condT rfl rfl ?_
    refine AX.seq ?_
    refine AX.region ?_
    refine AXo.go (f := 0) hev (d_assign rfl) ?_
    refine AXo.nil ?_
    refine AX.ret ?_
    refine AX.thenRet ?_
    exact ⟨_, .inl rfl⟩
  · obtain ⟨b, s', rfl⟩ := ne_cons hg7
    refine AXo.yes (f := 0) hev rfl rfl rfl (beqFF hg7) (d_move rfl) ?_
    refine AXo.yes (f := 0) hev rfl rfl rfl (beqFF hg7) (d_lenS rfl ty9 rfl) ?_
    refine AXo.yes (f := 0) hev rfl rfl rfl (beqFF hg7) (d_gtI rfl rfl) ?_
    refine AXo.go (f := 0) hev (d_pickF rfl hg7 rfl rfl) ?_
    refine AXo.go (f := 0) hev (d_move rfl) ?_
    refine AXo.split 12 rfl (fun hg12 => ?_) (fun hg12 => ?_)
    · skip
      refine AXo.no rfl rfl rfl (beqTF hg12) ?_
      refine AXo.no rfl rfl rfl (beqTF hg12) ?_
      refine AXo.no rfl rfl rfl (beqTF hg12) ?_
      refine AXo.go (f := 0) hev (d_pickT rfl hg12 rfl rfl) ?_
      refine AXo.go (f := 0) hev (d_move rfl) ?_
      refine AXo.no rfl rfl rfl (beqTF rfl) ?_
      refine AXo.no rfl rfl rfl (beqTF rfl) ?_
      refine AXo.no rfl rfl rfl (beqTF rfl) ?_
      refine AXo.go (f := 0) hev (d_pickT rfl rfl rfl rfl) ?_
      refine AXo.nil ?_
      refine AX.condT rfl rfl ?_
      refine AX.seq ?_
      refine AX.region ?_
      refine AXo.go (f := 0) hev (d_assign rfl) ?_
      refine AXo.nil ?_
      refine AX.ret ?_
      refine AX.thenRet ?_
      exact ⟨_, .inl rfl⟩
    · have h64 : (b :: s').length ≤ 64 := by have := of_decide_eq_false hg12; omega
      refine AXo.yes (f := 0) hev rfl rfl rfl (beqFF hg12) (d_move rfl) ?_
      refine AXo.yes (f := 0) hev rfl rfl rfl (beqFF hg12) (d_byte rfl rfl ty9 rfl rfl) ?_
      refine AXo.yes (f := 0) hev rfl rfl rfl (beqFF hg12) (d_callT (rh1 rfl) (hD _)) ?_
      refine AXo.go (f := 0) hev (d_pickF rfl hg12 rfl rfl) ?_
      refine AXo.go (f := 0) hev (d_move rfl) ?_
      refine AXo.split 17 rfl (fun hg17 => ?_) (fun hg17 => ?_)
      · skip
        refine AXo.no rfl rfl rfl (beqTF hg17) ?_
        refine AXo.no rfl rfl rfl (beqTF hg17) ?_
        refine AXo.no rfl rfl rfl (beqTF hg17) ?_
        refine AXo.go (f := 0) hev (d_pickT rfl hg17 rfl rfl) ?_
        refine AXo.nil ?_
        refine AX.condT rfl rfl ?_
        refine AX.seq ?_
        refine AX.region ?_
        refine AXo.go (f := 0) hev (d_assign rfl) ?_
        refine AXo.nil ?_
        refine AX.ret ?_
        refine AX.thenRet ?_
        exact ⟨_, .inl rfl⟩
      · skip
        refine AXo.yes (f := 0) hev rfl rfl rfl (beqFF hg17) (d_move rfl) ?_
        refine AXo.yes (f := 0) hev rfl rfl rfl (beqFF hg17) (d_move rfl) ?_
        refine AXo.yes (f := 0) hev rfl rfl rfl (beqFF hg17) (d_callT (rh2 rfl rfl) (hC _)) ?_
        refine AXo.go (f := 0) hev (d_pickF rfl hg17 rfl rfl) ?_
        refine AXo.nil ?_
        refine AX.cond rfl (fun h21 => ?_) (fun h21 => ?_)
        · skip
          refine AX.seq ?_
          refine AX.region ?_
          refine AXo.go (f := 0) hev (d_assign rfl) ?_
          refine AXo.nil ?_
          refine AX.ret ?_
          refine AX.thenRet ?_
          exact ⟨_, .inl rfl⟩
        · skip
          refine AX.skip ?_
          refine AX.seq ?_
          refine AX.region ?_
          refine AXo.go (f := 0) hev (d_move rfl) ?_
          refine AXo.go (f := 0) hev (d_bytes rfl rfl ty9 rfl ty78 rfl ty5 rfl) ?_
          refine AXo.go (f := 0) hev (d_callT (rh2 rfl rfl) (hB _ h64)) ?_
          refine AXo.go (f := 0) hev (d_not rfl) ?_
          refine AXo.go (f := 0) hev (d_assign rfl) ?_
          refine AXo.nil ?_
          refine AX.ret ?_
          exact ⟨_, .inl rfl⟩

theorem typeName1_at {m : Int} {ev : CallF} (hev : CallOk (cf m) ev) (nm : List UInt8 → Bool) (hN : ∀ s, ev 89 [.t (.str s)] [] = some (.ret (.t (.bool (nm s))) [] [])) (s : List UInt8) :
    ∃ r : Bool, CallRel (cf m) 88 [.t (.str s)] [] (.ret (.t (.bool r)) [] []) := by
  refine AX.start 6 1 Tryz.func88 rfl (by decide) rfl rfl (by decide) ?_
  refine AX.seq ?_
  refine AX.region ?_
  refine AXo.go (f := 0) hev (d_assign rfl) ?_
  refine AXo.nil ?_
  refine AX.seq ?_
  refine AX.region ?_
  refine AXo.go (f := 0) hev (d_move rfl) ?_
  refine AXo.go (f := 0) hev (d_callT (rh1 rfl) (hN _)) ?_
  refine AXo.go (f := 0) hev (d_not rfl) ?_
  refine AXo.go (f := 0) hev (d_assign rfl) ?_
  refine AXo.nil ?_
  refine AX.ret ?_
  exact ⟨_, .inl rfl⟩

theorem typeName_at {m : Int} {ev : CallF} (hev : CallOk (cf m) ev) (pc : List UInt8 → List (List UInt8)) (ct : List UInt8 → Bool) (hS : ∀ s : List UInt8, s.length ≤ 64 → ev 87 [.t (.str s), .t (.str [58, 58])] [] = some (.ret (.t (.sl ((pc s).map .str))) [] []))
    (hC : ∀ s : List UInt8, s.length ≤ 64 → ev 86 [.t (.sl ((pc s).map .str)), .t (.fn (.func 88))] [] = some (.ret (.t (.bool (ct s))) [] [])) (s : List UInt8) :
    ∃ r : Bool, CallRel (cf m) 40 [.t (.str s)] [] (.ret (.t (.bool r)) [] []) := by
  refine AX.start 12 1 Tryz.func40 rfl (by decide) rfl rfl (by decide) ?_
  refine AX.seq ?_
  refine AX.region ?_
  refine AXo.go (f := 0) hev (d_assign rfl) ?_
  refine AXo.nil ?_
  refine AX.seq ?_
  refine AX.region ?_
  refine AXo.go (f := 0) hev (d_move rfl) ?_
  refine AXo.go (f := 0) hev (d_lenS rfl ty9 rfl) ?_
  refine AXo.go (f := 0) hev (d_leI rfl rfl) ?_
  refine AXo.go (f := 0) hev (d_move rfl) ?_
  refine AXo.split 6 rfl (fun hg6 => ?_) (fun hg6 => ?_)
  · have h64 : s.length ≤ 64 := by have := of_decide_eq_true hg6; omega
    refine AXo.yes (f := 0) hev rfl rfl rfl (beqTT hg6) (d_move rfl) ?_
    refine AXo.yes (f := 0) hev rfl rfl rfl (beqTT hg6) (d_callT (rh2 rfl rfl) (hS _ h64)) ?_
    refine AXo.yes (f := 0) hev rfl rfl rfl (beqTT hg6) (d_callT (rh2 rfl rfl) (hC _ h64)) ?_
    refine AXo.yes (f := 0) hev rfl rfl rfl (beqTT hg6) (d_not rfl) ?_
    refine AXo.go (f := 0) hev (d_pickT rfl hg6 rfl rfl) ?_
    refine AXo.go (f := 0) hev (d_assign rfl) ?_
    refine AXo.nil ?_
    refine AX.ret ?_
    exact ⟨_, .inl rfl⟩
  · skip
    refine AXo.no rfl rfl rfl (beqFT hg6) ?_
    refine AXo.no rfl rfl rfl (beqFT hg6) ?_
    refine AXo.no rfl rfl rfl (beqFT hg6) ?_
    refine AXo.no rfl rfl rfl (beqFT hg6) ?_
    refine AXo.go (f := 0) hev (d_pickF rfl hg6 rfl rfl) ?_
    refine AXo.go (f := 0) hev (d_assign rfl) ?_
    refine AXo.nil ?_
    refine AX.ret ?_
    exact ⟨_, .inl rfl⟩

theorem label_at {m : Int} {ev : CallF} (hev : CallOk (cf m) ev) (va : List UInt8 → Bool) (hV : ∀ s, ev 63 [.t (.str s)] [] = some (.ret (.t (.bool (va s))) [] [])) (s : List UInt8) :
    ∃ r : Bool, CallRel (cf m) 44 [.t (.str s)] [] (.ret (.t (.bool r)) [] []) := by
  refine AX.start 14 1 Tryz.func44 rfl (by decide) rfl rfl (by decide) ?_
  refine AX.seq ?_
  refine AX.region ?_
  refine AXo.go (f := 0) hev (d_assign rfl) ?_
  refine AXo.nil ?_
  refine AX.seq ?_
  refine AX.region ?_
  refine AXo.go (f := 0) hev (d_move rfl) ?_
  refine AXo.go (f := 0) hev (d_neS rfl rfl) ?_
  refine AXo.go (f := 0) hev (d_move rfl) ?_
  refine AXo.split 5 rfl (fun hg5 => ?_) (fun hg5 => ?_)
  · skip
    refine AXo.yes (f := 0) hev rfl rfl rfl (beqTT hg5) (d_move rfl) ?_
    refine AXo.yes (f := 0) hev rfl rfl rfl (beqTT hg5) (d_lenS rfl ty9 rfl) ?_
    refine AXo.yes (f := 0) hev rfl rfl rfl (beqTT hg5) (d_leI rfl rfl) ?_
    refine AXo.go (f := 0) hev (d_pickT rfl hg5 rfl rfl) ?_
    refine AXo.go (f := 0) hev (d_move rfl) ?_
    refine AXo.split 10 rfl (fun hg10 => ?_) (fun hg10 => ?_)
    · skip
      refine AXo.yes (f := 0) hev rfl rfl rfl (beqTT hg10) (d_move rfl) ?_
      refine AXo.yes (f := 0) hev rfl rfl rfl (beqTT hg10) (d_callT (rh1 rfl) (hV _)) ?_
      refine AXo.go (f := 0) hev (d_pickT rfl hg10 rfl rfl) ?_
      refine AXo.go (f := 0) hev (d_assign rfl) ?_
      refine AXo.nil ?_
      refine AX.ret ?_
      exact ⟨_, .inl rfl⟩
    · skip
      refine AXo.no rfl rfl rfl (beqFT hg10) ?_
      refine AXo.no rfl rfl rfl (beqFT hg10) ?_
      refine AXo.go (f := 0) hev (d_pickF rfl hg10 rfl rfl) ?_
      refine AXo.go (f := 0) hev (d_assign rfl) ?_
      refine AXo.nil ?_
      refine AX.ret ?_
      exact ⟨_, .inl rfl⟩
  · skip
    refine AXo.no rfl rfl rfl (beqFT hg5) ?_
    refine AXo.no rfl rfl rfl (beqFT hg5) ?_
    refine AXo.no rfl rfl rfl (beqFT hg5) ?_
    refine AXo.go (f := 0) hev (d_pickF rfl hg5 rfl rfl) ?_
    refine AXo.go (f := 0) hev (d_move rfl) ?_
    refine AXo.no rfl rfl rfl (beqFT rfl) ?_
    refine AXo.no rfl rfl rfl (beqFT rfl) ?_
    refine AXo.go (f := 0) hev (d_pickF rfl rfl rfl rfl) ?_
    refine AXo.go (f := 0) hev (d_assign rfl) ?_
    refine AXo.nil ?_
    refine AX.ret ?_
    exact ⟨_, .inl rfl⟩

theorem size1_at {m : Int} {ev : CallF} (hev : CallOk (cf m) ev) (la : List UInt8 → Bool) (hLb : ∀ s, ev 44 [.t (.str s)] [] = some (.ret (.t (.bool (la s))) [] [])) (nm s : List UInt8) (k : Int) (o a : List Tree) :
    ∃ r : Bool, CallRel (cf m) 43 [.t (.agg [.str nm, .int .u8 k, .str s, .sl o, .sl a])] [] (.ret (.t (.bool r)) [] []) := by
  refine AX.start 7 1 Tryz.func43 rfl (by decide) rfl rfl (by decide) ?_
  refine AX.seq ?_
  refine AX.region ?_
  refine AXo.go (f := 0) hev (d_box rfl rfl) ?_
  refine AXo.go (f := 0) hev (d_assign rfl) ?_
  refine AXo.nil ?_
  refine AX.seq ?_
  refine AX.region ?_
  refine AXo.go (f := 0) hev (d_fieldAddr rfl fo31_0 rfl) ?_
  refine AXo.go (f := 0) hev ((by first | exact d_loadT rfl (ld ty9 rfl rfl) | exact d_load rfl (ld ty9 rfl rfl))) ?_
  refine AXo.go (f := 0) hev (d_callT (rh1 rfl) (hLb _)) ?_
  refine AXo.go (f := 0) hev (d_not rfl) ?_
  refine AXo.go (f := 0) hev (d_assign rfl) ?_
  refine AXo.nil ?_
  refine AX.ret ?_
  exact ⟨_, .inl rfl⟩

theorem nameOf_at {m : Int} {ev : CallF} (hev : CallOk (cf m) ev) (nm s : List UInt8) (k : Int) (o a : List Tree) :
    ∃ r : List UInt8, CallRel (cf m) 42 [.t (.agg [.str nm, .int .u8 k, .str s, .sl o, .sl a])] [] (.ret (.t (.str r)) [] []) := by
  refine AX.start 5 1 Tryz.func42 rfl (by decide) rfl rfl (by decide) ?_
  refine AX.seq ?_
  refine AX.region ?_
  refine AXo.go (f := 0) hev (d_box rfl rfl) ?_
  refine AXo.go (f := 0) hev (d_assign rfl) ?_
  refine AXo.nil ?_
  refine AX.seq ?_
  refine AX.region ?_
  refine AXo.go (f := 0) hev (d_fieldAddr rfl fo31_0 rfl) ?_
  refine AXo.go (f := 0) hev ((by first | exact d_loadT rfl (ld ty9 rfl rfl) | exact d_load rfl (ld ty9 rfl rfl))) ?_
  refine AXo.go (f := 0) hev (d_assign rfl) ?_
  refine AXo.nil ?_
  refine AX.ret ?_
  exact ⟨_, .inl rfl⟩

theorem rising_at {m : Int} {ev : CallF} (hev : CallOk (cf m) ev) (l : List Tree) (hl : l.length ≤ 4194304) (hf : ∀ e ∈ l, ∃ nm k s o a, e = .agg [.str nm, .int .u8 k, .str s, .sl o, .sl a]) (g : FuncId) (q : Tree → List UInt8) (hq : ∀ e ∈ l, ev g [.t e] [] = some (.ret (.t (.str (q e))) [] [])) :
    ∃ r : Bool, CallRel (cf m) 41 [.t (.sl l), .t (.fn (.func g))] [] (.ret (.t (.bool r)) [] []) := by
  refine AX.start 26 2 Tryz.func41 rfl (by decide) rfl rfl (by decide) ?_
  refine AX.seq ?_
  refine AX.region ?_
  refine AXo.go (f := 0) hev (d_assign rfl) ?_
  refine AXo.nil ?_
  refine AX.seq ?_
  refine AX.seq ?_
  refine AX.region ?_
  refine AXo.go (f := 0) hev (d_assign rfl) ?_
  refine AXo.nil ?_
  refine AX.block ?_
  refine AX.loop (α := Nat) (fun j => ⟨frm 26 [(0, .t (.sl l)), (1, .t (.fn (.func g))), (5, .t (.int .i64 ((j + 1 : Nat) : Int)))], [], 0⟩) (fun j => j ≤ l.length) (fun j => l.length - j) 0 (Re.sq [] ⟨rfl, rfl, rfl, trivial⟩ trivial (by decide) rfl rfl (by decide)) (Nat.zero_le _) (fun j hok => ?_)
  replace hok : j ≤ l.length := hok
  refine AX.seq ?_
  refine AX.seq ?_
  refine AX.region ?_
  refine AXo.go (f := 0) hev (d_move rfl) ?_
  refine AXo.go (f := 0) hev (d_move rfl) ?_
  refine AXo.go (f := 0) hev ((by first | exact d_lenT rfl ty24 rfl | exact d_lenR rfl ty24 rfl | exact d_lenN rfl ty24 rfl | exact d_lenG rfl ty24 rfl)) ?_
  refine AXo.go (f := 0) hev (d_ltI rfl rfl) ?_
  refine AXo.nil ?_
  refine AX.cond rfl (fun h9 => ?_) (fun h9 => ?_)
  · have hlt : j + 1 < l.length := by have := of_decide_eq_true h9; omega
    obtain ⟨e0, he0⟩ : ∃ e, l[j]? = some e := ⟨l[j], List.getElem?_eq_getElem (by omega)⟩
    obtain ⟨e1, he1⟩ : ∃ e, l[j + 1]? = some e := ⟨l[j + 1], List.getElem?_eq_getElem hlt⟩
    obtain ⟨n0, k0, s0, o0, a0, rfl⟩ := hf e0 (List.mem_of_getElem? he0)
    obtain ⟨n1, k1, s1, o1, a1, rfl⟩ := hf e1 (List.mem_of_getElem? he1)
    refine AX.skip ?_
    refine AX.seq ?_
    refine AX.block ?_
    refine AX.seq ?_
    refine AX.draw (f := 0) orders hev ?_
    refine AXd.go rfl (d_move rfl) ?_
    refine AXd.go rfl (d_move rfl) ?_
    refine AXd.go rfl (d_move rfl) ?_
    refine AXd.go rfl (d_pred rfl rfl (by omega)) ?_
    refine AXd.go rfl (d_indexT rfl rfl ty24 rfl ty31 he0 rfl) ?_
    refine AXd.go rfl ((by first | exact d_loadT rfl (ld ty31 rfl rfl) | exact d_load rfl (ld ty31 rfl rfl))) ?_
    refine AXd.go rfl (d_callV rfl (rh1 rfl) (hq _ (List.mem_of_getElem? he0))) ?_
    refine AXd.go rfl (d_move rfl) ?_
    refine AXd.go rfl (d_move rfl) ?_
    refine AXd.go rfl (d_move rfl) ?_
    refine AXd.go rfl (d_indexT rfl rfl ty24 rfl ty31 he1 rfl) ?_
    refine AXd.go rfl ((by first | exact d_loadT rfl (ld ty31 rfl rfl) | exact d_load rfl (ld ty31 rfl rfl))) ?_
    refine AXd.go rfl (d_callV rfl (rh1 rfl) (hq _ (List.mem_of_getElem? he1))) ?_
    refine AXd.go rfl (d_geS rfl rfl) ?_
    refine AXd.nil (ex_and2 rfl rfl ?_)
    refine AX.cond rfl (fun h25 => ?_) (fun h25 => ?_)
    · skip
      refine AX.seq ?_
      refine AX.region ?_
      refine AXo.go (f := 0) hev (d_assign rfl) ?_
      refine AXo.nil ?_
      refine AX.ret ?_
      refine AX.outRet ?_
      refine AX.thenRet ?_
      refine AX.leave (e := .ret) (by simp) ?_
      refine AX.outRet ?_
      refine AX.thenRet ?_
      exact ⟨_, .inl rfl⟩
    · skip
      refine AX.skip ?_
      refine AX.outNormal ?_
      refine AX.region ?_
      refine AXo.go (f := 0) hev (d_move rfl) ?_
      refine AXo.go (f := 0) hev (d_add64 rfl rfl (by omega) (by omega)) ?_
      refine AXo.go (f := 0) hev (d_assign rfl) ?_
      refine AXo.nil ?_
      exact ⟨.inl ⟨j + 1, by show j + 1 ≤ _ ∧ l.length - (j + 1) < l.length - j; omega⟩, rfl, (Re.sq [] ⟨rfl, rfl, rfl, trivial⟩ trivial (by decide) rfl rfl (by decide))⟩
  · skip
    refine AX.exit ?_
    refine AX.thenExit ?_
    refine AX.leave (e := .exit 0) (by simp) ?_
    refine AX.outHere ?_
    refine AX.seq ?_
    refine AX.region ?_
    refine AXo.go (f := 0) hev (d_assign rfl) ?_
    refine AXo.nil ?_
    refine AX.ret ?_
    exact ⟨_, .inl rfl⟩

theorem checkType_no {m : Int} {ev : CallF} (hev : CallOk (cf m) ev) (k : Int) (s : List UInt8) (os bs : List Tree) (dp : Int) (hz : ev 14 [.t (.agg [.int .u8 k, .str s, .sl os, .sl bs])] [] = some (.ret (.t (.tup [.int .i64 dp, .bool true])) [] [])) :
    ∃ r : Int, CallRel (cf m) 6 [.t (.agg [.int .u8 k, .str s, .sl os, .sl bs])] [] (.ret (.t (.int .i64 r)) [] []) := by
  refine AX.start 16 1 Tryz.func6 rfl (by decide) rfl rfl (by decide) ?_
  refine AX.seq ?_
  refine AX.region ?_
  refine AXo.go (f := 0) hev (d_box rfl rfl) ?_
  refine AXo.go (f := 0) hev (d_assign rfl) ?_
  refine AXo.nil ?_
  refine AX.seq ?_
  refine AX.region ?_
  refine AXo.go (f := 0) hev ((by first | exact d_loadT rfl (ld ty26 rfl rfl) | exact d_load rfl (ld ty26 rfl rfl))) ?_
  refine AXo.go (f := 0) hev (d_callT (rh1 rfl) hz) ?_
  refine AXo.go (f := 0) hev (d_move rfl) ?_
  refine AXo.go (f := 0) hev ((by first | exact d_extractT rfl rfl | exact d_extract rfl rfl)) ?_
  refine AXo.go (f := 0) hev ((by first | exact d_extractT rfl rfl | exact d_extract rfl rfl)) ?_
  refine AXo.go (f := 0) hev (d_assign rfl) ?_
  refine AXo.go (f := 0) hev (d_assign rfl) ?_
  refine AXo.nil ?_
  refine AX.seq ?_
  refine AX.block ?_
  refine AX.seq ?_
  refine AX.region ?_
  refine AXo.go (f := 0) hev (d_move rfl) ?_
  refine AXo.go (f := 0) hev (d_not rfl) ?_
  refine AXo.go (f := 0) hev (d_assign rfl) ?_
  refine AXo.nil ?_
  refine AX.cond rfl (fun h10 => ?_) (fun h10 => ?_)
  · skip
    refine AX.seq ?_
    refine AX.region ?_
    refine AXo.go (f := 0) hev (d_assign rfl) ?_
    refine AXo.nil ?_
    refine AX.ret ?_
    refine AX.outRet ?_
    refine AX.thenRet ?_
    exact ⟨_, .inl rfl⟩
  · skip
    refine AX.seq ?_
    refine AX.region ?_
    refine AXo.go (f := 0) hev (d_move rfl) ?_
    refine AXo.go (f := 0) hev (d_gtI rfl rfl) ?_
    refine AXo.go (f := 0) hev (d_assign rfl) ?_
    refine AXo.nil ?_
    refine AX.cond rfl (fun h13 => ?_) (fun h13 => ?_)
    · skip
      refine AX.seq ?_
      refine AX.region ?_
      refine AXo.go (f := 0) hev (d_assign rfl) ?_
      refine AXo.nil ?_
      refine AX.ret ?_
      refine AX.outRet ?_
      refine AX.thenRet ?_
      exact ⟨_, .inl rfl⟩
    · skip
      refine AX.skip ?_
      refine AX.outNormal ?_
      refine AX.seq ?_
      refine AX.region ?_
      refine AXo.go (f := 0) hev (d_assign rfl) ?_
      refine AXo.nil ?_
      refine AX.ret ?_
      exact ⟨_, .inl rfl⟩
end
end Go.Proofs.YtbahblehihbpkaaGreatDoor.w

namespace Go.Proofs.YtbahblehihbpkaaGreatDoor.w
open Go Go.Abs
set_option linter.unusedVariables false
set_option maxRecDepth 100000
set_option maxHeartbeats 1000000
noncomputable section
abbrev ti22 : TI := { size := 1, bytes := 1, agg := false, zero := some (.t (.int .u8 0)), desc := .int .u8 }
theorem ty22 {m : Int} : (cf m).P.ty 22 = some ti22 := by kernel_rfl
theorem fo26_0 {m : Int} : fieldOff (cf m).P 26 0 = some 0 := by kernel_rfl
theorem fo26_1 {m : Int} : fieldOff (cf m).P 26 1 = some 1 := by kernel_rfl

/-! ### Types, schemas as trees -/
def AttE (Ty : Tree → Prop) (e : Tree) : Prop := ∃ nm k s o a, e = .agg [.str nm, .int .u8 k, .str s, .sl o, .sl a] ∧ Ty (.agg [.int .u8 k, .str s, .sl o, .sl a])

def TyN : Nat → Tree → Prop
  | 0, _ => False
  | n + 1, T => ∃ k s os bs, T = .agg [.int .u8 k, .str s, .sl os, .sl bs] ∧ os.length ≤ 4194304 ∧ bs.length ≤ 4194304 ∧ (∀ x ∈ os, TyN n x) ∧ ∀ e ∈ bs, AttE (TyN n) e

theorem TyN.form {n : Nat} {x : Tree} (h : TyN n x) : ∃ k s o a, x = .agg [.int .u8 k, .str s, .sl o, .sl a] := by
  cases n with
  | zero => exact h.elim
  | succ n => obtain ⟨k, s, o, a, h, _⟩ := h; exact ⟨k, s, o, a, h⟩


def tyOfAttr : Tree → Tree
  | .agg (_ :: r) => .agg r
  | x => x
theorem take_tys {bs : List Tree} {i : Nat} {nm s : List UInt8} {k : Int} {o a : List Tree} (he : bs[i]? = some (.agg [.str nm, .int .u8 k, .str s, .sl o, .sl a])) :
    (bs.take (i + 1)).map tyOfAttr = (bs.take i).map tyOfAttr ++ [.agg [.int .u8 k, .str s, .sl o, .sl a]] := by
  rw [List.take_add_one, he]
  simp [tyOfAttr]
theorem inner_ty {Ty : Tree → Prop} {os bs : List Tree} (hos : ∀ x ∈ os, Ty x) (hbs : ∀ e ∈ bs, AttE Ty e) {i : Nat} : ∀ x ∈ os ++ (bs.take i).map tyOfAttr, Ty x := fun x hx => by
  rcases List.mem_append.1 hx with h | h
  · exact hos x h
  · obtain ⟨e, he, rfl⟩ := List.mem_map.1 h
    obtain ⟨nm, k, s, o, a, rfl, ht⟩ := hbs e (List.mem_of_mem_take he)
    exact ht
theorem uni_ty {Ty : Tree → Prop} (hform : ∀ x, Ty x → ∃ k s o a, x = .agg [.int .u8 k, .str s, .sl o, .sl a]) {l : List Tree} (h : ∀ x ∈ l, Ty x) : Uni true 4 l := fun x hx => by
  obtain ⟨k, s, o, a, rfl⟩ := hform x (h x hx)
  exact ⟨rfl, rfl, rfl⟩
theorem headOk_of {ag : Bool} {sz : Nat} {es : List Tree} (h : Uni ag sz es) : headOk sz es = true := by
  cases es with
  | nil => rfl
  | cons e r => simp [headOk, h.lens e (by simp)]
theorem uni_one {ag : Bool} {sz : Nat} {e : Tree} (h : EOk ag sz e) : Uni ag sz [e] := Uni.cons h Uni.nil
theorem inner_bytes {os bs : List Tree} (h1 : os.length ≤ 4194304) (h2 : bs.length ≤ 4194304) {i : Nat} {e : Tree} : ((os ++ (bs.take i).map tyOfAttr).length + [e].length) * 72 ≤ maxBytes := by
  have : ((bs.take i).map tyOfAttr).length ≤ bs.length := by rw [List.length_map, List.length_take]; omega
  rw [List.length_append]
  simp only [List.length_singleton]
  show _ ≤ 70368744177664
  omega
theorem inner_len {os bs : List Tree} (h1 : os.length ≤ 4194304) (h2 : bs.length ≤ 4194304) {i : Nat} : (os ++ (bs.take i).map tyOfAttr).length ≤ 8388608 := by
  have : ((bs.take i).map tyOfAttr).length ≤ bs.length := by rw [List.length_map, List.length_take]; omega
  rw [List.length_append]
  omega

theorem size_at {m : Int} {ev : CallF} (hev : CallOk (cf m) ev) (n : Nat) (hn : n ≤ 8388608) (Ty : Tree → Prop) (hform : ∀ x, Ty x → ∃ k s o a, x = .agg [.int .u8 k, .str s, .sl o, .sl a])
    (dz : Tree → Int) (oz : Tree → Bool) (hsz : ∀ x, Ty x → ev 14 [.t x] [] = some (.ret (.t (.tup [.int .i64 (dz x), .bool (oz x)])) [] [])) (hbd : ∀ x, Ty x → 0 ≤ dz x ∧ dz x ≤ n)
    (tn : List UInt8 → Bool) (hTN : ∀ s, ev 40 [.t (.str s)] [] = some (.ret (.t (.bool (tn s))) [] []))
    (k : Int) (s : List UInt8) (os bs : List Tree) (hl1 : os.length ≤ 4194304) (hl2 : bs.length ≤ 4194304) (hos : ∀ x ∈ os, Ty x) (hbs : ∀ e ∈ bs, AttE Ty e) (rz cz : Bool)
    (hR : ev 41 [.t (.sl bs), .t (.fn (.func 42))] [] = some (.ret (.t (.bool rz)) [] [])) (hC : ev 37 [.t (.sl bs), .t (.fn (.func 43))] [] = some (.ret (.t (.bool cz)) [] [])) :
    ∃ r : {p : Int × Bool // 0 ≤ p.1 ∧ p.1 ≤ (n : Int) + 1}, CallRel (cf m) 14 [.t (.agg [.int .u8 k, .str s, .sl os, .sl bs])] [] (.ret (.t (.tup [.int .i64 r.1.1, .bool r.1.2])) [] []) := by
  refine AX.start 119 1 Tryz.func14 rfl (by decide) rfl rfl (by decide) ?_
  refine AX.seq ?_
  refine AX.region ?_
  refine AXo.go (f := 0) hev (d_box rfl rfl) ?_
  refine AXo.go (f := 0) hev (d_assign rfl) ?_
  refine AXo.go (f := 0) hev (d_assign rfl) ?_
  refine AXo.nil ?_
  refine AX.seq ?_
  refine AX.region ?_
  refine AXo.go (f := 0) hev (d_fieldAddr rfl fo26_1 rfl) ?_
  refine AXo.go (f := 0) hev (by first | exact d_loadT rfl (ld ty9 rfl rfl) | exact d_load rfl (ld ty9 rfl rfl)) ?_
  refine AXo.go (f := 0) hev (d_eqS rfl rfl) ?_
  refine AXo.go (f := 0) hev (d_moveT rfl) ?_
  refine AXo.gF (f := 0) hev rfl rfl rfl (fun hb => d_fieldAddr rfl fo26_0 rfl) ?_
  refine AXo.gF (f := 0) hev rfl rfl rfl (fun hb => (by first | exact d_loadT (rho_gv hb rfl) (ld ty22 rfl rfl) | exact d_load (rho_gv hb rfl) (ld ty22 rfl rfl))) ?_
  refine AXo.gF (f := 0) hev rfl rfl rfl (fun hb => d_eqI (rho_gv hb rfl) rfl) ?_
  refine AXo.go (f := 0) hev (by first | exact d_or rfl rfl (fun h => by simp_all) | exact d_pick rfl rfl rfl) ?_
  refine AXo.go (f := 0) hev (d_moveT rfl) ?_
  refine AXo.gT (f := 0) hev rfl rfl rfl (fun hb => d_fieldAddr rfl fo26_3 rfl) ?_
  refine AXo.gT (f := 0) hev rfl rfl rfl (fun hb => (by first | exact d_loadT (rho_gv hb rfl) (ld ty24 rfl rfl) | exact d_load (rho_gv hb rfl) (ld ty24 rfl rfl))) ?_
  refine AXo.gT (f := 0) hev rfl rfl rfl (fun hb => (by first | exact d_lenT (rho_gv hb rfl) ty24 rfl | exact d_lenR (rho_gv hb rfl) ty24 rfl | exact d_lenN (rho_gv hb rfl) ty24 rfl | exact d_lenG (rho_gv hb rfl) ty24 rfl)) ?_
  refine AXo.gT (f := 0) hev rfl rfl rfl (fun hb => d_eqI (rho_gv hb rfl) rfl) ?_
  refine AXo.gT (f := 0) hev rfl rfl rfl (fun hb => d_moveT (rho_gv hb rfl)) ?_
  refine AXo.nF (f := 0) hev rfl rfl rfl (fun hb => d_fieldAddr rfl fo26_0 rfl) ?_
  refine AXo.nF (f := 0) hev rfl rfl rfl (fun hb => (by first | exact d_loadT (rho_gv hb rfl) (ld ty22 rfl rfl) | exact d_load (rho_gv hb rfl) (ld ty22 rfl rfl))) ?_
  refine AXo.nF (f := 0) hev rfl rfl rfl (fun hb => d_eqI (rho_gv hb rfl) rfl) ?_
  refine AXo.gT (f := 0) hev rfl rfl rfl (fun hb => (by first | exact d_or (rho_gv hb rfl) rfl (fun h => by simp_all) | exact d_pick (rho_gv hb rfl) rfl rfl)) ?_
  refine AXo.go (f := 0) hev (by first | exact d_and rfl rfl (fun h => by simp_all) | exact d_pick rfl rfl rfl) ?_
  refine AXo.go (f := 0) hev (d_moveT rfl) ?_
  refine AXo.gT (f := 0) hev rfl rfl rfl (fun hb => d_fieldAddr rfl fo26_0 rfl) ?_
  refine AXo.gT (f := 0) hev rfl rfl rfl (fun hb => (by first | exact d_loadT (rho_gv hb rfl) (ld ty22 rfl rfl) | exact d_load (rho_gv hb rfl) (ld ty22 rfl rfl))) ?_
  refine AXo.gT (f := 0) hev rfl rfl rfl (fun hb => d_ltI (rho_gv hb rfl) rfl) ?_
  refine AXo.go (f := 0) hev (by first | exact d_and rfl rfl (fun h => by simp_all) | exact d_pick rfl rfl rfl) ?_
  refine AXo.go (f := 0) hev (d_assignT rfl) ?_
  refine AXo.nil ?_
  refine AX.seq ?_
  refine AX.region ?_
  refine AXo.go (f := 0) hev (d_fieldAddr rfl fo26_2 rfl) ?_
  refine AXo.go (f := 0) hev ((by first | exact d_loadT rfl (ld ty23 rfl rfl) | exact d_load rfl (ld ty23 rfl rfl))) ?_
  refine AXo.go (f := 0) hev (d_assign rfl) ?_
  refine AXo.nil ?_
  refine AX.seq ?_
  refine AX.seq ?_
  refine AX.region ?_
  refine AXo.go (f := 0) hev (d_fieldAddr rfl fo26_0 rfl) ?_
  refine AXo.go (f := 0) hev ((by first | exact d_loadT rfl (ld ty22 rfl rfl) | exact d_load rfl (ld ty22 rfl rfl))) ?_
  refine AXo.nil ?_
  refine AX.block ?_
  refine AX.seq ?_
  refine AX.region ?_
  refine AXo.go (f := 0) hev (d_eqI rfl rfl) ?_
  refine AXo.go (f := 0) hev (d_assign rfl) ?_
  refine AXo.nil ?_
  refine AX.cond rfl (fun h40 => ?_) (fun h40 => ?_)
  · skip
    refine AX.region ?_
    refine AXo.go (f := 0) hev (d_moveT rfl) ?_
    refine AXo.go (f := 0) hev (d_moveT rfl) ?_
    refine AXo.gT (f := 0) hev rfl rfl rfl (fun hb => d_fieldAddr rfl fo26_1 rfl) ?_
    refine AXo.gT (f := 0) hev rfl rfl rfl (fun hb => (by first | exact d_loadT (rho_gv hb rfl) (ld ty9 rfl rfl) | exact d_load (rho_gv hb rfl) (ld ty9 rfl rfl))) ?_
    refine AXo.gT (f := 0) hev rfl rfl rfl (fun hb => d_callT (rh1 (rho_gv hb rfl)) (hTN _)) ?_
    refine AXo.go (f := 0) hev (by first | exact d_and rfl rfl (fun h => by simp_all) | exact d_pick rfl rfl rfl) ?_
    refine AXo.go (f := 0) hev (d_assignT rfl) ?_
    refine AXo.nil ?_
    refine AX.outNormal ?_
    refine AX.seq ?_
    refine AX.region ?_
    refine AXo.go (f := 0) hev (d_assign rfl) ?_
    refine AXo.nil ?_
    refine AX.seq ?_
    refine AX.seq ?_
    refine AX.region ?_
    refine AXo.go (f := 0) hev (d_fieldAddr rfl fo26_0 rfl) ?_
    refine AXo.go (f := 0) hev ((by first | exact d_loadT rfl (ld ty22 rfl rfl) | exact d_load rfl (ld ty22 rfl rfl))) ?_
    refine AXo.go (f := 0) hev (d_eqI rfl rfl) ?_
    refine AXo.nil ?_
    refine AX.cond rfl (fun h88 => ?_) (fun h88 => ?_)
    · skip
      refine AX.region ?_
      refine AXo.go (f := 0) hev (d_assign rfl) ?_
      refine AXo.nil ?_
      refine AX.seq ?_
      refine AX.region ?_
      refine AXo.go (f := 0) hev (d_moveT rfl) ?_
      refine AXo.go (f := 0) hev (d_moveT rfl) ?_
      refine AXo.gT (f := 0) hev rfl rfl rfl (fun hb => d_fieldAddr rfl fo26_2 rfl) ?_
      refine AXo.gT (f := 0) hev rfl rfl rfl (fun hb => (by first | exact d_loadT (rho_gv hb rfl) (ld ty23 rfl rfl) | exact d_load (rho_gv hb rfl) (ld ty23 rfl rfl))) ?_
      refine AXo.gT (f := 0) hev rfl rfl rfl (fun hb => (by first | exact d_lenT (rho_gv hb rfl) ty23 rfl | exact d_lenR (rho_gv hb rfl) ty23 rfl | exact d_lenN (rho_gv hb rfl) ty23 rfl | exact d_lenG (rho_gv hb rfl) ty23 rfl)) ?_
      refine AXo.gT (f := 0) hev rfl rfl rfl (fun hb => d_moveT rfl) ?_
      refine AXo.gT (f := 0) hev rfl rfl rfl (fun hb => d_eqI (rho_gv hb rfl) (rho_gv hb rfl)) ?_
      refine AXo.go (f := 0) hev (by first | exact d_and rfl rfl (fun h => by simp_all) | exact d_pick rfl rfl rfl) ?_
      refine AXo.go (f := 0) hev (d_assignT rfl) ?_
      refine AXo.nil ?_
      refine AX.seq ?_
      refine AX.seq ?_
      refine AX.region ?_
      refine AXo.go (f := 0) hev (d_move rfl) ?_
      refine AXo.go (f := 0) hev ((by first | exact d_lenT rfl ty23 rfl | exact d_lenR rfl ty23 rfl | exact d_lenN rfl ty23 rfl | exact d_lenG rfl ty23 rfl)) ?_
      refine AXo.go (f := 0) hev (d_move rfl) ?_
      refine AXo.nil ?_
      refine AX.block ?_
      refine AX.loop (α := Nat × Int × Bool) (fun x => ⟨frm 119 [(1, .ptr (.loc [0]) 0), (2, .t (.int .i64 x.2.1)), (3, .t (.bool x.2.2)), (97, .t (.sl os)), (98, .t (.int .i64 os.length)), (99, .t (.int .i64 x.1))], [(.loc [0], .cells 26 [.t (.int .u8 k), .t (.str s), .t (.sl os), .t (.sl bs)])], 1⟩) (fun x => x.1 ≤ os.length ∧ 0 ≤ x.2.1 ∧ x.2.1 ≤ n) (fun x => os.length - x.1) (0, 0, _) (Re.sq [.loc [0]] ⟨rfl, rfl, rfl, rfl, rfl, rfl, trivial⟩ ⟨⟨.loc [0], _, rfl, rfl, .inl rfl⟩, trivial⟩ (by decide) rfl rfl (by decide)) ⟨Nat.zero_le _, Int.le_refl 0, by show (0 : Int) ≤ n; omega⟩ (fun x hok => ?_)
      obtain ⟨i, dp, b⟩ := x
      obtain ⟨hi, hd0, hdn⟩ := hok
      replace hi : i ≤ os.length := hi
      replace hd0 : 0 ≤ dp := hd0
      replace hdn : dp ≤ n := hdn
      have hLl : os.length ≤ 8388608 := by omega
      show AX _ _ ⟨frm 119 [(1, .ptr (.loc [0]) 0), (2, .t (.int .i64 dp)), (3, .t (.bool b)), (97, .t (.sl os)), (98, .t (.int .i64 os.length)), (99, .t (.int .i64 i))], [(.loc [0], .cells 26 [.t (.int .u8 k), .t (.str s), .t (.sl os), .t (.sl bs)])], 1⟩ _
      refine AX.seq ?_
      refine AX.region ?_
      refine AXo.go (f := 0) hev (d_ltI rfl rfl) ?_
      refine AXo.nil ?_
      refine AX.seq ?_
      refine AX.cond rfl (fun h100 => ?_) (fun h100 => ?_)
      · have hlt : i < os.length := by have := of_decide_eq_true h100; omega
        obtain ⟨x, he⟩ : ∃ x, os[i]? = some x := ⟨os[i], List.getElem?_eq_getElem hlt⟩
        have hty : Ty x := hos x (List.mem_of_getElem? he)
        obtain ⟨k2, s2, o2, a2, rfl⟩ := hform x hty
        obtain ⟨hb0, hbn⟩ := hbd _ hty
        refine AX.skip ?_
        refine AX.seq ?_
        refine AX.block ?_
        refine AX.seq ?_
        refine AX.region ?_
        refine AXo.go (f := 0) hev (d_indexT rfl rfl ty23 rfl ty26 he rfl) ?_
        refine AXo.go (f := 0) hev ((by first | exact d_loadT rfl (ld ty26 rfl rfl) | exact d_load rfl (ld ty26 rfl rfl))) ?_
        refine AXo.go (f := 0) hev (d_alloc ty26 rfl rfl) ?_
        refine AXo.go0 (f := 0) hev (d_store rfl rfl (stt ty26 rfl rfl)) ?_
        refine AXo.nil ?_
        refine AX.seq ?_
        refine AX.region ?_
        refine AXo.go (f := 0) hev ((by first | exact d_loadT rfl (ld ty26 rfl rfl) | exact d_load rfl (ld ty26 rfl rfl))) ?_
        refine AXo.go (f := 0) hev (d_callT (rh1 rfl) (hsz _ hty)) ?_
        refine AXo.go (f := 0) hev (d_move rfl) ?_
        refine AXo.go (f := 0) hev ((by first | exact d_extractT rfl rfl | exact d_extract rfl rfl)) ?_
        refine AXo.go (f := 0) hev ((by first | exact d_extractT rfl rfl | exact d_extract rfl rfl)) ?_
        refine AXo.go (f := 0) hev (d_assign rfl) ?_
        refine AXo.go (f := 0) hev (d_assign rfl) ?_
        refine AXo.nil ?_
        refine AX.region ?_
        refine AXo.go (f := 0) hev (d_moveT rfl) ?_
        refine AXo.go (f := 0) hev (d_moveT rfl) ?_
        refine AXo.go (f := 0) hev (d_max rfl rfl) ?_
        refine AXo.go (f := 0) hev (d_moveT rfl) ?_
        refine AXo.go (f := 0) hev (d_moveT rfl) ?_
        refine AXo.gT (f := 0) hev rfl rfl rfl (fun hb => d_moveT rfl) ?_
        refine AXo.go (f := 0) hev (by first | exact d_and rfl rfl (fun h => by simp_all) | exact d_pick rfl rfl rfl) ?_
        refine AXo.go (f := 0) hev (d_assignT rfl) ?_
        refine AXo.go (f := 0) hev (d_assignT rfl) ?_
        refine AXo.nil ?_
        refine AX.outNormal ?_
        refine AX.region ?_
        refine AXo.go (f := 0) hev (d_add64 rfl rfl (by omega) (by omega)) ?_
        refine AXo.go (f := 0) hev (d_move rfl) ?_
        refine AXo.nil ?_
        refine ⟨.inl ⟨(i + 1, _, _), ?_⟩, rfl, (Re.sq [.loc [0]] ⟨rfl, rfl, rfl, rfl, rfl, rfl, trivial⟩ ⟨⟨.loc [0], _, rfl, rfl, .inl rfl⟩, trivial⟩ (by decide) rfl rfl (by decide))⟩
        show (i + 1 ≤ os.length ∧ 0 ≤ _ ∧ _ ≤ _) ∧ os.length - (i + 1) < os.length - i
        refine ⟨⟨hlt, (by show 0 ≤ max dp _; omega), (by show max dp _ ≤ _; omega)⟩, by omega⟩
      · skip
        refine AX.exit ?_
        refine AX.thenExit ?_
        refine AX.leave (e := .exit 3) (by simp) ?_
        refine AX.outHere ?_
        refine AX.seq ?_
        refine AX.region ?_
        refine AXo.go (f := 0) hev (d_move rfl) ?_
        refine AXo.go (f := 0) hev (d_add64 rfl rfl (by omega) (by omega)) ?_
        refine AXo.go (f := 0) hev (d_move rfl) ?_
        refine AXo.go (f := 0) hev (d_assign rfl) ?_
        refine AXo.go (f := 0) hev (d_assign rfl) ?_
        refine AXo.nil ?_
        refine AX.ret ?_
        refine ⟨⟨(_, _), ?_⟩, .inl rfl⟩
        show 0 ≤ _ ∧ _ ≤ _
        constructor <;> omega
    · skip
      refine AX.skip ?_
      refine AX.seq ?_
      refine AX.region ?_
      refine AXo.go (f := 0) hev (d_moveT rfl) ?_
      refine AXo.go (f := 0) hev (d_moveT rfl) ?_
      refine AXo.gT (f := 0) hev rfl rfl rfl (fun hb => d_fieldAddr rfl fo26_2 rfl) ?_
      refine AXo.gT (f := 0) hev rfl rfl rfl (fun hb => (by first | exact d_loadT (rho_gv hb rfl) (ld ty23 rfl rfl) | exact d_load (rho_gv hb rfl) (ld ty23 rfl rfl))) ?_
      refine AXo.gT (f := 0) hev rfl rfl rfl (fun hb => (by first | exact d_lenT (rho_gv hb rfl) ty23 rfl | exact d_lenR (rho_gv hb rfl) ty23 rfl | exact d_lenN (rho_gv hb rfl) ty23 rfl | exact d_lenG (rho_gv hb rfl) ty23 rfl)) ?_
      refine AXo.gT (f := 0) hev rfl rfl rfl (fun hb => d_moveT rfl) ?_
      refine AXo.gT (f := 0) hev rfl rfl rfl (fun hb => d_eqI (rho_gv hb rfl) (rho_gv hb rfl)) ?_
      refine AXo.go (f := 0) hev (by first | exact d_and rfl rfl (fun h => by simp_all) | exact d_pick rfl rfl rfl) ?_
      refine AXo.go (f := 0) hev (d_assignT rfl) ?_
      refine AXo.nil ?_
      refine AX.seq ?_
      refine AX.seq ?_
      refine AX.region ?_
      refine AXo.go (f := 0) hev (d_move rfl) ?_
      refine AXo.go (f := 0) hev ((by first | exact d_lenT rfl ty23 rfl | exact d_lenR rfl ty23 rfl | exact d_lenN rfl ty23 rfl | exact d_lenG rfl ty23 rfl)) ?_
      refine AXo.go (f := 0) hev (d_move rfl) ?_
      refine AXo.nil ?_
      refine AX.block ?_
      refine AX.loop (α := Nat × Int × Bool) (fun x => ⟨frm 119 [(1, .ptr (.loc [0]) 0), (2, .t (.int .i64 x.2.1)), (3, .t (.bool x.2.2)), (97, .t (.sl os)), (98, .t (.int .i64 os.length)), (99, .t (.int .i64 x.1))], [(.loc [0], .cells 26 [.t (.int .u8 k), .t (.str s), .t (.sl os), .t (.sl bs)])], 1⟩) (fun x => x.1 ≤ os.length ∧ 0 ≤ x.2.1 ∧ x.2.1 ≤ n) (fun x => os.length - x.1) (0, 0, _) (Re.sq [.loc [0]] ⟨rfl, rfl, rfl, rfl, rfl, rfl, trivial⟩ ⟨⟨.loc [0], _, rfl, rfl, .inl rfl⟩, trivial⟩ (by decide) rfl rfl (by decide)) ⟨Nat.zero_le _, Int.le_refl 0, by show (0 : Int) ≤ n; omega⟩ (fun x hok => ?_)
      obtain ⟨i, dp, b⟩ := x
      obtain ⟨hi, hd0, hdn⟩ := hok
      replace hi : i ≤ os.length := hi
      replace hd0 : 0 ≤ dp := hd0
      replace hdn : dp ≤ n := hdn
      have hLl : os.length ≤ 8388608 := by omega
      show AX _ _ ⟨frm 119 [(1, .ptr (.loc [0]) 0), (2, .t (.int .i64 dp)), (3, .t (.bool b)), (97, .t (.sl os)), (98, .t (.int .i64 os.length)), (99, .t (.int .i64 i))], [(.loc [0], .cells 26 [.t (.int .u8 k), .t (.str s), .t (.sl os), .t (.sl bs)])], 1⟩ _
      refine AX.seq ?_
      refine AX.region ?_
      refine AXo.go (f := 0) hev (d_ltI rfl rfl) ?_
      refine AXo.nil ?_
      refine AX.seq ?_
      refine AX.cond rfl (fun h100 => ?_) (fun h100 => ?_)
      · have hlt : i < os.length := by have := of_decide_eq_true h100; omega
        obtain ⟨x, he⟩ : ∃ x, os[i]? = some x := ⟨os[i], List.getElem?_eq_getElem hlt⟩
        have hty : Ty x := hos x (List.mem_of_getElem? he)
        obtain ⟨k2, s2, o2, a2, rfl⟩ := hform x hty
        obtain ⟨hb0, hbn⟩ := hbd _ hty
        refine AX.skip ?_
        refine AX.seq ?_
        refine AX.block ?_
        refine AX.seq ?_
        refine AX.region ?_
        refine AXo.go (f := 0) hev (d_indexT rfl rfl ty23 rfl ty26 he rfl) ?_
        refine AXo.go (f := 0) hev ((by first | exact d_loadT rfl (ld ty26 rfl rfl) | exact d_load rfl (ld ty26 rfl rfl))) ?_
        refine AXo.go (f := 0) hev (d_alloc ty26 rfl rfl) ?_
        refine AXo.go0 (f := 0) hev (d_store rfl rfl (stt ty26 rfl rfl)) ?_
        refine AXo.nil ?_
        refine AX.seq ?_
        refine AX.region ?_
        refine AXo.go (f := 0) hev ((by first | exact d_loadT rfl (ld ty26 rfl rfl) | exact d_load rfl (ld ty26 rfl rfl))) ?_
        refine AXo.go (f := 0) hev (d_callT (rh1 rfl) (hsz _ hty)) ?_
        refine AXo.go (f := 0) hev (d_move rfl) ?_
        refine AXo.go (f := 0) hev ((by first | exact d_extractT rfl rfl | exact d_extract rfl rfl)) ?_
        refine AXo.go (f := 0) hev ((by first | exact d_extractT rfl rfl | exact d_extract rfl rfl)) ?_
        refine AXo.go (f := 0) hev (d_assign rfl) ?_
        refine AXo.go (f := 0) hev (d_assign rfl) ?_
        refine AXo.nil ?_
        refine AX.region ?_
        refine AXo.go (f := 0) hev (d_moveT rfl) ?_
        refine AXo.go (f := 0) hev (d_moveT rfl) ?_
        refine AXo.go (f := 0) hev (d_max rfl rfl) ?_
        refine AXo.go (f := 0) hev (d_moveT rfl) ?_
        refine AXo.go (f := 0) hev (d_moveT rfl) ?_
        refine AXo.gT (f := 0) hev rfl rfl rfl (fun hb => d_moveT rfl) ?_
        refine AXo.go (f := 0) hev (by first | exact d_and rfl rfl (fun h => by simp_all) | exact d_pick rfl rfl rfl) ?_
        refine AXo.go (f := 0) hev (d_assignT rfl) ?_
        refine AXo.go (f := 0) hev (d_assignT rfl) ?_
        refine AXo.nil ?_
        refine AX.outNormal ?_
        refine AX.region ?_
        refine AXo.go (f := 0) hev (d_add64 rfl rfl (by omega) (by omega)) ?_
        refine AXo.go (f := 0) hev (d_move rfl) ?_
        refine AXo.nil ?_
        refine ⟨.inl ⟨(i + 1, _, _), ?_⟩, rfl, (Re.sq [.loc [0]] ⟨rfl, rfl, rfl, rfl, rfl, rfl, trivial⟩ ⟨⟨.loc [0], _, rfl, rfl, .inl rfl⟩, trivial⟩ (by decide) rfl rfl (by decide))⟩
        show (i + 1 ≤ os.length ∧ 0 ≤ _ ∧ _ ≤ _) ∧ os.length - (i + 1) < os.length - i
        refine ⟨⟨hlt, (by show 0 ≤ max dp _; omega), (by show max dp _ ≤ _; omega)⟩, by omega⟩
      · skip
        refine AX.exit ?_
        refine AX.thenExit ?_
        refine AX.leave (e := .exit 3) (by simp) ?_
        refine AX.outHere ?_
        refine AX.seq ?_
        refine AX.region ?_
        refine AXo.go (f := 0) hev (d_move rfl) ?_
        refine AXo.go (f := 0) hev (d_add64 rfl rfl (by omega) (by omega)) ?_
        refine AXo.go (f := 0) hev (d_move rfl) ?_
        refine AXo.go (f := 0) hev (d_assign rfl) ?_
        refine AXo.go (f := 0) hev (d_assign rfl) ?_
        refine AXo.nil ?_
        refine AX.ret ?_
        refine ⟨⟨(_, _), ?_⟩, .inl rfl⟩
        show 0 ≤ _ ∧ _ ≤ _
        constructor <;> omega
  · skip
    refine AX.seq ?_
    refine AX.region ?_
    refine AXo.go (f := 0) hev (d_eqI rfl rfl) ?_
    refine AXo.go (f := 0) hev (d_assign rfl) ?_
    refine AXo.nil ?_
    refine AX.cond rfl (fun h48 => ?_) (fun h48 => ?_)
    · skip
      refine AX.seq ?_
      refine AX.region ?_
      refine AXo.go (f := 0) hev (d_moveT rfl) ?_
      refine AXo.go (f := 0) hev (d_moveT rfl) ?_
      refine AXo.gT (f := 0) hev rfl rfl rfl (fun hb => d_fieldAddr rfl fo26_3 rfl) ?_
      refine AXo.gT (f := 0) hev rfl rfl rfl (fun hb => (by first | exact d_loadT (rho_gv hb rfl) (ld ty24 rfl rfl) | exact d_load (rho_gv hb rfl) (ld ty24 rfl rfl))) ?_
      refine AXo.gT (f := 0) hev rfl rfl rfl (fun hb => (by first | exact d_lenT (rho_gv hb rfl) ty24 rfl | exact d_lenR (rho_gv hb rfl) ty24 rfl | exact d_lenN (rho_gv hb rfl) ty24 rfl | exact d_lenG (rho_gv hb rfl) ty24 rfl)) ?_
      refine AXo.gT (f := 0) hev rfl rfl rfl (fun hb => d_leI (rho_gv hb rfl) rfl) ?_
      refine AXo.go (f := 0) hev (by first | exact d_and rfl rfl (fun h => by simp_all) | exact d_pick rfl rfl rfl) ?_
      refine AXo.go (f := 0) hev (d_moveT rfl) ?_
      refine AXo.gT (f := 0) hev rfl rfl rfl (fun hb => d_fieldAddr rfl fo26_3 rfl) ?_
      refine AXo.gT (f := 0) hev rfl rfl rfl (fun hb => (by first | exact d_loadT (rho_gv hb rfl) (ld ty24 rfl rfl) | exact d_load (rho_gv hb rfl) (ld ty24 rfl rfl))) ?_
      refine AXo.gT (f := 0) hev rfl rfl rfl (fun hb => d_callT (rh2 (rho_gv hb rfl) rfl) hR) ?_
      refine AXo.go (f := 0) hev (by first | exact d_and rfl rfl (fun h => by simp_all) | exact d_pick rfl rfl rfl) ?_
      refine AXo.go (f := 0) hev (d_moveT rfl) ?_
      refine AXo.gT (f := 0) hev rfl rfl rfl (fun hb => d_fieldAddr rfl fo26_3 rfl) ?_
      refine AXo.gT (f := 0) hev rfl rfl rfl (fun hb => (by first | exact d_loadT (rho_gv hb rfl) (ld ty24 rfl rfl) | exact d_load (rho_gv hb rfl) (ld ty24 rfl rfl))) ?_
      refine AXo.gT (f := 0) hev rfl rfl rfl (fun hb => d_callT (rh2 (rho_gv hb rfl) rfl) hC) ?_
      refine AXo.gT (f := 0) hev rfl rfl rfl (fun hb => d_not (rho_gv hb rfl)) ?_
      refine AXo.go (f := 0) hev (by first | exact d_and rfl rfl (fun h => by simp_all) | exact d_pick rfl rfl rfl) ?_
      refine AXo.go (f := 0) hev (d_assignT rfl) ?_
      refine AXo.nil ?_
      refine AX.seq ?_
      refine AX.region ?_
      refine AXo.go (f := 0) hev (d_fieldAddr rfl fo26_3 rfl) ?_
      refine AXo.go (f := 0) hev ((by first | exact d_loadT rfl (ld ty24 rfl rfl) | exact d_load rfl (ld ty24 rfl rfl))) ?_
      refine AXo.go (f := 0) hev ((by first | exact d_lenT rfl ty24 rfl | exact d_lenR rfl ty24 rfl | exact d_lenN rfl ty24 rfl | exact d_lenG rfl ty24 rfl)) ?_
      refine AXo.go (f := 0) hev (d_move rfl) ?_
      refine AXo.nil ?_
      refine AX.block ?_
      refine AX.loop (α := Nat) (fun i => ⟨frm 119 [(1, .ptr (.loc [0]) 0), (2, .t (.int .i64 0)), (3, _), (4, .t (.sl (os ++ (bs.take i).map tyOfAttr))), (39, .t (.int .u8 k)), (69, .t (.sl bs)), (70, .t (.int .i64 bs.length)), (71, .t (.int .i64 i))], [(.loc [0], .cells 26 [.t (.int .u8 k), .t (.str s), .t (.sl os), .t (.sl bs)])], 1⟩) (fun i => i ≤ bs.length) (fun i => bs.length - i) 0 (Re.sq [.loc [0]] ⟨rfl, rfl, rfl, (by simp only [List.take_zero, List.map_nil, List.append_nil]; rfl), rfl, rfl, rfl, rfl, trivial⟩ ⟨⟨.loc [0], _, rfl, rfl, .inl rfl⟩, trivial⟩ (by decide) rfl rfl (by decide)) (Nat.zero_le _) (fun i hok => ?_)
      replace hok : i ≤ bs.length := hok
      refine AX.seq ?_
      refine AX.region ?_
      refine AXo.go (f := 0) hev (d_ltI rfl rfl) ?_
      refine AXo.nil ?_
      refine AX.seq ?_
      refine AX.cond rfl (fun h72 => ?_) (fun h72 => ?_)
      · have hlt : i < bs.length := by have := of_decide_eq_true h72; omega
        obtain ⟨e, he⟩ : ∃ e, bs[i]? = some e := ⟨bs[i], List.getElem?_eq_getElem hlt⟩
        obtain ⟨nm, k1, s1, o1, a1, rfl, hT1⟩ := hbs e (List.mem_of_getElem? he)
        have hun := uni_ty hform (inner_ty hos hbs (i := i))
        refine AX.skip ?_
        refine AX.seq ?_
        refine AX.block ?_
        refine AX.seq ?_
        refine AX.region ?_
        refine AXo.go (f := 0) hev (d_indexT rfl rfl ty24 rfl ty31 he rfl) ?_
        refine AXo.go (f := 0) hev ((by first | exact d_loadT rfl (ld ty31 rfl rfl) | exact d_load rfl (ld ty31 rfl rfl))) ?_
        refine AXo.go (f := 0) hev (d_alloc ty31 rfl rfl) ?_
        refine AXo.go0 (f := 0) hev (d_store rfl rfl (stt ty31 rfl rfl)) ?_
        refine AXo.nil ?_
        refine AX.draw (f := 0) orders hev ?_
        refine AXd.go rfl (d_move rfl) ?_
        refine AXd.go rfl (d_move rfl) ?_
        refine AXd.go rfl ((by first | exact d_lenT rfl ty23 rfl | exact d_lenR rfl ty23 rfl | exact d_lenN rfl ty23 rfl | exact d_lenG rfl ty23 rfl)) ?_
        refine AXd.go rfl (d_move rfl) ?_
        refine AXd.go rfl ((by first | exact d_lenT rfl ty23 rfl | exact d_lenR rfl ty23 rfl | exact d_lenN rfl ty23 rfl | exact d_lenG rfl ty23 rfl)) ?_
        refine AXd.go rfl (d_cut rfl rfl rfl ty23 rfl ty26 (headOk_of hun)) ?_
        refine AXd.go rfl (d_fieldAddr rfl fo31_1 rfl) ?_
        refine AXd.go rfl ((by first | exact d_loadT rfl (ld ty26 rfl rfl) | exact d_load rfl (ld ty26 rfl rfl))) ?_
        refine AXd.go rfl (d_lit1 rfl rfl ty23 rfl ty26 rfl rfl ⟨rfl, rfl, rfl⟩) ?_
        refine AXd.go rfl (d_appT app23 rfl rfl (.inr rfl) (uni_one ⟨rfl, rfl, rfl⟩) hun (by simp) (inner_bytes hl1 hl2)) ?_
        refine AXd.go rfl (d_assign rfl) ?_
        refine AXd.nil (ex_and2 rfl rfl ?_)
        refine AX.outNormal ?_
        refine AX.region ?_
        refine AXo.go (f := 0) hev (d_add64 rfl rfl (by omega) (by omega)) ?_
        refine AXo.go (f := 0) hev (d_move rfl) ?_
        refine AXo.nil ?_
        refine ⟨.inl ⟨i + 1, by show i + 1 ≤ _ ∧ bs.length - (i + 1) < bs.length - i; omega⟩, rfl, ?_⟩
        refine Re.trans (Re.freeze (d := 4) (N := 2) (H' := [(.loc [0], .cells 26 [.t (.int .u8 k), .t (.str s), .t (.sl os), .t (.sl bs)])]) (frz_row (es := (os ++ (bs.take i).map tyOfAttr) ++ [.agg [.int .u8 k1, .str s1, .sl o1, .sl a1]]) rfl (hun.append (uni_one ⟨rfl, rfl, rfl⟩)) (by decide) (by simp; omega)) (one_heap rfl (by decide)) (by decide)) ?_
        refine Re.sq [.loc [0]] ⟨rfl, rfl, rfl, (by rw [take_tys he, ← List.append_assoc]; rfl), rfl, rfl, rfl, rfl, trivial⟩ ⟨⟨.loc [0], _, rfl, rfl, .inl rfl⟩, trivial⟩ (by decide) rfl rfl (by decide)
      · have hie : i = bs.length := by have := of_decide_eq_false h72; omega
        subst hie
        refine AX.exit ?_
        refine AX.thenExit ?_
        refine AX.leave (e := .exit 1) (by simp) ?_
        refine AX.outHere ?_
        refine AX.outNormal ?_
        refine AX.seq ?_
        refine AX.region ?_
        refine AXo.go (f := 0) hev (d_assign rfl) ?_
        refine AXo.nil ?_
        refine AX.seq ?_
        refine AX.seq ?_
        refine AX.region ?_
        refine AXo.go (f := 0) hev (d_fieldAddr rfl fo26_0 rfl) ?_
        refine AXo.go (f := 0) hev ((by first | exact d_loadT rfl (ld ty22 rfl rfl) | exact d_load rfl (ld ty22 rfl rfl))) ?_
        refine AXo.go (f := 0) hev (d_eqI rfl rfl) ?_
        refine AXo.nil ?_
        refine AX.cond rfl (fun h88 => ?_) (fun h88 => ?_)
        · skip
          refine AX.region ?_
          refine AXo.go (f := 0) hev (d_assign rfl) ?_
          refine AXo.nil ?_
          refine AX.seq ?_
          refine AX.region ?_
          refine AXo.go (f := 0) hev (d_moveT rfl) ?_
          refine AXo.go (f := 0) hev (d_moveT rfl) ?_
          refine AXo.gT (f := 0) hev rfl rfl rfl (fun hb => d_fieldAddr rfl fo26_2 rfl) ?_
          refine AXo.gT (f := 0) hev rfl rfl rfl (fun hb => (by first | exact d_loadT (rho_gv hb rfl) (ld ty23 rfl rfl) | exact d_load (rho_gv hb rfl) (ld ty23 rfl rfl))) ?_
          refine AXo.gT (f := 0) hev rfl rfl rfl (fun hb => (by first | exact d_lenT (rho_gv hb rfl) ty23 rfl | exact d_lenR (rho_gv hb rfl) ty23 rfl | exact d_lenN (rho_gv hb rfl) ty23 rfl | exact d_lenG (rho_gv hb rfl) ty23 rfl)) ?_
          refine AXo.gT (f := 0) hev rfl rfl rfl (fun hb => d_moveT rfl) ?_
          refine AXo.gT (f := 0) hev rfl rfl rfl (fun hb => d_eqI (rho_gv hb rfl) (rho_gv hb rfl)) ?_
          refine AXo.go (f := 0) hev (by first | exact d_and rfl rfl (fun h => by simp_all) | exact d_pick rfl rfl rfl) ?_
          refine AXo.go (f := 0) hev (d_assignT rfl) ?_
          refine AXo.nil ?_
          refine AX.seq ?_
          refine AX.seq ?_
          refine AX.region ?_
          refine AXo.go (f := 0) hev (d_move rfl) ?_
          refine AXo.go (f := 0) hev ((by first | exact d_lenT rfl ty23 rfl | exact d_lenR rfl ty23 rfl | exact d_lenN rfl ty23 rfl | exact d_lenG rfl ty23 rfl)) ?_
          refine AXo.go (f := 0) hev (d_move rfl) ?_
          refine AXo.nil ?_
          refine AX.block ?_
          refine AX.loop (α := Nat × Int × Bool) (fun x => ⟨frm 119 [(1, .ptr (.loc [0]) 0), (2, .t (.int .i64 x.2.1)), (3, .t (.bool x.2.2)), (97, .t (.sl (os ++ (bs.take bs.length).map tyOfAttr))), (98, .t (.int .i64 (os ++ (bs.take bs.length).map tyOfAttr).length)), (99, .t (.int .i64 x.1))], [(.loc [0], .cells 26 [.t (.int .u8 k), .t (.str s), .t (.sl os), .t (.sl bs)])], 1⟩) (fun x => x.1 ≤ (os ++ (bs.take bs.length).map tyOfAttr).length ∧ 0 ≤ x.2.1 ∧ x.2.1 ≤ n) (fun x => (os ++ (bs.take bs.length).map tyOfAttr).length - x.1) (0, 0, _) (Re.sq [.loc [0]] ⟨rfl, rfl, rfl, rfl, rfl, rfl, trivial⟩ ⟨⟨.loc [0], _, rfl, rfl, .inl rfl⟩, trivial⟩ (by decide) rfl rfl (by decide)) ⟨Nat.zero_le _, Int.le_refl 0, by show (0 : Int) ≤ n; omega⟩ (fun x hok => ?_)
          obtain ⟨i, dp, b⟩ := x
          obtain ⟨hi, hd0, hdn⟩ := hok
          replace hi : i ≤ (os ++ (bs.take bs.length).map tyOfAttr).length := hi
          replace hd0 : 0 ≤ dp := hd0
          replace hdn : dp ≤ n := hdn
          have hLl : (os ++ (bs.take bs.length).map tyOfAttr).length ≤ 8388608 := inner_len hl1 hl2
          show AX _ _ ⟨frm 119 [(1, .ptr (.loc [0]) 0), (2, .t (.int .i64 dp)), (3, .t (.bool b)), (97, .t (.sl (os ++ (bs.take bs.length).map tyOfAttr))), (98, .t (.int .i64 (os ++ (bs.take bs.length).map tyOfAttr).length)), (99, .t (.int .i64 i))], [(.loc [0], .cells 26 [.t (.int .u8 k), .t (.str s), .t (.sl os), .t (.sl bs)])], 1⟩ _
          refine AX.seq ?_
          refine AX.region ?_
          refine AXo.go (f := 0) hev (d_ltI rfl rfl) ?_
          refine AXo.nil ?_
          refine AX.seq ?_
          refine AX.cond rfl (fun h100 => ?_) (fun h100 => ?_)
          · have hlt : i < (os ++ (bs.take bs.length).map tyOfAttr).length := by have := of_decide_eq_true h100; omega
            obtain ⟨x, he⟩ : ∃ x, (os ++ (bs.take bs.length).map tyOfAttr)[i]? = some x := ⟨(os ++ (bs.take bs.length).map tyOfAttr)[i], List.getElem?_eq_getElem hlt⟩
            have hty : Ty x := inner_ty hos hbs x (List.mem_of_getElem? he)
            obtain ⟨k2, s2, o2, a2, rfl⟩ := hform x hty
            obtain ⟨hb0, hbn⟩ := hbd _ hty
            refine AX.skip ?_
            refine AX.seq ?_
            refine AX.block ?_
            refine AX.seq ?_
            refine AX.region ?_
            refine AXo.go (f := 0) hev (d_indexT rfl rfl ty23 rfl ty26 he rfl) ?_
            refine AXo.go (f := 0) hev ((by first | exact d_loadT rfl (ld ty26 rfl rfl) | exact d_load rfl (ld ty26 rfl rfl))) ?_
            refine AXo.go (f := 0) hev (d_alloc ty26 rfl rfl) ?_
            refine AXo.go0 (f := 0) hev (d_store rfl rfl (stt ty26 rfl rfl)) ?_
            refine AXo.nil ?_
            refine AX.seq ?_
            refine AX.region ?_
            refine AXo.go (f := 0) hev ((by first | exact d_loadT rfl (ld ty26 rfl rfl) | exact d_load rfl (ld ty26 rfl rfl))) ?_
            refine AXo.go (f := 0) hev (d_callT (rh1 rfl) (hsz _ hty)) ?_
            refine AXo.go (f := 0) hev (d_move rfl) ?_
            refine AXo.go (f := 0) hev ((by first | exact d_extractT rfl rfl | exact d_extract rfl rfl)) ?_
            refine AXo.go (f := 0) hev ((by first | exact d_extractT rfl rfl | exact d_extract rfl rfl)) ?_
            refine AXo.go (f := 0) hev (d_assign rfl) ?_
            refine AXo.go (f := 0) hev (d_assign rfl) ?_
            refine AXo.nil ?_
            refine AX.region ?_
            refine AXo.go (f := 0) hev (d_moveT rfl) ?_
            refine AXo.go (f := 0) hev (d_moveT rfl) ?_
            refine AXo.go (f := 0) hev (d_max rfl rfl) ?_
            refine AXo.go (f := 0) hev (d_moveT rfl) ?_
            refine AXo.go (f := 0) hev (d_moveT rfl) ?_
            refine AXo.gT (f := 0) hev rfl rfl rfl (fun hb => d_moveT rfl) ?_
            refine AXo.go (f := 0) hev (by first | exact d_and rfl rfl (fun h => by simp_all) | exact d_pick rfl rfl rfl) ?_
            refine AXo.go (f := 0) hev (d_assignT rfl) ?_
            refine AXo.go (f := 0) hev (d_assignT rfl) ?_
            refine AXo.nil ?_
            refine AX.outNormal ?_
            refine AX.region ?_
            refine AXo.go (f := 0) hev (d_add64 rfl rfl (by omega) (by omega)) ?_
            refine AXo.go (f := 0) hev (d_move rfl) ?_
            refine AXo.nil ?_
            refine ⟨.inl ⟨(i + 1, _, _), ?_⟩, rfl, (Re.sq [.loc [0]] ⟨rfl, rfl, rfl, rfl, rfl, rfl, trivial⟩ ⟨⟨.loc [0], _, rfl, rfl, .inl rfl⟩, trivial⟩ (by decide) rfl rfl (by decide))⟩
            show (i + 1 ≤ (os ++ (bs.take bs.length).map tyOfAttr).length ∧ 0 ≤ _ ∧ _ ≤ _) ∧ (os ++ (bs.take bs.length).map tyOfAttr).length - (i + 1) < (os ++ (bs.take bs.length).map tyOfAttr).length - i
            refine ⟨⟨hlt, (by show 0 ≤ max dp _; omega), (by show max dp _ ≤ _; omega)⟩, by omega⟩
          · skip
            refine AX.exit ?_
            refine AX.thenExit ?_
            refine AX.leave (e := .exit 3) (by simp) ?_
            refine AX.outHere ?_
            refine AX.seq ?_
            refine AX.region ?_
            refine AXo.go (f := 0) hev (d_move rfl) ?_
            refine AXo.go (f := 0) hev (d_add64 rfl rfl (by omega) (by omega)) ?_
            refine AXo.go (f := 0) hev (d_move rfl) ?_
            refine AXo.go (f := 0) hev (d_assign rfl) ?_
            refine AXo.go (f := 0) hev (d_assign rfl) ?_
            refine AXo.nil ?_
            refine AX.ret ?_
            refine ⟨⟨(_, _), ?_⟩, .inl rfl⟩
            show 0 ≤ _ ∧ _ ≤ _
            constructor <;> omega
        · skip
          refine AX.skip ?_
          refine AX.seq ?_
          refine AX.region ?_
          refine AXo.go (f := 0) hev (d_moveT rfl) ?_
          refine AXo.go (f := 0) hev (d_moveT rfl) ?_
          refine AXo.gT (f := 0) hev rfl rfl rfl (fun hb => d_fieldAddr rfl fo26_2 rfl) ?_
          refine AXo.gT (f := 0) hev rfl rfl rfl (fun hb => (by first | exact d_loadT (rho_gv hb rfl) (ld ty23 rfl rfl) | exact d_load (rho_gv hb rfl) (ld ty23 rfl rfl))) ?_
          refine AXo.gT (f := 0) hev rfl rfl rfl (fun hb => (by first | exact d_lenT (rho_gv hb rfl) ty23 rfl | exact d_lenR (rho_gv hb rfl) ty23 rfl | exact d_lenN (rho_gv hb rfl) ty23 rfl | exact d_lenG (rho_gv hb rfl) ty23 rfl)) ?_
          refine AXo.gT (f := 0) hev rfl rfl rfl (fun hb => d_moveT rfl) ?_
          refine AXo.gT (f := 0) hev rfl rfl rfl (fun hb => d_eqI (rho_gv hb rfl) (rho_gv hb rfl)) ?_
          refine AXo.go (f := 0) hev (by first | exact d_and rfl rfl (fun h => by simp_all) | exact d_pick rfl rfl rfl) ?_
          refine AXo.go (f := 0) hev (d_assignT rfl) ?_
          refine AXo.nil ?_
          refine AX.seq ?_
          refine AX.seq ?_
          refine AX.region ?_
          refine AXo.go (f := 0) hev (d_move rfl) ?_
          refine AXo.go (f := 0) hev ((by first | exact d_lenT rfl ty23 rfl | exact d_lenR rfl ty23 rfl | exact d_lenN rfl ty23 rfl | exact d_lenG rfl ty23 rfl)) ?_
          refine AXo.go (f := 0) hev (d_move rfl) ?_
          refine AXo.nil ?_
          refine AX.block ?_
          refine AX.loop (α := Nat × Int × Bool) (fun x => ⟨frm 119 [(1, .ptr (.loc [0]) 0), (2, .t (.int .i64 x.2.1)), (3, .t (.bool x.2.2)), (97, .t (.sl (os ++ (bs.take bs.length).map tyOfAttr))), (98, .t (.int .i64 (os ++ (bs.take bs.length).map tyOfAttr).length)), (99, .t (.int .i64 x.1))], [(.loc [0], .cells 26 [.t (.int .u8 k), .t (.str s), .t (.sl os), .t (.sl bs)])], 1⟩) (fun x => x.1 ≤ (os ++ (bs.take bs.length).map tyOfAttr).length ∧ 0 ≤ x.2.1 ∧ x.2.1 ≤ n) (fun x => (os ++ (bs.take bs.length).map tyOfAttr).length - x.1) (0, 0, _) (Re.sq [.loc [0]] ⟨rfl, rfl, rfl, rfl, rfl, rfl, trivial⟩ ⟨⟨.loc [0], _, rfl, rfl, .inl rfl⟩, trivial⟩ (by decide) rfl rfl (by decide)) ⟨Nat.zero_le _, Int.le_refl 0, by show (0 : Int) ≤ n; omega⟩ (fun x hok => ?_)
          obtain ⟨i, dp, b⟩ := x
          obtain ⟨hi, hd0, hdn⟩ := hok
          replace hi : i ≤ (os ++ (bs.take bs.length).map tyOfAttr).length := hi
          replace hd0 : 0 ≤ dp := hd0
          replace hdn : dp ≤ n := hdn
          have hLl : (os ++ (bs.take bs.length).map tyOfAttr).length ≤ 8388608 := inner_len hl1 hl2
          show AX _ _ ⟨frm 119 [(1, .ptr (.loc [0]) 0), (2, .t (.int .i64 dp)), (3, .t (.bool b)), (97, .t (.sl (os ++ (bs.take bs.length).map tyOfAttr))), (98, .t (.int .i64 (os ++ (bs.take bs.length).map tyOfAttr).length)), (99, .t (.int .i64 i))], [(.loc [0], .cells 26 [.t (.int .u8 k), .t (.str s), .t (.sl os), .t (.sl bs)])], 1⟩ _
          refine AX.seq ?_
          refine AX.region ?_
          refine AXo.go (f := 0) hev (d_ltI rfl rfl) ?_
          refine AXo.nil ?_
          refine AX.seq ?_
          refine AX.cond rfl (fun h100 => ?_) (fun h100 => ?_)
          · have hlt : i < (os ++ (bs.take bs.length).map tyOfAttr).length := by have := of_decide_eq_true h100; omega
            obtain ⟨x, he⟩ : ∃ x, (os ++ (bs.take bs.length).map tyOfAttr)[i]? = some x := ⟨(os ++ (bs.take bs.length).map tyOfAttr)[i], List.getElem?_eq_getElem hlt⟩
            have hty : Ty x := inner_ty hos hbs x (List.mem_of_getElem? he)
            obtain ⟨k2, s2, o2, a2, rfl⟩ := hform x hty
            obtain ⟨hb0, hbn⟩ := hbd _ hty
            refine AX.skip ?_
            refine AX.seq ?_
            refine AX.block ?_
            refine AX.seq ?_
            refine AX.region ?_
            refine AXo.go (f := 0) hev (d_indexT rfl rfl ty23 rfl ty26 he rfl) ?_
            refine AXo.go (f := 0) hev ((by first | exact d_loadT rfl (ld ty26 rfl rfl) | exact d_load rfl (ld ty26 rfl rfl))) ?_
            refine AXo.go (f := 0) hev (d_alloc ty26 rfl rfl) ?_
            refine AXo.go0 (f := 0) hev (d_store rfl rfl (stt ty26 rfl rfl)) ?_
            refine AXo.nil ?_
            refine AX.seq ?_
            refine AX.region ?_
            refine AXo.go (f := 0) hev ((by first | exact d_loadT rfl (ld ty26 rfl rfl) | exact d_load rfl (ld ty26 rfl rfl))) ?_
            refine AXo.go (f := 0) hev (d_callT (rh1 rfl) (hsz _ hty)) ?_
            refine AXo.go (f := 0) hev (d_move rfl) ?_
            refine AXo.go (f := 0) hev ((by first | exact d_extractT rfl rfl | exact d_extract rfl rfl)) ?_
            refine AXo.go (f := 0) hev ((by first | exact d_extractT rfl rfl | exact d_extract rfl rfl)) ?_
            refine AXo.go (f := 0) hev (d_assign rfl) ?_
            refine AXo.go (f := 0) hev (d_assign rfl) ?_
            refine AXo.nil ?_
            refine AX.region ?_
            refine AXo.go (f := 0) hev (d_moveT rfl) ?_
            refine AXo.go (f := 0) hev (d_moveT rfl) ?_
            refine AXo.go (f := 0) hev (d_max rfl rfl) ?_
            refine AXo.go (f := 0) hev (d_moveT rfl) ?_
            refine AXo.go (f := 0) hev (d_moveT rfl) ?_
            refine AXo.gT (f := 0) hev rfl rfl rfl (fun hb => d_moveT rfl) ?_
            refine AXo.go (f := 0) hev (by first | exact d_and rfl rfl (fun h => by simp_all) | exact d_pick rfl rfl rfl) ?_
            refine AXo.go (f := 0) hev (d_assignT rfl) ?_
            refine AXo.go (f := 0) hev (d_assignT rfl) ?_
            refine AXo.nil ?_
            refine AX.outNormal ?_
            refine AX.region ?_
            refine AXo.go (f := 0) hev (d_add64 rfl rfl (by omega) (by omega)) ?_
            refine AXo.go (f := 0) hev (d_move rfl) ?_
            refine AXo.nil ?_
            refine ⟨.inl ⟨(i + 1, _, _), ?_⟩, rfl, (Re.sq [.loc [0]] ⟨rfl, rfl, rfl, rfl, rfl, rfl, trivial⟩ ⟨⟨.loc [0], _, rfl, rfl, .inl rfl⟩, trivial⟩ (by decide) rfl rfl (by decide))⟩
            show (i + 1 ≤ (os ++ (bs.take bs.length).map tyOfAttr).length ∧ 0 ≤ _ ∧ _ ≤ _) ∧ (os ++ (bs.take bs.length).map tyOfAttr).length - (i + 1) < (os ++ (bs.take bs.length).map tyOfAttr).length - i
            refine ⟨⟨hlt, (by show 0 ≤ max dp _; omega), (by show max dp _ ≤ _; omega)⟩, by omega⟩
          · skip
            refine AX.exit ?_
            refine AX.thenExit ?_
            refine AX.leave (e := .exit 3) (by simp) ?_
            refine AX.outHere ?_
            refine AX.seq ?_
            refine AX.region ?_
            refine AXo.go (f := 0) hev (d_move rfl) ?_
            refine AXo.go (f := 0) hev (d_add64 rfl rfl (by omega) (by omega)) ?_
            refine AXo.go (f := 0) hev (d_move rfl) ?_
            refine AXo.go (f := 0) hev (d_assign rfl) ?_
            refine AXo.go (f := 0) hev (d_assign rfl) ?_
            refine AXo.nil ?_
            refine AX.ret ?_
            refine ⟨⟨(_, _), ?_⟩, .inl rfl⟩
            show 0 ≤ _ ∧ _ ≤ _
            constructor <;> omega
    · skip
      refine AX.skip ?_
      refine AX.outNormal ?_
      refine AX.seq ?_
      refine AX.region ?_
      refine AXo.go (f := 0) hev (d_assign rfl) ?_
      refine AXo.nil ?_
      refine AX.seq ?_
      refine AX.seq ?_
      refine AX.region ?_
      refine AXo.go (f := 0) hev (d_fieldAddr rfl fo26_0 rfl) ?_
      refine AXo.go (f := 0) hev ((by first | exact d_loadT rfl (ld ty22 rfl rfl) | exact d_load rfl (ld ty22 rfl rfl))) ?_
      refine AXo.go (f := 0) hev (d_eqI rfl rfl) ?_
      refine AXo.nil ?_
      refine AX.cond rfl (fun h88 => ?_) (fun h88 => ?_)
      · skip
        refine AX.region ?_
        refine AXo.go (f := 0) hev (d_assign rfl) ?_
        refine AXo.nil ?_
        refine AX.seq ?_
        refine AX.region ?_
        refine AXo.go (f := 0) hev (d_moveT rfl) ?_
        refine AXo.go (f := 0) hev (d_moveT rfl) ?_
        refine AXo.gT (f := 0) hev rfl rfl rfl (fun hb => d_fieldAddr rfl fo26_2 rfl) ?_
        refine AXo.gT (f := 0) hev rfl rfl rfl (fun hb => (by first | exact d_loadT (rho_gv hb rfl) (ld ty23 rfl rfl) | exact d_load (rho_gv hb rfl) (ld ty23 rfl rfl))) ?_
        refine AXo.gT (f := 0) hev rfl rfl rfl (fun hb => (by first | exact d_lenT (rho_gv hb rfl) ty23 rfl | exact d_lenR (rho_gv hb rfl) ty23 rfl | exact d_lenN (rho_gv hb rfl) ty23 rfl | exact d_lenG (rho_gv hb rfl) ty23 rfl)) ?_
        refine AXo.gT (f := 0) hev rfl rfl rfl (fun hb => d_moveT rfl) ?_
        refine AXo.gT (f := 0) hev rfl rfl rfl (fun hb => d_eqI (rho_gv hb rfl) (rho_gv hb rfl)) ?_
        refine AXo.go (f := 0) hev (by first | exact d_and rfl rfl (fun h => by simp_all) | exact d_pick rfl rfl rfl) ?_
        refine AXo.go (f := 0) hev (d_assignT rfl) ?_
        refine AXo.nil ?_
        refine AX.seq ?_
        refine AX.seq ?_
        refine AX.region ?_
        refine AXo.go (f := 0) hev (d_move rfl) ?_
        refine AXo.go (f := 0) hev ((by first | exact d_lenT rfl ty23 rfl | exact d_lenR rfl ty23 rfl | exact d_lenN rfl ty23 rfl | exact d_lenG rfl ty23 rfl)) ?_
        refine AXo.go (f := 0) hev (d_move rfl) ?_
        refine AXo.nil ?_
        refine AX.block ?_
        refine AX.loop (α := Nat × Int × Bool) (fun x => ⟨frm 119 [(1, .ptr (.loc [0]) 0), (2, .t (.int .i64 x.2.1)), (3, .t (.bool x.2.2)), (97, .t (.sl os)), (98, .t (.int .i64 os.length)), (99, .t (.int .i64 x.1))], [(.loc [0], .cells 26 [.t (.int .u8 k), .t (.str s), .t (.sl os), .t (.sl bs)])], 1⟩) (fun x => x.1 ≤ os.length ∧ 0 ≤ x.2.1 ∧ x.2.1 ≤ n) (fun x => os.length - x.1) (0, 0, _) (Re.sq [.loc [0]] ⟨rfl, rfl, rfl, rfl, rfl, rfl, trivial⟩ ⟨⟨.loc [0], _, rfl, rfl, .inl rfl⟩, trivial⟩ (by decide) rfl rfl (by decide)) ⟨Nat.zero_le _, Int.le_refl 0, by show (0 : Int) ≤ n; omega⟩ (fun x hok => ?_)
        obtain ⟨i, dp, b⟩ := x
        obtain ⟨hi, hd0, hdn⟩ := hok
        replace hi : i ≤ os.length := hi
        replace hd0 : 0 ≤ dp := hd0
        replace hdn : dp ≤ n := hdn
        have hLl : os.length ≤ 8388608 := by omega
        show AX _ _ ⟨frm 119 [(1, .ptr (.loc [0]) 0), (2, .t (.int .i64 dp)), (3, .t (.bool b)), (97, .t (.sl os)), (98, .t (.int .i64 os.length)), (99, .t (.int .i64 i))], [(.loc [0], .cells 26 [.t (.int .u8 k), .t (.str s), .t (.sl os), .t (.sl bs)])], 1⟩ _
        refine AX.seq ?_
        refine AX.region ?_
        refine AXo.go (f := 0) hev (d_ltI rfl rfl) ?_
        refine AXo.nil ?_
        refine AX.seq ?_
        refine AX.cond rfl (fun h100 => ?_) (fun h100 => ?_)
        · have hlt : i < os.length := by have := of_decide_eq_true h100; omega
          obtain ⟨x, he⟩ : ∃ x, os[i]? = some x := ⟨os[i], List.getElem?_eq_getElem hlt⟩
          have hty : Ty x := hos x (List.mem_of_getElem? he)
          obtain ⟨k2, s2, o2, a2, rfl⟩ := hform x hty
          obtain ⟨hb0, hbn⟩ := hbd _ hty
          refine AX.skip ?_
          refine AX.seq ?_
          refine AX.block ?_
          refine AX.seq ?_
          refine AX.region ?_
          refine AXo.go (f := 0) hev (d_indexT rfl rfl ty23 rfl ty26 he rfl) ?_
          refine AXo.go (f := 0) hev ((by first | exact d_loadT rfl (ld ty26 rfl rfl) | exact d_load rfl (ld ty26 rfl rfl))) ?_
          refine AXo.go (f := 0) hev (d_alloc ty26 rfl rfl) ?_
          refine AXo.go0 (f := 0) hev (d_store rfl rfl (stt ty26 rfl rfl)) ?_
          refine AXo.nil ?_
          refine AX.seq ?_
          refine AX.region ?_
          refine AXo.go (f := 0) hev ((by first | exact d_loadT rfl (ld ty26 rfl rfl) | exact d_load rfl (ld ty26 rfl rfl))) ?_
          refine AXo.go (f := 0) hev (d_callT (rh1 rfl) (hsz _ hty)) ?_
          refine AXo.go (f := 0) hev (d_move rfl) ?_
          refine AXo.go (f := 0) hev ((by first | exact d_extractT rfl rfl | exact d_extract rfl rfl)) ?_
          refine AXo.go (f := 0) hev ((by first | exact d_extractT rfl rfl | exact d_extract rfl rfl)) ?_
          refine AXo.go (f := 0) hev (d_assign rfl) ?_
          refine AXo.go (f := 0) hev (d_assign rfl) ?_
          refine AXo.nil ?_
          refine AX.region ?_
          refine AXo.go (f := 0) hev (d_moveT rfl) ?_
          refine AXo.go (f := 0) hev (d_moveT rfl) ?_
          refine AXo.go (f := 0) hev (d_max rfl rfl) ?_
          refine AXo.go (f := 0) hev (d_moveT rfl) ?_
          refine AXo.go (f := 0) hev (d_moveT rfl) ?_
          refine AXo.gT (f := 0) hev rfl rfl rfl (fun hb => d_moveT rfl) ?_
          refine AXo.go (f := 0) hev (by first | exact d_and rfl rfl (fun h => by simp_all) | exact d_pick rfl rfl rfl) ?_
          refine AXo.go (f := 0) hev (d_assignT rfl) ?_
          refine AXo.go (f := 0) hev (d_assignT rfl) ?_
          refine AXo.nil ?_
          refine AX.outNormal ?_
          refine AX.region ?_
          refine AXo.go (f := 0) hev (d_add64 rfl rfl (by omega) (by omega)) ?_
          refine AXo.go (f := 0) hev (d_move rfl) ?_
          refine AXo.nil ?_
          refine ⟨.inl ⟨(i + 1, _, _), ?_⟩, rfl, (Re.sq [.loc [0]] ⟨rfl, rfl, rfl, rfl, rfl, rfl, trivial⟩ ⟨⟨.loc [0], _, rfl, rfl, .inl rfl⟩, trivial⟩ (by decide) rfl rfl (by decide))⟩
          show (i + 1 ≤ os.length ∧ 0 ≤ _ ∧ _ ≤ _) ∧ os.length - (i + 1) < os.length - i
          refine ⟨⟨hlt, (by show 0 ≤ max dp _; omega), (by show max dp _ ≤ _; omega)⟩, by omega⟩
        · skip
          refine AX.exit ?_
          refine AX.thenExit ?_
          refine AX.leave (e := .exit 3) (by simp) ?_
          refine AX.outHere ?_
          refine AX.seq ?_
          refine AX.region ?_
          refine AXo.go (f := 0) hev (d_move rfl) ?_
          refine AXo.go (f := 0) hev (d_add64 rfl rfl (by omega) (by omega)) ?_
          refine AXo.go (f := 0) hev (d_move rfl) ?_
          refine AXo.go (f := 0) hev (d_assign rfl) ?_
          refine AXo.go (f := 0) hev (d_assign rfl) ?_
          refine AXo.nil ?_
          refine AX.ret ?_
          refine ⟨⟨(_, _), ?_⟩, .inl rfl⟩
          show 0 ≤ _ ∧ _ ≤ _
          constructor <;> omega
      · skip
        refine AX.skip ?_
        refine AX.seq ?_
        refine AX.region ?_
        refine AXo.go (f := 0) hev (d_moveT rfl) ?_
        refine AXo.go (f := 0) hev (d_moveT rfl) ?_
        refine AXo.gT (f := 0) hev rfl rfl rfl (fun hb => d_fieldAddr rfl fo26_2 rfl) ?_
        refine AXo.gT (f := 0) hev rfl rfl rfl (fun hb => (by first | exact d_loadT (rho_gv hb rfl) (ld ty23 rfl rfl) | exact d_load (rho_gv hb rfl) (ld ty23 rfl rfl))) ?_
        refine AXo.gT (f := 0) hev rfl rfl rfl (fun hb => (by first | exact d_lenT (rho_gv hb rfl) ty23 rfl | exact d_lenR (rho_gv hb rfl) ty23 rfl | exact d_lenN (rho_gv hb rfl) ty23 rfl | exact d_lenG (rho_gv hb rfl) ty23 rfl)) ?_
        refine AXo.gT (f := 0) hev rfl rfl rfl (fun hb => d_moveT rfl) ?_
        refine AXo.gT (f := 0) hev rfl rfl rfl (fun hb => d_eqI (rho_gv hb rfl) (rho_gv hb rfl)) ?_
        refine AXo.go (f := 0) hev (by first | exact d_and rfl rfl (fun h => by simp_all) | exact d_pick rfl rfl rfl) ?_
        refine AXo.go (f := 0) hev (d_assignT rfl) ?_
        refine AXo.nil ?_
        refine AX.seq ?_
        refine AX.seq ?_
        refine AX.region ?_
        refine AXo.go (f := 0) hev (d_move rfl) ?_
        refine AXo.go (f := 0) hev ((by first | exact d_lenT rfl ty23 rfl | exact d_lenR rfl ty23 rfl | exact d_lenN rfl ty23 rfl | exact d_lenG rfl ty23 rfl)) ?_
        refine AXo.go (f := 0) hev (d_move rfl) ?_
        refine AXo.nil ?_
        refine AX.block ?_
        refine AX.loop (α := Nat × Int × Bool) (fun x => ⟨frm 119 [(1, .ptr (.loc [0]) 0), (2, .t (.int .i64 x.2.1)), (3, .t (.bool x.2.2)), (97, .t (.sl os)), (98, .t (.int .i64 os.length)), (99, .t (.int .i64 x.1))], [(.loc [0], .cells 26 [.t (.int .u8 k), .t (.str s), .t (.sl os), .t (.sl bs)])], 1⟩) (fun x => x.1 ≤ os.length ∧ 0 ≤ x.2.1 ∧ x.2.1 ≤ n) (fun x => os.length - x.1) (0, 0, _) (Re.sq [.loc [0]] ⟨rfl, rfl, rfl, rfl, rfl, rfl, trivial⟩ ⟨⟨.loc [0], _, rfl, rfl, .inl rfl⟩, trivial⟩ (by decide) rfl rfl (by decide)) ⟨Nat.zero_le _, Int.le_refl 0, by show (0 : Int) ≤ n; omega⟩ (fun x hok => ?_)
        obtain ⟨i, dp, b⟩ := x
        obtain ⟨hi, hd0, hdn⟩ := hok
        replace hi : i ≤ os.length := hi
        replace hd0 : 0 ≤ dp := hd0
        replace hdn : dp ≤ n := hdn
        have hLl : os.length ≤ 8388608 := by omega
        show AX _ _ ⟨frm 119 [(1, .ptr (.loc [0]) 0), (2, .t (.int .i64 dp)), (3, .t (.bool b)), (97, .t (.sl os)), (98, .t (.int .i64 os.length)), (99, .t (.int .i64 i))], [(.loc [0], .cells 26 [.t (.int .u8 k), .t (.str s), .t (.sl os), .t (.sl bs)])], 1⟩ _
        refine AX.seq ?_
        refine AX.region ?_
        refine AXo.go (f := 0) hev (d_ltI rfl rfl) ?_
        refine AXo.nil ?_
        refine AX.seq ?_
        refine AX.cond rfl (fun h100 => ?_) (fun h100 => ?_)
        · have hlt : i < os.length := by have := of_decide_eq_true h100; omega
          obtain ⟨x, he⟩ : ∃ x, os[i]? = some x := ⟨os[i], List.getElem?_eq_getElem hlt⟩
          have hty : Ty x := hos x (List.mem_of_getElem? he)
          obtain ⟨k2, s2, o2, a2, rfl⟩ := hform x hty
          obtain ⟨hb0, hbn⟩ := hbd _ hty
          refine AX.skip ?_
          refine AX.seq ?_
          refine AX.block ?_
          refine AX.seq ?_
          refine AX.region ?_
          refine AXo.go (f := 0) hev (d_indexT rfl rfl ty23 rfl ty26 he rfl) ?_
          refine AXo.go (f := 0) hev ((by first | exact d_loadT rfl (ld ty26 rfl rfl) | exact d_load rfl (ld ty26 rfl rfl))) ?_
          refine AXo.go (f := 0) hev (d_alloc ty26 rfl rfl) ?_
          refine AXo.go0 (f := 0) hev (d_store rfl rfl (stt ty26 rfl rfl)) ?_
          refine AXo.nil ?_
          refine AX.seq ?_
          refine AX.region ?_
          refine AXo.go (f := 0) hev ((by first | exact d_loadT rfl (ld ty26 rfl rfl) | exact d_load rfl (ld ty26 rfl rfl))) ?_
          refine AXo.go (f := 0) hev (d_callT (rh1 rfl) (hsz _ hty)) ?_
          refine AXo.go (f := 0) hev (d_move rfl) ?_
          refine AXo.go (f := 0) hev ((by first | exact d_extractT rfl rfl | exact d_extract rfl rfl)) ?_
          refine AXo.go (f := 0) hev ((by first | exact d_extractT rfl rfl | exact d_extract rfl rfl)) ?_
          refine AXo.go (f := 0) hev (d_assign rfl) ?_
          refine AXo.go (f := 0) hev (d_assign rfl) ?_
          refine AXo.nil ?_
          refine AX.region ?_
          refine AXo.go (f := 0) hev (d_moveT rfl) ?_
          refine AXo.go (f := 0) hev (d_moveT rfl) ?_
          refine AXo.go (f := 0) hev (d_max rfl rfl) ?_
          refine AXo.go (f := 0) hev (d_moveT rfl) ?_
          refine AXo.go (f := 0) hev (d_moveT rfl) ?_
          refine AXo.gT (f := 0) hev rfl rfl rfl (fun hb => d_moveT rfl) ?_
          refine AXo.go (f := 0) hev (by first | exact d_and rfl rfl (fun h => by simp_all) | exact d_pick rfl rfl rfl) ?_
          refine AXo.go (f := 0) hev (d_assignT rfl) ?_
          refine AXo.go (f := 0) hev (d_assignT rfl) ?_
          refine AXo.nil ?_
          refine AX.outNormal ?_
          refine AX.region ?_
          refine AXo.go (f := 0) hev (d_add64 rfl rfl (by omega) (by omega)) ?_
          refine AXo.go (f := 0) hev (d_move rfl) ?_
          refine AXo.nil ?_
          refine ⟨.inl ⟨(i + 1, _, _), ?_⟩, rfl, (Re.sq [.loc [0]] ⟨rfl, rfl, rfl, rfl, rfl, rfl, trivial⟩ ⟨⟨.loc [0], _, rfl, rfl, .inl rfl⟩, trivial⟩ (by decide) rfl rfl (by decide))⟩
          show (i + 1 ≤ os.length ∧ 0 ≤ _ ∧ _ ≤ _) ∧ os.length - (i + 1) < os.length - i
          refine ⟨⟨hlt, (by show 0 ≤ max dp _; omega), (by show max dp _ ≤ _; omega)⟩, by omega⟩
        · skip
          refine AX.exit ?_
          refine AX.thenExit ?_
          refine AX.leave (e := .exit 3) (by simp) ?_
          refine AX.outHere ?_
          refine AX.seq ?_
          refine AX.region ?_
          refine AXo.go (f := 0) hev (d_move rfl) ?_
          refine AXo.go (f := 0) hev (d_add64 rfl rfl (by omega) (by omega)) ?_
          refine AXo.go (f := 0) hev (d_move rfl) ?_
          refine AXo.go (f := 0) hev (d_assign rfl) ?_
          refine AXo.go (f := 0) hev (d_assign rfl) ?_
          refine AXo.nil ?_
          refine AX.ret ?_
          refine ⟨⟨(_, _), ?_⟩, .inl rfl⟩
          show 0 ≤ _ ∧ _ ≤ _
          constructor <;> omega

/-! ### Arguments of the schema's types -/
open Go.Proofs.YtbahblehihbpkaaGreatDoor.arg
theorem AttE.mono {P Q : Tree → Prop} (h : ∀ x, P x → Q x) {e : Tree} : AttE P e → AttE Q e := fun ⟨nm, k, s, o, a, h1, h2⟩ => ⟨nm, k, s, o, a, h1, h _ h2⟩
theorem TyN.up : ∀ {n : Nat} {T : Tree}, TyN n T → TyN (n + 1) T
  | 0, _, h => h.elim
  | n + 1, T, ⟨k, s, os, bs, h1, h2, h3, h4, h5⟩ => ⟨k, s, os, bs, h1, h2, h3, fun x hx => TyN.up (h4 x hx), fun e he => (h5 e he).mono fun x hx => TyN.up hx⟩
theorem TyN.mono {n m : Nat} (hle : n ≤ m) {T : Tree} (h : TyN n T) : TyN m T := by
  induction hle with
  | refl => exact h
  | step _ ih => exact ih.up

noncomputable abbrev PP : Program := Tryz.prog
theorem sh_str {B n : Nat} {cs : List Tree} (h : ShN PP B n 9 cs) : ∃ s, cs = [.str s] ∧ s.length ≤ B := by
  cases n with
  | zero => exact h.elim
  | succ n => simpa only [ShN, PP, Tryz.underlying9] using h
theorem sh_kind {B n : Nat} {cs : List Tree} (h : ShN PP B n 22 cs) : ∃ k, cs = [.int .u8 k] ∧ (Lit.int .u8 k).wf = true := by
  cases n with
  | zero => exact h.elim
  | succ n => simpa only [ShN, PP, Tryz.underlying22] using h
theorem mk_str (cs : List Tree) : mkT PP 9 cs = cs.headD .nilptr := by simp only [mkT, PP, Tryz.underlying9]
theorem mk_T (cs : List Tree) : mkT PP 26 cs = .agg cs := by simp only [mkT, PP, Tryz.underlying26]
theorem mk_A (cs : List Tree) : mkT PP 31 cs = .agg cs := by simp only [mkT, PP, Tryz.underlying31]
theorem sh_type {B : Nat} (hB : B ≤ 4194304) : ∀ (n : Nat) (cs : List Tree), ShN PP B n 26 cs → TyN n (.agg cs) := by
  intro n
  induction n using Nat.strongRecOn with
  | _ n ih =>
    intro cs h
    cases n with
    | zero => exact h.elim
    | succ n =>
      simp only [ShN, PP, Tryz.underlying26, ShFs] at h
      obtain ⟨a, _, rfl, h1, b, _, rfl, h2, c, _, rfl, h3, d, _, rfl, h4, rfl⟩ := h
      obtain ⟨k, rfl, _⟩ := sh_kind h1
      obtain ⟨s, rfl, _⟩ := sh_str h2
      cases n with
      | zero => exact h3.elim
      | succ n =>
        simp only [ShN, PP, Tryz.underlying23, Tryz.underlying24] at h3 h4
        obtain ⟨os, rfl, h3, h5⟩ := h3
        obtain ⟨bs, rfl, h4, h6⟩ := h4
        refine ⟨k, s, os, bs, rfl, by omega, by omega, fun x hx => ?_, fun x hx => ?_⟩
        · obtain ⟨ds, hd, rfl⟩ := h5 x hx
          exact (mk_T ds).symm ▸ (ih n (by omega) ds hd).up
        · obtain ⟨ds, hd, rfl⟩ := h6 x hx
          refine (mk_A ds).symm ▸ ?_
          cases n with
          | zero => exact hd.elim
          | succ n =>
            simp only [ShN, PP, Tryz.underlying31, ShFs] at hd
            obtain ⟨a, _, rfl, h7, b, _, rfl, h8, rfl⟩ := hd
            obtain ⟨nm, rfl, _⟩ := sh_str h7
            have ht := ih n (by omega) b h8
            obtain ⟨k', s', o', a', e⟩ := ht.form
            obtain rfl : b = _ := Tree.agg.inj e
            exact ⟨nm, k', s', o', a', rfl, (ht.mono (by omega))⟩

end
end Go.Proofs.YtbahblehihbpkaaGreatDoor.w
