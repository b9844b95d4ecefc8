/- More of it. -/
import Derived.Test.YtbahblehihbpkaaGreatDoorK
namespace Go.Proofs.YtbahblehihbpkaaGreatDoor.w
open Go Go.Abs
set_option linter.unusedVariables false
set_option maxRecDepth 100000
set_option maxHeartbeats 1000000
noncomputable section
abbrev ti5 : TI := { size := 1, bytes := 1, agg := false, zero := some (.t (.int .u8 0)), desc := .int .u8 }
theorem ty5 {m : Int} : (cf m).P.ty 5 = some ti5 := by kernel_rfl
abbrev ti160 : TI := { size := 256, bytes := 256, agg := true, zero := some (.t (.agg [.int .u8 0, .int .u8 0, .int .u8 0, .int .u8 0, .int .u8 0, .int .u8 0, .int .u8 0, .int .u8 0, .int .u8 0, .int .u8 0, .int .u8 0, .int .u8 0, .int .u8 0, .int .u8 0, .int .u8 0, .int .u8 0, .int .u8 0, .int .u8 0, .int .u8 0, .int .u8 0, .int .u8 0, .int .u8 0, .int .u8 0, .int .u8 0, .int .u8 0, .int .u8 0, .int .u8 0, .int .u8 0, .int .u8 0, .int .u8 0, .int .u8 0, .int .u8 0, .int .u8 0, .int .u8 0, .int .u8 0, .int .u8 0, .int .u8 0, .int .u8 0, .int .u8 0, .int .u8 0, .int .u8 0, .int .u8 0, .int .u8 0, .int .u8 0, .int .u8 0, .int .u8 0, .int .u8 0, .int .u8 0, .int .u8 0, .int .u8 0, .int .u8 0, .int .u8 0, .int .u8 0, .int .u8 0, .int .u8 0, .int .u8 0, .int .u8 0, .int .u8 0, .int .u8 0, .int .u8 0, .int .u8 0, .int .u8 0, .int .u8 0, .int .u8 0, .int .u8 0, .int .u8 0, .int .u8 0, .int .u8 0, .int .u8 0, .int .u8 0, .int .u8 0, .int .u8 0, .int .u8 0, .int .u8 0, .int .u8 0, .int .u8 0, .int .u8 0, .int .u8 0, .int .u8 0, .int .u8 0, .int .u8 0, .int .u8 0, .int .u8 0, .int .u8 0, .int .u8 0, .int .u8 0, .int .u8 0, .int .u8 0, .int .u8 0, .int .u8 0, .int .u8 0, .int .u8 0, .int .u8 0, .int .u8 0, .int .u8 0, .int .u8 0, .int .u8 0, .int .u8 0, .int .u8 0, .int .u8 0, .int .u8 0, .int .u8 0, .int .u8 0, .int .u8 0, .int .u8 0, .int .u8 0, .int .u8 0, .int .u8 0, .int .u8 0, .int .u8 0, .int .u8 0, .int .u8 0, .int .u8 0, .int .u8 0, .int .u8 0, .int .u8 0, .int .u8 0, .int .u8 0, .int .u8 0, .int .u8 0, .int .u8 0, .int .u8 0, .int .u8 0, .int .u8 0, .int .u8 0, .int .u8 0, .int .u8 0, .int .u8 0, .int .u8 0, .int .u8 0, .int .u8 0, .int .u8 0, .int .u8 0, .int .u8 0, .int .u8 0, .int .u8 0, .int .u8 0, .int .u8 0, .int .u8 0, .int .u8 0, .int .u8 0, .int .u8 0, .int .u8 0, .int .u8 0, .int .u8 0, .int .u8 0, .int .u8 0, .int .u8 0, .int .u8 0, .int .u8 0, .int .u8 0, .int .u8 0, .int .u8 0, .int .u8 0, .int .u8 0, .int .u8 0, .int .u8 0, .int .u8 0, .int .u8 0, .int .u8 0, .int .u8 0, .int .u8 0, .int .u8 0, .int .u8 0, .int .u8 0, .int .u8 0, .int .u8 0, .int .u8 0, .int .u8 0, .int .u8 0, .int .u8 0, .int .u8 0, .int .u8 0, .int .u8 0, .int .u8 0, .int .u8 0, .int .u8 0, .int .u8 0, .int .u8 0, .int .u8 0, .int .u8 0, .int .u8 0, .int .u8 0, .int .u8 0, .int .u8 0, .int .u8 0, .int .u8 0, .int .u8 0, .int .u8 0, .int .u8 0, .int .u8 0, .int .u8 0, .int .u8 0, .int .u8 0, .int .u8 0, .int .u8 0, .int .u8 0, .int .u8 0, .int .u8 0, .int .u8 0, .int .u8 0, .int .u8 0, .int .u8 0, .int .u8 0, .int .u8 0, .int .u8 0, .int .u8 0, .int .u8 0, .int .u8 0, .int .u8 0, .int .u8 0, .int .u8 0, .int .u8 0, .int .u8 0, .int .u8 0, .int .u8 0, .int .u8 0, .int .u8 0, .int .u8 0, .int .u8 0, .int .u8 0, .int .u8 0, .int .u8 0, .int .u8 0, .int .u8 0, .int .u8 0, .int .u8 0, .int .u8 0, .int .u8 0, .int .u8 0, .int .u8 0, .int .u8 0, .int .u8 0, .int .u8 0, .int .u8 0, .int .u8 0, .int .u8 0, .int .u8 0, .int .u8 0, .int .u8 0, .int .u8 0, .int .u8 0, .int .u8 0, .int .u8 0, .int .u8 0, .int .u8 0, .int .u8 0, .int .u8 0, .int .u8 0, .int .u8 0, .int .u8 0, .int .u8 0, .int .u8 0, .int .u8 0, .int .u8 0, .int .u8 0])), desc := descOf 160 }
theorem ty160 {m : Int} : (cf m).P.ty 160 = some ti160 := by kernel_rfl
abbrev ti162 : TI := { size := 2, bytes := 2, agg := true, zero := some (.t (.agg [.int .u8 0, .int .u8 0])), desc := descOf 162 }
theorem ty162 {m : Int} : (cf m).P.ty 162 = some ti162 := by kernel_rfl
abbrev ti163 : TI := { size := 32, bytes := 32, agg := true, zero := some (.t (.agg [.int .u8 0, .int .u8 0, .int .u8 0, .int .u8 0, .int .u8 0, .int .u8 0, .int .u8 0, .int .u8 0, .int .u8 0, .int .u8 0, .int .u8 0, .int .u8 0, .int .u8 0, .int .u8 0, .int .u8 0, .int .u8 0, .int .u8 0, .int .u8 0, .int .u8 0, .int .u8 0, .int .u8 0, .int .u8 0, .int .u8 0, .int .u8 0, .int .u8 0, .int .u8 0, .int .u8 0, .int .u8 0, .int .u8 0, .int .u8 0, .int .u8 0, .int .u8 0])), desc := descOf 163 }
theorem ty163 {m : Int} : (cf m).P.ty 163 = some ti163 := by kernel_rfl
theorem fo162_0 {m : Int} : fieldOff (cf m).P 162 0 = some 0 := by kernel_rfl
theorem fo162_1 {m : Int} : fieldOff (cf m).P 162 1 = some 1 := by kernel_rfl

theorem pos_cons {s : List UInt8} (h : (s.length : Int) > 0) : ∃ b s', s = b :: s' := by
  cases s with
  | nil => simp at h
  | cons b s' => exact ⟨b, s', rfl⟩
theorem first_all : ((List.range 256).all fun i => match live.tabFirst[i]? with | some (.int .u8 x) => [240, 241, 2, 19, 3, 35, 52, 4, 68].contains x | _ => false) = true := by kernel_rfl
theorem first_at (b : UInt8) : ∃ x : Int, live.tabFirst[0 + b.toNat * 1]? = some (.int .u8 x) ∧ x ∈ ([240, 241, 2, 19, 3, 35, 52, 4, 68] : List Int) := by
  have h := List.all_eq_true.1 first_all b.toNat (by simpa using b.toNat_lt)
  rw [Nat.zero_add, Nat.mul_one]
  split at h
  · rename_i x hx
    exact ⟨x, hx, by simpa using h⟩
  · cases h

theorem valid_at {m : Int} (ev : CallF) (hev : CallOk (cf m) ev) (wz : List UInt8 → Int) (hw : ∀ s, 8 ≤ s.length → ev 122 [.t (.str s)] [] = some (.ret (.t (.int .u64 (wz s))) [] [])) (s0 : List UInt8) :
    ∃ r : Bool, CallRel (cf m) 63 [.t (.str s0)] [] (.ret (.t (.bool r)) [] []) := by
  refine AX.start 169 1 Tryz.func63 rfl (by decide) rfl rfl (by decide) ?_
  refine AX.seq ?_
  refine AX.region ?_
  refine AXo.go (f := 0) hev (d_assign rfl) ?_
  refine AXo.nil ?_
  refine AX.seq ?_
  refine AX.block ?_
  refine AX.loop (α := List UInt8) (fun s => ⟨frm 169 [(0, .t (.str s))], [], 0⟩) (fun s => True) (fun s => s.length) s0 (Re.sq [] ⟨rfl, trivial⟩ trivial (by decide) rfl rfl (by decide)) trivial (fun s hok => ?_)
  refine AX.seq ?_
  refine AX.seq ?_
  refine AX.region ?_
  refine AXo.go (f := 0) hev (d_move rfl) ?_
  refine AXo.go (f := 0) hev (d_lenS rfl ty9 rfl) ?_
  refine AXo.go (f := 0) hev (d_gtI rfl rfl) ?_
  refine AXo.nil ?_
  refine AX.cond rfl (fun h9 => ?_) (fun h9 => ?_)
  · obtain ⟨b, s', rfl⟩ := pos_cons (of_decide_eq_true h9)
    refine AX.skip ?_
    refine AX.block ?_
    refine AX.seq ?_
    refine AX.region ?_
    refine AXo.go (f := 0) hev (d_move rfl) ?_
    refine AXo.go (f := 0) hev (d_byte rfl rfl ty9 rfl rfl) ?_
    refine AXo.go (f := 0) hev (d_assign rfl) ?_
    refine AXo.nil ?_
    refine AX.seq ?_
    refine AX.seq ?_
    refine AX.region ?_
    refine AXo.go (f := 0) hev (d_move rfl) ?_
    refine AXo.go (f := 0) hev (d_ltI rfl rfl) ?_
    refine AXo.nil ?_
    refine AX.cond rfl (fun h13 => ?_) (fun h13 => ?_)
    · skip
      refine AX.seq ?_
      refine AX.region ?_
      refine AXo.go (f := 0) hev (d_move rfl) ?_
      refine AXo.go (f := 0) hev ((show Does _ _ _ _ _ _ _ _ _ (.t (.str s')) _ from d_subS (s := (b :: s')) (m := 1) rfl rfl ty9 rfl (by simp))) ?_
      refine AXo.go (f := 0) hev (d_assign rfl) ?_
      refine AXo.nil ?_
      refine AX.seq ?_
      refine AX.seq ?_
      refine AX.region ?_
      refine AXo.go (f := 0) hev (d_move rfl) ?_
      refine AXo.go (f := 0) hev (d_lenS rfl ty9 rfl) ?_
      refine AXo.go (f := 0) hev (d_gtI rfl rfl) ?_
      refine AXo.go (f := 0) hev (d_move rfl) ?_
      refine AXo.split 19 rfl (fun hg19 => ?_) (fun hg19 => ?_)
      · have hlen8 : 8 < s'.length := by have := of_decide_eq_true hg19; omega
        refine AXo.yes (f := 0) hev rfl rfl rfl (beqTT hg19) (d_move rfl) ?_
        refine AXo.yes (f := 0) hev rfl rfl rfl (beqTT hg19) (d_callT (rh1 rfl) (hw _ (by first | omega | (simp only [List.length_drop]; omega)))) ?_
        refine AXo.yes (f := 0) hev rfl rfl rfl (beqTT hg19) (d_bin rfl rfl rfl) ?_
        refine AXo.yes (f := 0) hev rfl rfl rfl (beqTT hg19) (d_eqI rfl rfl) ?_
        refine AXo.go (f := 0) hev (d_pickT rfl hg19 rfl rfl) ?_
        refine AXo.nil ?_
        refine AX.cond rfl (fun h24 => ?_) (fun h24 => ?_)
        · skip
          refine AX.seq ?_
          refine AX.region ?_
          refine AXo.go (f := 0) hev (d_move rfl) ?_
          refine AXo.go (f := 0) hev ((show Does _ _ _ _ _ _ _ _ _ (.t (.str (s'.drop 8))) _ from d_subS (s := s') (m := 8) rfl rfl ty9 rfl (by first | omega | (simp only [List.length_drop]; omega)))) ?_
          refine AXo.go (f := 0) hev (d_assign rfl) ?_
          refine AXo.nil ?_
          refine AX.seq ?_
          refine AX.draw (f := 0) orders hev ?_
          refine AXd.go rfl (d_move rfl) ?_
          refine AXd.go rfl (d_lenS rfl ty9 rfl) ?_
          refine AXd.go rfl (d_gtI rfl rfl) ?_
          refine AXd.go rfl (d_move rfl) ?_
          refine AXd.split 30 rfl (fun hg30 => ?_) (fun hg30 => ?_)
          · have hlen16 : 16 + 8 < s'.length := by have := of_decide_eq_true hg30; simp only [List.length_drop] at this; omega
            refine AXd.yes rfl rfl rfl (beqTT hg30) rfl (d_move rfl) ?_
            refine AXd.yes rfl rfl rfl (beqTT hg30) rfl (d_callT (rh1 rfl) (hw _ (by first | omega | (simp only [List.length_drop]; omega)))) ?_
            refine AXd.yes rfl rfl rfl (beqTT hg30) rfl (d_move rfl) ?_
            refine AXd.yes rfl rfl rfl (beqTT hg30) rfl (d_subS (m := 8) rfl rfl ty9 rfl (by first | omega | (simp only [List.length_drop]; omega))) ?_
            refine AXd.yes rfl rfl rfl (beqTT hg30) rfl (d_callT (rh1 rfl) (hw _ (by first | omega | (simp only [List.length_drop]; omega)))) ?_
            refine AXd.yes rfl rfl rfl (beqTT hg30) rfl (d_bin rfl rfl rfl) ?_
            refine AXd.yes rfl rfl rfl (beqTT hg30) rfl (d_bin rfl rfl rfl) ?_
            refine AXd.yes rfl rfl rfl (beqTT hg30) rfl (d_eqI rfl rfl) ?_
            refine AXd.go rfl (d_pickT rfl hg30 rfl rfl) ?_
            refine AXd.nil (ex_and2 rfl rfl ?_)
            refine AX.cond rfl (fun h39 => ?_) (fun h39 => ?_)
            · skip
              refine AX.seq ?_
              refine AX.region ?_
              refine AXo.go (f := 0) hev (d_move rfl) ?_
              refine AXo.go (f := 0) hev ((show Does _ _ _ _ _ _ _ _ _ (.t (.str ((s'.drop 8).drop 16))) _ from d_subS (s := (s'.drop 8)) (m := 16) rfl rfl ty9 rfl (by first | omega | (simp only [List.length_drop]; omega)))) ?_
              refine AXo.go (f := 0) hev (d_assign rfl) ?_
              refine AXo.nil ?_
              refine AX.block ?_
              refine AX.loop (α := List UInt8) (fun u => ⟨frm 169 [(0, .t (.str u))], [], 0⟩) (fun u => u.length ≤ s'.length) (fun u => u.length) ((s'.drop 8).drop 16) (Re.sq [] ⟨rfl, trivial⟩ trivial (by decide) rfl rfl (by decide)) (by show List.length _ ≤ _; simp only [List.length_drop]; omega) (fun u hok => ?_)
              refine AX.seq ?_
              refine AX.seq ?_
              refine AX.draw (f := 0) orders hev ?_
              refine AXd.go rfl (d_move rfl) ?_
              refine AXd.go rfl (d_lenS rfl ty9 rfl) ?_
              refine AXd.go rfl (d_gtI rfl rfl) ?_
              refine AXd.go rfl (d_move rfl) ?_
              refine AXd.split 45 rfl (fun hg45 => ?_) (fun hg45 => ?_)
              · have hlen32 : 32 < u.length := by have := of_decide_eq_true hg45; omega
                refine AXd.yes rfl rfl rfl (beqTT hg45) rfl (d_move rfl) ?_
                refine AXd.yes rfl rfl rfl (beqTT hg45) rfl (d_callT (rh1 rfl) (hw _ (by first | omega | (simp only [List.length_drop]; omega)))) ?_
                refine AXd.yes rfl rfl rfl (beqTT hg45) rfl (d_move rfl) ?_
                refine AXd.yes rfl rfl rfl (beqTT hg45) rfl (d_subS (m := 8) rfl rfl ty9 rfl (by first | omega | (simp only [List.length_drop]; omega))) ?_
                refine AXd.yes rfl rfl rfl (beqTT hg45) rfl (d_callT (rh1 rfl) (hw _ (by first | omega | (simp only [List.length_drop]; omega)))) ?_
                refine AXd.yes rfl rfl rfl (beqTT hg45) rfl (d_bin rfl rfl rfl) ?_
                refine AXd.yes rfl rfl rfl (beqTT hg45) rfl (d_move rfl) ?_
                refine AXd.yes rfl rfl rfl (beqTT hg45) rfl (d_subS (m := 16) rfl rfl ty9 rfl (by first | omega | (simp only [List.length_drop]; omega))) ?_
                refine AXd.yes rfl rfl rfl (beqTT hg45) rfl (d_callT (rh1 rfl) (hw _ (by first | omega | (simp only [List.length_drop]; omega)))) ?_
                refine AXd.yes rfl rfl rfl (beqTT hg45) rfl (d_move rfl) ?_
                refine AXd.yes rfl rfl rfl (beqTT hg45) rfl (d_subS (m := 24) rfl rfl ty9 rfl (by first | omega | (simp only [List.length_drop]; omega))) ?_
                refine AXd.yes rfl rfl rfl (beqTT hg45) rfl (d_callT (rh1 rfl) (hw _ (by first | omega | (simp only [List.length_drop]; omega)))) ?_
                refine AXd.yes rfl rfl rfl (beqTT hg45) rfl (d_bin rfl rfl rfl) ?_
                refine AXd.yes rfl rfl rfl (beqTT hg45) rfl (d_bin rfl rfl rfl) ?_
                refine AXd.yes rfl rfl rfl (beqTT hg45) rfl (d_bin rfl rfl rfl) ?_
                refine AXd.yes rfl rfl rfl (beqTT hg45) rfl (d_eqI rfl rfl) ?_
                refine AXd.go rfl (d_pickT rfl hg45 rfl rfl) ?_
                refine AXd.nil (ex_and2 rfl rfl ?_)
                refine AX.cond rfl (fun h62 => ?_) (fun h62 => ?_)
                · skip
                  refine AX.skip ?_
                  refine AX.block ?_
                  refine AX.region ?_
                  refine AXo.go (f := 0) hev (d_move rfl) ?_
                  refine AXo.go (f := 0) hev ((show Does _ _ _ _ _ _ _ _ _ (.t (.str (u.drop 32))) _ from d_subS (s := u) (m := 32) rfl rfl ty9 rfl (by omega))) ?_
                  refine AXo.go (f := 0) hev (d_assign rfl) ?_
                  refine AXo.nil ?_
                  refine AX.outNormal ?_
                  exact ⟨.inl ⟨u.drop 32, by show (u.drop 32).length ≤ _ ∧ (u.drop 32).length < _; rw [List.length_drop]; omega⟩, rfl, (Re.sq [] ⟨rfl, trivial⟩ trivial (by decide) rfl rfl (by decide))⟩
                · skip
                  refine AX.exit ?_
                  refine AX.thenExit ?_
                  refine AX.leave (e := .exit 2) (by simp) ?_
                  refine AX.outHere ?_
                  refine AX.exit ?_
                  refine AX.thenExit ?_
                  refine AX.outHere ?_
                  exact ⟨.inl ⟨u, trivial, by show (u).length < _; first | (simp; done) | (simp only [List.length_drop, List.length_cons]; omega) | (simp only [List.length_drop, List.length_cons] at *; omega)⟩, rfl, (Re.sq [] ⟨rfl, trivial⟩ trivial (by decide) rfl rfl (by decide))⟩
              · skip
                refine AXd.no rfl rfl rfl (beqFT hg45) ?_
                refine AXd.no rfl rfl rfl (beqFT hg45) ?_
                refine AXd.no rfl rfl rfl (beqFT hg45) ?_
                refine AXd.no rfl rfl rfl (beqFT hg45) ?_
                refine AXd.no rfl rfl rfl (beqFT hg45) ?_
                refine AXd.no rfl rfl rfl (beqFT hg45) ?_
                refine AXd.no rfl rfl rfl (beqFT hg45) ?_
                refine AXd.no rfl rfl rfl (beqFT hg45) ?_
                refine AXd.no rfl rfl rfl (beqFT hg45) ?_
                refine AXd.no rfl rfl rfl (beqFT hg45) ?_
                refine AXd.no rfl rfl rfl (beqFT hg45) ?_
                refine AXd.no rfl rfl rfl (beqFT hg45) ?_
                refine AXd.no rfl rfl rfl (beqFT hg45) ?_
                refine AXd.no rfl rfl rfl (beqFT hg45) ?_
                refine AXd.no rfl rfl rfl (beqFT hg45) ?_
                refine AXd.no rfl rfl rfl (beqFT hg45) ?_
                refine AXd.go rfl (d_pickF rfl hg45 rfl rfl) ?_
                refine AXd.nil (ex_and2 rfl rfl ?_)
                refine AX.condF rfl rfl ?_
                refine AX.exit ?_
                refine AX.thenExit ?_
                refine AX.leave (e := .exit 2) (by simp) ?_
                refine AX.outHere ?_
                refine AX.exit ?_
                refine AX.thenExit ?_
                refine AX.outHere ?_
                exact ⟨.inl ⟨u, trivial, by show (u).length < _; first | (simp; done) | (simp only [List.length_drop, List.length_cons]; omega) | (simp only [List.length_drop, List.length_cons] at *; omega)⟩, rfl, (Re.sq [] ⟨rfl, trivial⟩ trivial (by decide) rfl rfl (by decide))⟩
            · skip
              refine AX.skip ?_
              refine AX.exit ?_
              refine AX.thenExit ?_
              refine AX.outHere ?_
              exact ⟨.inl ⟨(s'.drop 8), trivial, by show ((s'.drop 8)).length < _; first | (simp; done) | (simp only [List.length_drop, List.length_cons]; omega) | (simp only [List.length_drop, List.length_cons] at *; omega)⟩, rfl, (Re.sq [] ⟨rfl, trivial⟩ trivial (by decide) rfl rfl (by decide))⟩
          · skip
            refine AXd.no rfl rfl rfl (beqFT hg30) ?_
            refine AXd.no rfl rfl rfl (beqFT hg30) ?_
            refine AXd.no rfl rfl rfl (beqFT hg30) ?_
            refine AXd.no rfl rfl rfl (beqFT hg30) ?_
            refine AXd.no rfl rfl rfl (beqFT hg30) ?_
            refine AXd.no rfl rfl rfl (beqFT hg30) ?_
            refine AXd.no rfl rfl rfl (beqFT hg30) ?_
            refine AXd.no rfl rfl rfl (beqFT hg30) ?_
            refine AXd.go rfl (d_pickF rfl hg30 rfl rfl) ?_
            refine AXd.nil (ex_and2 rfl rfl ?_)
            refine AX.condF rfl rfl ?_
            refine AX.skip ?_
            refine AX.exit ?_
            refine AX.thenExit ?_
            refine AX.outHere ?_
            exact ⟨.inl ⟨(s'.drop 8), trivial, by show ((s'.drop 8)).length < _; first | (simp; done) | (simp only [List.length_drop, List.length_cons]; omega) | (simp only [List.length_drop, List.length_cons] at *; omega)⟩, rfl, (Re.sq [] ⟨rfl, trivial⟩ trivial (by decide) rfl rfl (by decide))⟩
        · skip
          refine AX.skip ?_
          refine AX.exit ?_
          refine AX.thenExit ?_
          refine AX.outHere ?_
          exact ⟨.inl ⟨s', trivial, by show (s').length < _; first | (simp; done) | (simp only [List.length_drop, List.length_cons]; omega) | (simp only [List.length_drop, List.length_cons] at *; omega)⟩, rfl, (Re.sq [] ⟨rfl, trivial⟩ trivial (by decide) rfl rfl (by decide))⟩
      · skip
        refine AXo.no rfl rfl rfl (beqFT hg19) ?_
        refine AXo.no rfl rfl rfl (beqFT hg19) ?_
        refine AXo.no rfl rfl rfl (beqFT hg19) ?_
        refine AXo.no rfl rfl rfl (beqFT hg19) ?_
        refine AXo.go (f := 0) hev (d_pickF rfl hg19 rfl rfl) ?_
        refine AXo.nil ?_
        refine AX.condF rfl rfl ?_
        refine AX.skip ?_
        refine AX.exit ?_
        refine AX.thenExit ?_
        refine AX.outHere ?_
        exact ⟨.inl ⟨s', trivial, by show (s').length < _; first | (simp; done) | (simp only [List.length_drop, List.length_cons]; omega) | (simp only [List.length_drop, List.length_cons] at *; omega)⟩, rfl, (Re.sq [] ⟨rfl, trivial⟩ trivial (by decide) rfl rfl (by decide))⟩
    · skip
      refine AX.skip ?_
      refine AX.seq ?_
      obtain ⟨x, hx, hm⟩ := first_at b
      refine AX.region ?_
      refine AXo.go (f := 0) hev (d_move rfl) ?_
      refine AXo.go (f := 0) hev (d_indexTab rfl rfl ty160 rfl ty5 b.toNat_lt) ?_
      refine AXo.go (f := 0) hev (d_loadT rfl (ld ty5 rfl (part_tab hx))) ?_
      refine AXo.go (f := 0) hev (d_assign rfl) ?_
      refine AXo.nil ?_
      refine AX.seq ?_
      simp only [List.mem_cons, List.not_mem_nil, or_false] at hm
      rcases hm with rfl | rfl | rfl | rfl | rfl | rfl | rfl | rfl | rfl
      · -- 240
        refine AX.region ?_
        refine AXo.go (f := 0) hev (d_move rfl) ?_
        refine AXo.go (f := 0) hev (show Does _ _ _ _ _ _ _ _ _ (.t (.int .u8 0)) _ from d_bin rfl rfl (by kernel_rfl)) ?_
        refine AXo.go (f := 0) hev (show Does _ _ _ _ _ _ _ _ _ (.t (.int .i64 0)) _ from d_conv rfl (fun _ _ _ => by kernel_rfl)) ?_
        refine AXo.go (f := 0) hev (d_assign rfl) ?_
        refine AXo.nil ?_
        refine AX.seq ?_
        refine AX.region ?_
        refine AXo.go (f := 0) hev (d_move rfl) ?_
        refine AXo.go (f := 0) hev (show Does _ _ _ _ _ _ _ _ _ (.t (.int .u8 15)) _ from d_bin rfl rfl (by kernel_rfl)) ?_
        refine AXo.go (f := 0) hev (d_indexTab (m := 15) rfl rfl ty163 rfl ty162 (by decide)) ?_
        refine AXo.go (f := 0) hev (show Does _ _ _ _ _ _ _ _ _ (.t (.agg [.int .u8 0, .int .u8 0])) _ from d_loadT rfl (by kernel_rfl)) ?_
        refine AXo.go (f := 0) hev (d_alloc ty162 rfl rfl) ?_
        refine AXo.go0 (f := 0) hev (d_store rfl rfl (stt ty162 rfl rfl)) ?_
        refine AXo.nil ?_
        refine AX.seq ?_
        refine AX.region ?_
        refine AXo.go (f := 0) hev (d_move rfl) ?_
        refine AXo.nil ?_
        refine AX.block ?_
        refine AX.seq ?_
        refine AX.region ?_
        refine AXo.go (f := 0) hev (d_eqI rfl rfl) ?_
        refine AXo.go (f := 0) hev (d_assign rfl) ?_
        refine AXo.nil ?_
        refine AX.condF rfl (by decide) ?_
        refine AX.seq ?_
        refine AX.region ?_
        refine AXo.go (f := 0) hev (d_eqI rfl rfl) ?_
        refine AXo.go (f := 0) hev (d_assign rfl) ?_
        refine AXo.nil ?_
        refine AX.condF rfl (by decide) ?_
        refine AX.seq ?_
        refine AX.region ?_
        refine AXo.go (f := 0) hev (d_eqI rfl rfl) ?_
        refine AXo.go (f := 0) hev (d_assign rfl) ?_
        refine AXo.nil ?_
        refine AX.condF rfl (by decide) ?_
        refine AX.seq ?_
        refine AX.region ?_
        refine AXo.go (f := 0) hev (d_assign rfl) ?_
        refine AXo.nil ?_
        refine AX.ret ?_
        refine AX.outRet ?_
        refine AX.outRet ?_
        refine AX.leave (e := .ret) (by simp) ?_
        refine AX.outRet ?_
        refine AX.thenRet ?_
        exact ⟨false, .inl rfl⟩
      · -- 241
        refine AX.region ?_
        refine AXo.go (f := 0) hev (d_move rfl) ?_
        refine AXo.go (f := 0) hev (show Does _ _ _ _ _ _ _ _ _ (.t (.int .u8 1)) _ from d_bin rfl rfl (by kernel_rfl)) ?_
        refine AXo.go (f := 0) hev (show Does _ _ _ _ _ _ _ _ _ (.t (.int .i64 1)) _ from d_conv rfl (fun _ _ _ => by kernel_rfl)) ?_
        refine AXo.go (f := 0) hev (d_assign rfl) ?_
        refine AXo.nil ?_
        refine AX.seq ?_
        refine AX.region ?_
        refine AXo.go (f := 0) hev (d_move rfl) ?_
        refine AXo.go (f := 0) hev (show Does _ _ _ _ _ _ _ _ _ (.t (.int .u8 15)) _ from d_bin rfl rfl (by kernel_rfl)) ?_
        refine AXo.go (f := 0) hev (d_indexTab (m := 15) rfl rfl ty163 rfl ty162 (by decide)) ?_
        refine AXo.go (f := 0) hev (show Does _ _ _ _ _ _ _ _ _ (.t (.agg [.int .u8 0, .int .u8 0])) _ from d_loadT rfl (by kernel_rfl)) ?_
        refine AXo.go (f := 0) hev (d_alloc ty162 rfl rfl) ?_
        refine AXo.go0 (f := 0) hev (d_store rfl rfl (stt ty162 rfl rfl)) ?_
        refine AXo.nil ?_
        refine AX.seq ?_
        refine AX.region ?_
        refine AXo.go (f := 0) hev (d_move rfl) ?_
        refine AXo.nil ?_
        refine AX.block ?_
        refine AX.seq ?_
        refine AX.region ?_
        refine AXo.go (f := 0) hev (d_eqI rfl rfl) ?_
        refine AXo.go (f := 0) hev (d_assign rfl) ?_
        refine AXo.nil ?_
        refine AX.condF rfl (by decide) ?_
        refine AX.seq ?_
        refine AX.region ?_
        refine AXo.go (f := 0) hev (d_eqI rfl rfl) ?_
        refine AXo.go (f := 0) hev (d_assign rfl) ?_
        refine AXo.nil ?_
        refine AX.condF rfl (by decide) ?_
        refine AX.seq ?_
        refine AX.region ?_
        refine AXo.go (f := 0) hev (d_eqI rfl rfl) ?_
        refine AXo.go (f := 0) hev (d_assign rfl) ?_
        refine AXo.nil ?_
        refine AX.condF rfl (by decide) ?_
        refine AX.seq ?_
        refine AX.region ?_
        refine AXo.go (f := 0) hev (d_assign rfl) ?_
        refine AXo.nil ?_
        refine AX.ret ?_
        refine AX.outRet ?_
        refine AX.outRet ?_
        refine AX.leave (e := .ret) (by simp) ?_
        refine AX.outRet ?_
        refine AX.thenRet ?_
        exact ⟨false, .inl rfl⟩
      · -- 2
        refine AX.region ?_
        refine AXo.go (f := 0) hev (d_move rfl) ?_
        refine AXo.go (f := 0) hev (show Does _ _ _ _ _ _ _ _ _ (.t (.int .u8 2)) _ from d_bin rfl rfl (by kernel_rfl)) ?_
        refine AXo.go (f := 0) hev (show Does _ _ _ _ _ _ _ _ _ (.t (.int .i64 2)) _ from d_conv rfl (fun _ _ _ => by kernel_rfl)) ?_
        refine AXo.go (f := 0) hev (d_assign rfl) ?_
        refine AXo.nil ?_
        refine AX.seq ?_
        refine AX.region ?_
        refine AXo.go (f := 0) hev (d_move rfl) ?_
        refine AXo.go (f := 0) hev (show Does _ _ _ _ _ _ _ _ _ (.t (.int .u8 0)) _ from d_bin rfl rfl (by kernel_rfl)) ?_
        refine AXo.go (f := 0) hev (d_indexTab (m := 0) rfl rfl ty163 rfl ty162 (by decide)) ?_
        refine AXo.go (f := 0) hev (show Does _ _ _ _ _ _ _ _ _ (.t (.agg [.int .u8 128, .int .u8 191])) _ from d_loadT rfl (by kernel_rfl)) ?_
        refine AXo.go (f := 0) hev (d_alloc ty162 rfl rfl) ?_
        refine AXo.go0 (f := 0) hev (d_store rfl rfl (stt ty162 rfl rfl)) ?_
        refine AXo.nil ?_
        refine AX.seq ?_
        refine AX.region ?_
        refine AXo.go (f := 0) hev (d_move rfl) ?_
        refine AXo.nil ?_
        refine AX.block ?_
        refine AX.seq ?_
        refine AX.region ?_
        refine AXo.go (f := 0) hev (d_eqI rfl rfl) ?_
        refine AXo.go (f := 0) hev (d_assign rfl) ?_
        refine AXo.nil ?_
        refine AX.condT rfl (by decide) ?_
        refine AX.seq ?_
        refine AX.seq ?_
        refine AX.draw (f := 0) orders hev ?_
        refine AXd.go rfl (d_move rfl) ?_
        refine AXd.go rfl (d_lenS rfl ty9 rfl) ?_
        refine AXd.go rfl (d_ltI rfl rfl) ?_
        refine AXd.go rfl (d_move rfl) ?_
        refine AXd.split 81 rfl (fun hg81 => ?_) (fun hg81 => ?_)
        · skip
          refine AXd.no rfl rfl rfl (beqTF hg81) ?_
          refine AXd.no rfl rfl rfl (beqTF hg81) ?_
          refine AXd.no rfl rfl rfl (beqTF hg81) ?_
          refine AXd.no rfl rfl rfl (beqTF hg81) ?_
          refine AXd.no rfl rfl rfl (beqTF hg81) ?_
          refine AXd.go rfl (d_pickT rfl hg81 rfl rfl) ?_
          refine AXd.go rfl (d_move rfl) ?_
          refine AXd.no rfl rfl rfl (beqTF rfl) ?_
          refine AXd.no rfl rfl rfl (beqTF rfl) ?_
          refine AXd.no rfl rfl rfl (beqTF rfl) ?_
          refine AXd.no rfl rfl rfl (beqTF rfl) ?_
          refine AXd.no rfl rfl rfl (beqTF rfl) ?_
          refine AXd.go rfl (d_pickT rfl rfl rfl rfl) ?_
          refine AXd.nil (ex_and2 rfl rfl ?_)
          refine AX.condT rfl rfl ?_
          refine AX.seq ?_
          refine AX.region ?_
          refine AXo.go (f := 0) hev (d_assign rfl) ?_
          refine AXo.nil ?_
          refine AX.ret ?_
          refine AX.thenRet ?_
          refine AX.outRet ?_
          refine AX.outRet ?_
          refine AX.leave (e := .ret) (by simp) ?_
          refine AX.outRet ?_
          refine AX.thenRet ?_
          exact ⟨false, .inl rfl⟩
        · have hl2 : 2 ≤ (b :: s').length := by have := of_decide_eq_false hg81; omega
          refine AXd.yes rfl rfl rfl (beqFF hg81) rfl (d_move rfl) ?_
          refine AXd.yes rfl rfl rfl (beqFF hg81) rfl (d_byte (m := 1) rfl rfl ty9 rfl (List.getElem?_eq_getElem (by omega))) ?_
          refine AXd.yes rfl rfl rfl (beqFF hg81) rfl (d_fieldAddr rfl fo162_0 rfl) ?_
          refine AXd.yes rfl rfl rfl (beqFF hg81) rfl ((by first | exact d_loadT rfl (ld ty5 rfl rfl) | exact d_load rfl (ld ty5 rfl rfl))) ?_
          refine AXd.yes rfl rfl rfl (beqFF hg81) rfl (d_ltI rfl rfl) ?_
          refine AXd.go rfl (d_pickF rfl hg81 rfl rfl) ?_
          refine AXd.go rfl (d_move rfl) ?_
          refine AXd.split 88 rfl (fun hg88 => ?_) (fun hg88 => ?_)
          · skip
            refine AXd.no rfl rfl rfl (beqTF hg88) ?_
            refine AXd.no rfl rfl rfl (beqTF hg88) ?_
            refine AXd.no rfl rfl rfl (beqTF hg88) ?_
            refine AXd.no rfl rfl rfl (beqTF hg88) ?_
            refine AXd.no rfl rfl rfl (beqTF hg88) ?_
            refine AXd.go rfl (d_pickT rfl hg88 rfl rfl) ?_
            refine AXd.nil (ex_and2 rfl rfl ?_)
            refine AX.condT rfl rfl ?_
            refine AX.seq ?_
            refine AX.region ?_
            refine AXo.go (f := 0) hev (d_assign rfl) ?_
            refine AXo.nil ?_
            refine AX.ret ?_
            refine AX.thenRet ?_
            refine AX.outRet ?_
            refine AX.outRet ?_
            refine AX.leave (e := .ret) (by simp) ?_
            refine AX.outRet ?_
            refine AX.thenRet ?_
            exact ⟨false, .inl rfl⟩
          · skip
            refine AXd.yes rfl rfl rfl (beqFF hg88) rfl (d_fieldAddr rfl fo162_1 rfl) ?_
            refine AXd.yes rfl rfl rfl (beqFF hg88) rfl ((by first | exact d_loadT rfl (ld ty5 rfl rfl) | exact d_load rfl (ld ty5 rfl rfl))) ?_
            refine AXd.yes rfl rfl rfl (beqFF hg88) rfl (d_move rfl) ?_
            refine AXd.yes rfl rfl rfl (beqFF hg88) rfl (d_byte (m := 1) rfl rfl ty9 rfl (List.getElem?_eq_getElem (by omega))) ?_
            refine AXd.yes rfl rfl rfl (beqFF hg88) rfl (d_ltI rfl rfl) ?_
            refine AXd.go rfl (d_pickF rfl hg88 rfl rfl) ?_
            refine AXd.nil (ex_and2 rfl rfl ?_)
            refine AX.cond rfl (fun h94 => ?_) (fun h94 => ?_)
            · skip
              refine AX.seq ?_
              refine AX.region ?_
              refine AXo.go (f := 0) hev (d_assign rfl) ?_
              refine AXo.nil ?_
              refine AX.ret ?_
              refine AX.thenRet ?_
              refine AX.outRet ?_
              refine AX.outRet ?_
              refine AX.leave (e := .ret) (by simp) ?_
              refine AX.outRet ?_
              refine AX.thenRet ?_
              exact ⟨false, .inl rfl⟩
            · skip
              refine AX.skip ?_
              refine AX.region ?_
              refine AXo.go (f := 0) hev (d_move rfl) ?_
              refine AXo.go (f := 0) hev ((show Does _ _ _ _ _ _ _ _ _ (.t (.str ((b :: s').drop 2))) _ from d_subS (s := (b :: s')) (m := 2) rfl rfl ty9 rfl (by omega))) ?_
              refine AXo.go (f := 0) hev (d_assign rfl) ?_
              refine AXo.nil ?_
              refine AX.outNormal ?_
              refine AX.outNormal ?_
              exact ⟨.inl ⟨((b :: s').drop 2), trivial, by show (((b :: s').drop 2)).length < _; first | (simp; done) | (simp only [List.length_drop, List.length_cons]; omega) | (simp only [List.length_drop, List.length_cons] at *; omega)⟩, rfl, (Re.sq [] ⟨rfl, trivial⟩ trivial (by decide) rfl rfl (by decide))⟩
      · -- 19
        refine AX.region ?_
        refine AXo.go (f := 0) hev (d_move rfl) ?_
        refine AXo.go (f := 0) hev (show Does _ _ _ _ _ _ _ _ _ (.t (.int .u8 3)) _ from d_bin rfl rfl (by kernel_rfl)) ?_
        refine AXo.go (f := 0) hev (show Does _ _ _ _ _ _ _ _ _ (.t (.int .i64 3)) _ from d_conv rfl (fun _ _ _ => by kernel_rfl)) ?_
        refine AXo.go (f := 0) hev (d_assign rfl) ?_
        refine AXo.nil ?_
        refine AX.seq ?_
        refine AX.region ?_
        refine AXo.go (f := 0) hev (d_move rfl) ?_
        refine AXo.go (f := 0) hev (show Does _ _ _ _ _ _ _ _ _ (.t (.int .u8 1)) _ from d_bin rfl rfl (by kernel_rfl)) ?_
        refine AXo.go (f := 0) hev (d_indexTab (m := 1) rfl rfl ty163 rfl ty162 (by decide)) ?_
        refine AXo.go (f := 0) hev (show Does _ _ _ _ _ _ _ _ _ (.t (.agg [.int .u8 160, .int .u8 191])) _ from d_loadT rfl (by kernel_rfl)) ?_
        refine AXo.go (f := 0) hev (d_alloc ty162 rfl rfl) ?_
        refine AXo.go0 (f := 0) hev (d_store rfl rfl (stt ty162 rfl rfl)) ?_
        refine AXo.nil ?_
        refine AX.seq ?_
        refine AX.region ?_
        refine AXo.go (f := 0) hev (d_move rfl) ?_
        refine AXo.nil ?_
        refine AX.block ?_
        refine AX.seq ?_
        refine AX.region ?_
        refine AXo.go (f := 0) hev (d_eqI rfl rfl) ?_
        refine AXo.go (f := 0) hev (d_assign rfl) ?_
        refine AXo.nil ?_
        refine AX.condF rfl (by decide) ?_
        refine AX.seq ?_
        refine AX.region ?_
        refine AXo.go (f := 0) hev (d_eqI rfl rfl) ?_
        refine AXo.go (f := 0) hev (d_assign rfl) ?_
        refine AXo.nil ?_
        refine AX.condT rfl (by decide) ?_
        refine AX.seq ?_
        refine AX.seq ?_
        refine AX.draw (f := 0) orders hev ?_
        refine AXd.go rfl (d_move rfl) ?_
        refine AXd.go rfl (d_lenS rfl ty9 rfl) ?_
        refine AXd.go rfl (d_ltI rfl rfl) ?_
        refine AXd.go rfl (d_move rfl) ?_
        refine AXd.split 102 rfl (fun hg102 => ?_) (fun hg102 => ?_)
        · skip
          refine AXd.no rfl rfl rfl (beqTF hg102) ?_
          refine AXd.no rfl rfl rfl (beqTF hg102) ?_
          refine AXd.no rfl rfl rfl (beqTF hg102) ?_
          refine AXd.no rfl rfl rfl (beqTF hg102) ?_
          refine AXd.no rfl rfl rfl (beqTF hg102) ?_
          refine AXd.go rfl (d_pickT rfl hg102 rfl rfl) ?_
          refine AXd.go rfl (d_move rfl) ?_
          refine AXd.no rfl rfl rfl (beqTF rfl) ?_
          refine AXd.no rfl rfl rfl (beqTF rfl) ?_
          refine AXd.no rfl rfl rfl (beqTF rfl) ?_
          refine AXd.no rfl rfl rfl (beqTF rfl) ?_
          refine AXd.no rfl rfl rfl (beqTF rfl) ?_
          refine AXd.go rfl (d_pickT rfl rfl rfl rfl) ?_
          refine AXd.go rfl (d_move rfl) ?_
          refine AXd.no rfl rfl rfl (beqTF rfl) ?_
          refine AXd.no rfl rfl rfl (beqTF rfl) ?_
          refine AXd.no rfl rfl rfl (beqTF rfl) ?_
          refine AXd.go rfl (d_pickT rfl rfl rfl rfl) ?_
          refine AXd.go rfl (d_move rfl) ?_
          refine AXd.no rfl rfl rfl (beqTF rfl) ?_
          refine AXd.no rfl rfl rfl (beqTF rfl) ?_
          refine AXd.no rfl rfl rfl (beqTF rfl) ?_
          refine AXd.go rfl (d_pickT rfl rfl rfl rfl) ?_
          refine AXd.nil (ex_and2 rfl rfl ?_)
          refine AX.condT rfl rfl ?_
          refine AX.seq ?_
          refine AX.region ?_
          refine AXo.go (f := 0) hev (d_assign rfl) ?_
          refine AXo.nil ?_
          refine AX.ret ?_
          refine AX.thenRet ?_
          refine AX.outRet ?_
          refine AX.outRet ?_
          refine AX.leave (e := .ret) (by simp) ?_
          refine AX.outRet ?_
          refine AX.thenRet ?_
          exact ⟨false, .inl rfl⟩
        · have hl3 : 3 ≤ (b :: s').length := by have := of_decide_eq_false hg102; omega
          refine AXd.yes rfl rfl rfl (beqFF hg102) rfl (d_move rfl) ?_
          refine AXd.yes rfl rfl rfl (beqFF hg102) rfl (d_byte (m := 1) rfl rfl ty9 rfl (List.getElem?_eq_getElem (by omega))) ?_
          refine AXd.yes rfl rfl rfl (beqFF hg102) rfl (d_fieldAddr rfl fo162_0 rfl) ?_
          refine AXd.yes rfl rfl rfl (beqFF hg102) rfl ((by first | exact d_loadT rfl (ld ty5 rfl rfl) | exact d_load rfl (ld ty5 rfl rfl))) ?_
          refine AXd.yes rfl rfl rfl (beqFF hg102) rfl (d_ltI rfl rfl) ?_
          refine AXd.go rfl (d_pickF rfl hg102 rfl rfl) ?_
          refine AXd.go rfl (d_move rfl) ?_
          refine AXd.split 109 rfl (fun hg109 => ?_) (fun hg109 => ?_)
          · skip
            refine AXd.no rfl rfl rfl (beqTF hg109) ?_
            refine AXd.no rfl rfl rfl (beqTF hg109) ?_
            refine AXd.no rfl rfl rfl (beqTF hg109) ?_
            refine AXd.no rfl rfl rfl (beqTF hg109) ?_
            refine AXd.no rfl rfl rfl (beqTF hg109) ?_
            refine AXd.go rfl (d_pickT rfl hg109 rfl rfl) ?_
            refine AXd.go rfl (d_move rfl) ?_
            refine AXd.no rfl rfl rfl (beqTF rfl) ?_
            refine AXd.no rfl rfl rfl (beqTF rfl) ?_
            refine AXd.no rfl rfl rfl (beqTF rfl) ?_
            refine AXd.go rfl (d_pickT rfl rfl rfl rfl) ?_
            refine AXd.go rfl (d_move rfl) ?_
            refine AXd.no rfl rfl rfl (beqTF rfl) ?_
            refine AXd.no rfl rfl rfl (beqTF rfl) ?_
            refine AXd.no rfl rfl rfl (beqTF rfl) ?_
            refine AXd.go rfl (d_pickT rfl rfl rfl rfl) ?_
            refine AXd.nil (ex_and2 rfl rfl ?_)
            refine AX.condT rfl rfl ?_
            refine AX.seq ?_
            refine AX.region ?_
            refine AXo.go (f := 0) hev (d_assign rfl) ?_
            refine AXo.nil ?_
            refine AX.ret ?_
            refine AX.thenRet ?_
            refine AX.outRet ?_
            refine AX.outRet ?_
            refine AX.leave (e := .ret) (by simp) ?_
            refine AX.outRet ?_
            refine AX.thenRet ?_
            exact ⟨false, .inl rfl⟩
          · skip
            refine AXd.yes rfl rfl rfl (beqFF hg109) rfl (d_fieldAddr rfl fo162_1 rfl) ?_
            refine AXd.yes rfl rfl rfl (beqFF hg109) rfl ((by first | exact d_loadT rfl (ld ty5 rfl rfl) | exact d_load rfl (ld ty5 rfl rfl))) ?_
            refine AXd.yes rfl rfl rfl (beqFF hg109) rfl (d_move rfl) ?_
            refine AXd.yes rfl rfl rfl (beqFF hg109) rfl (d_byte (m := 1) rfl rfl ty9 rfl (List.getElem?_eq_getElem (by omega))) ?_
            refine AXd.yes rfl rfl rfl (beqFF hg109) rfl (d_ltI rfl rfl) ?_
            refine AXd.go rfl (d_pickF rfl hg109 rfl rfl) ?_
            refine AXd.go rfl (d_move rfl) ?_
            refine AXd.split 116 rfl (fun hg116 => ?_) (fun hg116 => ?_)
            · skip
              refine AXd.no rfl rfl rfl (beqTF hg116) ?_
              refine AXd.no rfl rfl rfl (beqTF hg116) ?_
              refine AXd.no rfl rfl rfl (beqTF hg116) ?_
              refine AXd.go rfl (d_pickT rfl hg116 rfl rfl) ?_
              refine AXd.go rfl (d_move rfl) ?_
              refine AXd.no rfl rfl rfl (beqTF rfl) ?_
              refine AXd.no rfl rfl rfl (beqTF rfl) ?_
              refine AXd.no rfl rfl rfl (beqTF rfl) ?_
              refine AXd.go rfl (d_pickT rfl rfl rfl rfl) ?_
              refine AXd.nil (ex_and2 rfl rfl ?_)
              refine AX.condT rfl rfl ?_
              refine AX.seq ?_
              refine AX.region ?_
              refine AXo.go (f := 0) hev (d_assign rfl) ?_
              refine AXo.nil ?_
              refine AX.ret ?_
              refine AX.thenRet ?_
              refine AX.outRet ?_
              refine AX.outRet ?_
              refine AX.leave (e := .ret) (by simp) ?_
              refine AX.outRet ?_
              refine AX.thenRet ?_
              exact ⟨false, .inl rfl⟩
            · skip
              refine AXd.yes rfl rfl rfl (beqFF hg116) rfl (d_move rfl) ?_
              refine AXd.yes rfl rfl rfl (beqFF hg116) rfl (d_byte (m := 2) rfl rfl ty9 rfl (List.getElem?_eq_getElem (by omega))) ?_
              refine AXd.yes rfl rfl rfl (beqFF hg116) rfl (d_ltI rfl rfl) ?_
              refine AXd.go rfl (d_pickF rfl hg116 rfl rfl) ?_
              refine AXd.go rfl (d_move rfl) ?_
              refine AXd.split 121 rfl (fun hg121 => ?_) (fun hg121 => ?_)
              · skip
                refine AXd.no rfl rfl rfl (beqTF hg121) ?_
                refine AXd.no rfl rfl rfl (beqTF hg121) ?_
                refine AXd.no rfl rfl rfl (beqTF hg121) ?_
                refine AXd.go rfl (d_pickT rfl hg121 rfl rfl) ?_
                refine AXd.nil (ex_and2 rfl rfl ?_)
                refine AX.condT rfl rfl ?_
                refine AX.seq ?_
                refine AX.region ?_
                refine AXo.go (f := 0) hev (d_assign rfl) ?_
                refine AXo.nil ?_
                refine AX.ret ?_
                refine AX.thenRet ?_
                refine AX.outRet ?_
                refine AX.outRet ?_
                refine AX.leave (e := .ret) (by simp) ?_
                refine AX.outRet ?_
                refine AX.thenRet ?_
                exact ⟨false, .inl rfl⟩
              · skip
                refine AXd.yes rfl rfl rfl (beqFF hg121) rfl (d_move rfl) ?_
                refine AXd.yes rfl rfl rfl (beqFF hg121) rfl (d_byte (m := 2) rfl rfl ty9 rfl (List.getElem?_eq_getElem (by omega))) ?_
                refine AXd.yes rfl rfl rfl (beqFF hg121) rfl (d_ltI rfl rfl) ?_
                refine AXd.go rfl (d_pickF rfl hg121 rfl rfl) ?_
                refine AXd.nil (ex_and2 rfl rfl ?_)
                refine AX.cond rfl (fun h125 => ?_) (fun h125 => ?_)
                · skip
                  refine AX.seq ?_
                  refine AX.region ?_
                  refine AXo.go (f := 0) hev (d_assign rfl) ?_
                  refine AXo.nil ?_
                  refine AX.ret ?_
                  refine AX.thenRet ?_
                  refine AX.outRet ?_
                  refine AX.outRet ?_
                  refine AX.leave (e := .ret) (by simp) ?_
                  refine AX.outRet ?_
                  refine AX.thenRet ?_
                  exact ⟨false, .inl rfl⟩
                · skip
                  refine AX.skip ?_
                  refine AX.region ?_
                  refine AXo.go (f := 0) hev (d_move rfl) ?_
                  refine AXo.go (f := 0) hev ((show Does _ _ _ _ _ _ _ _ _ (.t (.str ((b :: s').drop 3))) _ from d_subS (s := (b :: s')) (m := 3) rfl rfl ty9 rfl (by omega))) ?_
                  refine AXo.go (f := 0) hev (d_assign rfl) ?_
                  refine AXo.nil ?_
                  refine AX.outNormal ?_
                  refine AX.outNormal ?_
                  exact ⟨.inl ⟨((b :: s').drop 3), trivial, by show (((b :: s').drop 3)).length < _; first | (simp; done) | (simp only [List.length_drop, List.length_cons]; omega) | (simp only [List.length_drop, List.length_cons] at *; omega)⟩, rfl, (Re.sq [] ⟨rfl, trivial⟩ trivial (by decide) rfl rfl (by decide))⟩
      · -- 3
        refine AX.region ?_
        refine AXo.go (f := 0) hev (d_move rfl) ?_
        refine AXo.go (f := 0) hev (show Does _ _ _ _ _ _ _ _ _ (.t (.int .u8 3)) _ from d_bin rfl rfl (by kernel_rfl)) ?_
        refine AXo.go (f := 0) hev (show Does _ _ _ _ _ _ _ _ _ (.t (.int .i64 3)) _ from d_conv rfl (fun _ _ _ => by kernel_rfl)) ?_
        refine AXo.go (f := 0) hev (d_assign rfl) ?_
        refine AXo.nil ?_
        refine AX.seq ?_
        refine AX.region ?_
        refine AXo.go (f := 0) hev (d_move rfl) ?_
        refine AXo.go (f := 0) hev (show Does _ _ _ _ _ _ _ _ _ (.t (.int .u8 0)) _ from d_bin rfl rfl (by kernel_rfl)) ?_
        refine AXo.go (f := 0) hev (d_indexTab (m := 0) rfl rfl ty163 rfl ty162 (by decide)) ?_
        refine AXo.go (f := 0) hev (show Does _ _ _ _ _ _ _ _ _ (.t (.agg [.int .u8 128, .int .u8 191])) _ from d_loadT rfl (by kernel_rfl)) ?_
        refine AXo.go (f := 0) hev (d_alloc ty162 rfl rfl) ?_
        refine AXo.go0 (f := 0) hev (d_store rfl rfl (stt ty162 rfl rfl)) ?_
        refine AXo.nil ?_
        refine AX.seq ?_
        refine AX.region ?_
        refine AXo.go (f := 0) hev (d_move rfl) ?_
        refine AXo.nil ?_
        refine AX.block ?_
        refine AX.seq ?_
        refine AX.region ?_
        refine AXo.go (f := 0) hev (d_eqI rfl rfl) ?_
        refine AXo.go (f := 0) hev (d_assign rfl) ?_
        refine AXo.nil ?_
        refine AX.condF rfl (by decide) ?_
        refine AX.seq ?_
        refine AX.region ?_
        refine AXo.go (f := 0) hev (d_eqI rfl rfl) ?_
        refine AXo.go (f := 0) hev (d_assign rfl) ?_
        refine AXo.nil ?_
        refine AX.condT rfl (by decide) ?_
        refine AX.seq ?_
        refine AX.seq ?_
        refine AX.draw (f := 0) orders hev ?_
        refine AXd.go rfl (d_move rfl) ?_
        refine AXd.go rfl (d_lenS rfl ty9 rfl) ?_
        refine AXd.go rfl (d_ltI rfl rfl) ?_
        refine AXd.go rfl (d_move rfl) ?_
        refine AXd.split 102 rfl (fun hg102 => ?_) (fun hg102 => ?_)
        · skip
          refine AXd.no rfl rfl rfl (beqTF hg102) ?_
          refine AXd.no rfl rfl rfl (beqTF hg102) ?_
          refine AXd.no rfl rfl rfl (beqTF hg102) ?_
          refine AXd.no rfl rfl rfl (beqTF hg102) ?_
          refine AXd.no rfl rfl rfl (beqTF hg102) ?_
          refine AXd.go rfl (d_pickT rfl hg102 rfl rfl) ?_
          refine AXd.go rfl (d_move rfl) ?_
          refine AXd.no rfl rfl rfl (beqTF rfl) ?_
          refine AXd.no rfl rfl rfl (beqTF rfl) ?_
          refine AXd.no rfl rfl rfl (beqTF rfl) ?_
          refine AXd.no rfl rfl rfl (beqTF rfl) ?_
          refine AXd.no rfl rfl rfl (beqTF rfl) ?_
          refine AXd.go rfl (d_pickT rfl rfl rfl rfl) ?_
          refine AXd.go rfl (d_move rfl) ?_
          refine AXd.no rfl rfl rfl (beqTF rfl) ?_
          refine AXd.no rfl rfl rfl (beqTF rfl) ?_
          refine AXd.no rfl rfl rfl (beqTF rfl) ?_
          refine AXd.go rfl (d_pickT rfl rfl rfl rfl) ?_
          refine AXd.go rfl (d_move rfl) ?_
          refine AXd.no rfl rfl rfl (beqTF rfl) ?_
          refine AXd.no rfl rfl rfl (beqTF rfl) ?_
          refine AXd.no rfl rfl rfl (beqTF rfl) ?_
          refine AXd.go rfl (d_pickT rfl rfl rfl rfl) ?_
          refine AXd.nil (ex_and2 rfl rfl ?_)
          refine AX.condT rfl rfl ?_
          refine AX.seq ?_
          refine AX.region ?_
          refine AXo.go (f := 0) hev (d_assign rfl) ?_
          refine AXo.nil ?_
          refine AX.ret ?_
          refine AX.thenRet ?_
          refine AX.outRet ?_
          refine AX.outRet ?_
          refine AX.leave (e := .ret) (by simp) ?_
          refine AX.outRet ?_
          refine AX.thenRet ?_
          exact ⟨false, .inl rfl⟩
        · have hl3 : 3 ≤ (b :: s').length := by have := of_decide_eq_false hg102; omega
          refine AXd.yes rfl rfl rfl (beqFF hg102) rfl (d_move rfl) ?_
          refine AXd.yes rfl rfl rfl (beqFF hg102) rfl (d_byte (m := 1) rfl rfl ty9 rfl (List.getElem?_eq_getElem (by omega))) ?_
          refine AXd.yes rfl rfl rfl (beqFF hg102) rfl (d_fieldAddr rfl fo162_0 rfl) ?_
          refine AXd.yes rfl rfl rfl (beqFF hg102) rfl ((by first | exact d_loadT rfl (ld ty5 rfl rfl) | exact d_load rfl (ld ty5 rfl rfl))) ?_
          refine AXd.yes rfl rfl rfl (beqFF hg102) rfl (d_ltI rfl rfl) ?_
          refine AXd.go rfl (d_pickF rfl hg102 rfl rfl) ?_
          refine AXd.go rfl (d_move rfl) ?_
          refine AXd.split 109 rfl (fun hg109 => ?_) (fun hg109 => ?_)
          · skip
            refine AXd.no rfl rfl rfl (beqTF hg109) ?_
            refine AXd.no rfl rfl rfl (beqTF hg109) ?_
            refine AXd.no rfl rfl rfl (beqTF hg109) ?_
            refine AXd.no rfl rfl rfl (beqTF hg109) ?_
            refine AXd.no rfl rfl rfl (beqTF hg109) ?_
            refine AXd.go rfl (d_pickT rfl hg109 rfl rfl) ?_
            refine AXd.go rfl (d_move rfl) ?_
            refine AXd.no rfl rfl rfl (beqTF rfl) ?_
            refine AXd.no rfl rfl rfl (beqTF rfl) ?_
            refine AXd.no rfl rfl rfl (beqTF rfl) ?_
            refine AXd.go rfl (d_pickT rfl rfl rfl rfl) ?_
            refine AXd.go rfl (d_move rfl) ?_
            refine AXd.no rfl rfl rfl (beqTF rfl) ?_
            refine AXd.no rfl rfl rfl (beqTF rfl) ?_
            refine AXd.no rfl rfl rfl (beqTF rfl) ?_
            refine AXd.go rfl (d_pickT rfl rfl rfl rfl) ?_
            refine AXd.nil (ex_and2 rfl rfl ?_)
            refine AX.condT rfl rfl ?_
            refine AX.seq ?_
            refine AX.region ?_
            refine AXo.go (f := 0) hev (d_assign rfl) ?_
            refine AXo.nil ?_
            refine AX.ret ?_
            refine AX.thenRet ?_
            refine AX.outRet ?_
            refine AX.outRet ?_
            refine AX.leave (e := .ret) (by simp) ?_
            refine AX.outRet ?_
            refine AX.thenRet ?_
            exact ⟨false, .inl rfl⟩
          · skip
            refine AXd.yes rfl rfl rfl (beqFF hg109) rfl (d_fieldAddr rfl fo162_1 rfl) ?_
            refine AXd.yes rfl rfl rfl (beqFF hg109) rfl ((by first | exact d_loadT rfl (ld ty5 rfl rfl) | exact d_load rfl (ld ty5 rfl rfl))) ?_
            refine AXd.yes rfl rfl rfl (beqFF hg109) rfl (d_move rfl) ?_
            refine AXd.yes rfl rfl rfl (beqFF hg109) rfl (d_byte (m := 1) rfl rfl ty9 rfl (List.getElem?_eq_getElem (by omega))) ?_
            refine AXd.yes rfl rfl rfl (beqFF hg109) rfl (d_ltI rfl rfl) ?_
            refine AXd.go rfl (d_pickF rfl hg109 rfl rfl) ?_
            refine AXd.go rfl (d_move rfl) ?_
            refine AXd.split 116 rfl (fun hg116 => ?_) (fun hg116 => ?_)
            · skip
              refine AXd.no rfl rfl rfl (beqTF hg116) ?_
              refine AXd.no rfl rfl rfl (beqTF hg116) ?_
              refine AXd.no rfl rfl rfl (beqTF hg116) ?_
              refine AXd.go rfl (d_pickT rfl hg116 rfl rfl) ?_
              refine AXd.go rfl (d_move rfl) ?_
              refine AXd.no rfl rfl rfl (beqTF rfl) ?_
              refine AXd.no rfl rfl rfl (beqTF rfl) ?_
              refine AXd.no rfl rfl rfl (beqTF rfl) ?_
              refine AXd.go rfl (d_pickT rfl rfl rfl rfl) ?_
              refine AXd.nil (ex_and2 rfl rfl ?_)
              refine AX.condT rfl rfl ?_
              refine AX.seq ?_
              refine AX.region ?_
              refine AXo.go (f := 0) hev (d_assign rfl) ?_
              refine AXo.nil ?_
              refine AX.ret ?_
              refine AX.thenRet ?_
              refine AX.outRet ?_
              refine AX.outRet ?_
              refine AX.leave (e := .ret) (by simp) ?_
              refine AX.outRet ?_
              refine AX.thenRet ?_
              exact ⟨false, .inl rfl⟩
            · skip
              refine AXd.yes rfl rfl rfl (beqFF hg116) rfl (d_move rfl) ?_
              refine AXd.yes rfl rfl rfl (beqFF hg116) rfl (d_byte (m := 2) rfl rfl ty9 rfl (List.getElem?_eq_getElem (by omega))) ?_
              refine AXd.yes rfl rfl rfl (beqFF hg116) rfl (d_ltI rfl rfl) ?_
              refine AXd.go rfl (d_pickF rfl hg116 rfl rfl) ?_
              refine AXd.go rfl (d_move rfl) ?_
              refine AXd.split 121 rfl (fun hg121 => ?_) (fun hg121 => ?_)
              · skip
                refine AXd.no rfl rfl rfl (beqTF hg121) ?_
                refine AXd.no rfl rfl rfl (beqTF hg121) ?_
                refine AXd.no rfl rfl rfl (beqTF hg121) ?_
                refine AXd.go rfl (d_pickT rfl hg121 rfl rfl) ?_
                refine AXd.nil (ex_and2 rfl rfl ?_)
                refine AX.condT rfl rfl ?_
                refine AX.seq ?_
                refine AX.region ?_
                refine AXo.go (f := 0) hev (d_assign rfl) ?_
                refine AXo.nil ?_
                refine AX.ret ?_
                refine AX.thenRet ?_
                refine AX.outRet ?_
                refine AX.outRet ?_
                refine AX.leave (e := .ret) (by simp) ?_
                refine AX.outRet ?_
                refine AX.thenRet ?_
                exact ⟨false, .inl rfl⟩
              · skip
                refine AXd.yes rfl rfl rfl (beqFF hg121) rfl (d_move rfl) ?_
                refine AXd.yes rfl rfl rfl (beqFF hg121) rfl (d_byte (m := 2) rfl rfl ty9 rfl (List.getElem?_eq_getElem (by omega))) ?_
                refine AXd.yes rfl rfl rfl (beqFF hg121) rfl (d_ltI rfl rfl) ?_
                refine AXd.go rfl (d_pickF rfl hg121 rfl rfl) ?_
                refine AXd.nil (ex_and2 rfl rfl ?_)
                refine AX.cond rfl (fun h125 => ?_) (fun h125 => ?_)
                · skip
                  refine AX.seq ?_
                  refine AX.region ?_
                  refine AXo.go (f := 0) hev (d_assign rfl) ?_
                  refine AXo.nil ?_
                  refine AX.ret ?_
                  refine AX.thenRet ?_
                  refine AX.outRet ?_
                  refine AX.outRet ?_
                  refine AX.leave (e := .ret) (by simp) ?_
                  refine AX.outRet ?_
                  refine AX.thenRet ?_
                  exact ⟨false, .inl rfl⟩
                · skip
                  refine AX.skip ?_
                  refine AX.region ?_
                  refine AXo.go (f := 0) hev (d_move rfl) ?_
                  refine AXo.go (f := 0) hev ((show Does _ _ _ _ _ _ _ _ _ (.t (.str ((b :: s').drop 3))) _ from d_subS (s := (b :: s')) (m := 3) rfl rfl ty9 rfl (by omega))) ?_
                  refine AXo.go (f := 0) hev (d_assign rfl) ?_
                  refine AXo.nil ?_
                  refine AX.outNormal ?_
                  refine AX.outNormal ?_
                  exact ⟨.inl ⟨((b :: s').drop 3), trivial, by show (((b :: s').drop 3)).length < _; first | (simp; done) | (simp only [List.length_drop, List.length_cons]; omega) | (simp only [List.length_drop, List.length_cons] at *; omega)⟩, rfl, (Re.sq [] ⟨rfl, trivial⟩ trivial (by decide) rfl rfl (by decide))⟩
      · -- 35
        refine AX.region ?_
        refine AXo.go (f := 0) hev (d_move rfl) ?_
        refine AXo.go (f := 0) hev (show Does _ _ _ _ _ _ _ _ _ (.t (.int .u8 3)) _ from d_bin rfl rfl (by kernel_rfl)) ?_
        refine AXo.go (f := 0) hev (show Does _ _ _ _ _ _ _ _ _ (.t (.int .i64 3)) _ from d_conv rfl (fun _ _ _ => by kernel_rfl)) ?_
        refine AXo.go (f := 0) hev (d_assign rfl) ?_
        refine AXo.nil ?_
        refine AX.seq ?_
        refine AX.region ?_
        refine AXo.go (f := 0) hev (d_move rfl) ?_
        refine AXo.go (f := 0) hev (show Does _ _ _ _ _ _ _ _ _ (.t (.int .u8 2)) _ from d_bin rfl rfl (by kernel_rfl)) ?_
        refine AXo.go (f := 0) hev (d_indexTab (m := 2) rfl rfl ty163 rfl ty162 (by decide)) ?_
        refine AXo.go (f := 0) hev (show Does _ _ _ _ _ _ _ _ _ (.t (.agg [.int .u8 128, .int .u8 159])) _ from d_loadT rfl (by kernel_rfl)) ?_
        refine AXo.go (f := 0) hev (d_alloc ty162 rfl rfl) ?_
        refine AXo.go0 (f := 0) hev (d_store rfl rfl (stt ty162 rfl rfl)) ?_
        refine AXo.nil ?_
        refine AX.seq ?_
        refine AX.region ?_
        refine AXo.go (f := 0) hev (d_move rfl) ?_
        refine AXo.nil ?_
        refine AX.block ?_
        refine AX.seq ?_
        refine AX.region ?_
        refine AXo.go (f := 0) hev (d_eqI rfl rfl) ?_
        refine AXo.go (f := 0) hev (d_assign rfl) ?_
        refine AXo.nil ?_
        refine AX.condF rfl (by decide) ?_
        refine AX.seq ?_
        refine AX.region ?_
        refine AXo.go (f := 0) hev (d_eqI rfl rfl) ?_
        refine AXo.go (f := 0) hev (d_assign rfl) ?_
        refine AXo.nil ?_
        refine AX.condT rfl (by decide) ?_
        refine AX.seq ?_
        refine AX.seq ?_
        refine AX.draw (f := 0) orders hev ?_
        refine AXd.go rfl (d_move rfl) ?_
        refine AXd.go rfl (d_lenS rfl ty9 rfl) ?_
        refine AXd.go rfl (d_ltI rfl rfl) ?_
        refine AXd.go rfl (d_move rfl) ?_
        refine AXd.split 102 rfl (fun hg102 => ?_) (fun hg102 => ?_)
        · skip
          refine AXd.no rfl rfl rfl (beqTF hg102) ?_
          refine AXd.no rfl rfl rfl (beqTF hg102) ?_
          refine AXd.no rfl rfl rfl (beqTF hg102) ?_
          refine AXd.no rfl rfl rfl (beqTF hg102) ?_
          refine AXd.no rfl rfl rfl (beqTF hg102) ?_
          refine AXd.go rfl (d_pickT rfl hg102 rfl rfl) ?_
          refine AXd.go rfl (d_move rfl) ?_
          refine AXd.no rfl rfl rfl (beqTF rfl) ?_
          refine AXd.no rfl rfl rfl (beqTF rfl) ?_
          refine AXd.no rfl rfl rfl (beqTF rfl) ?_
          refine AXd.no rfl rfl rfl (beqTF rfl) ?_
          refine AXd.no rfl rfl rfl (beqTF rfl) ?_
          refine AXd.go rfl (d_pickT rfl rfl rfl rfl) ?_
          refine AXd.go rfl (d_move rfl) ?_
          refine AXd.no rfl rfl rfl (beqTF rfl) ?_
          refine AXd.no rfl rfl rfl (beqTF rfl) ?_
          refine AXd.no rfl rfl rfl (beqTF rfl) ?_
          refine AXd.go rfl (d_pickT rfl rfl rfl rfl) ?_
          refine AXd.go rfl (d_move rfl) ?_
          refine AXd.no rfl rfl rfl (beqTF rfl) ?_
          refine AXd.no rfl rfl rfl (beqTF rfl) ?_
          refine AXd.no rfl rfl rfl (beqTF rfl) ?_
          refine AXd.go rfl (d_pickT rfl rfl rfl rfl) ?_
          refine AXd.nil (ex_and2 rfl rfl ?_)
          refine AX.condT rfl rfl ?_
          refine AX.seq ?_
          refine AX.region ?_
          refine AXo.go (f := 0) hev (d_assign rfl) ?_
          refine AXo.nil ?_
          refine AX.ret ?_
          refine AX.thenRet ?_
          refine AX.outRet ?_
          refine AX.outRet ?_
          refine AX.leave (e := .ret) (by simp) ?_
          refine AX.outRet ?_
          refine AX.thenRet ?_
          exact ⟨false, .inl rfl⟩
        · have hl3 : 3 ≤ (b :: s').length := by have := of_decide_eq_false hg102; omega
          refine AXd.yes rfl rfl rfl (beqFF hg102) rfl (d_move rfl) ?_
          refine AXd.yes rfl rfl rfl (beqFF hg102) rfl (d_byte (m := 1) rfl rfl ty9 rfl (List.getElem?_eq_getElem (by omega))) ?_
          refine AXd.yes rfl rfl rfl (beqFF hg102) rfl (d_fieldAddr rfl fo162_0 rfl) ?_
          refine AXd.yes rfl rfl rfl (beqFF hg102) rfl ((by first | exact d_loadT rfl (ld ty5 rfl rfl) | exact d_load rfl (ld ty5 rfl rfl))) ?_
          refine AXd.yes rfl rfl rfl (beqFF hg102) rfl (d_ltI rfl rfl) ?_
          refine AXd.go rfl (d_pickF rfl hg102 rfl rfl) ?_
          refine AXd.go rfl (d_move rfl) ?_
          refine AXd.split 109 rfl (fun hg109 => ?_) (fun hg109 => ?_)
          · skip
            refine AXd.no rfl rfl rfl (beqTF hg109) ?_
            refine AXd.no rfl rfl rfl (beqTF hg109) ?_
            refine AXd.no rfl rfl rfl (beqTF hg109) ?_
            refine AXd.no rfl rfl rfl (beqTF hg109) ?_
            refine AXd.no rfl rfl rfl (beqTF hg109) ?_
            refine AXd.go rfl (d_pickT rfl hg109 rfl rfl) ?_
            refine AXd.go rfl (d_move rfl) ?_
            refine AXd.no rfl rfl rfl (beqTF rfl) ?_
            refine AXd.no rfl rfl rfl (beqTF rfl) ?_
            refine AXd.no rfl rfl rfl (beqTF rfl) ?_
            refine AXd.go rfl (d_pickT rfl rfl rfl rfl) ?_
            refine AXd.go rfl (d_move rfl) ?_
            refine AXd.no rfl rfl rfl (beqTF rfl) ?_
            refine AXd.no rfl rfl rfl (beqTF rfl) ?_
            refine AXd.no rfl rfl rfl (beqTF rfl) ?_
            refine AXd.go rfl (d_pickT rfl rfl rfl rfl) ?_
            refine AXd.nil (ex_and2 rfl rfl ?_)
            refine AX.condT rfl rfl ?_
            refine AX.seq ?_
            refine AX.region ?_
            refine AXo.go (f := 0) hev (d_assign rfl) ?_
            refine AXo.nil ?_
            refine AX.ret ?_
            refine AX.thenRet ?_
            refine AX.outRet ?_
            refine AX.outRet ?_
            refine AX.leave (e := .ret) (by simp) ?_
            refine AX.outRet ?_
            refine AX.thenRet ?_
            exact ⟨false, .inl rfl⟩
          · skip
            refine AXd.yes rfl rfl rfl (beqFF hg109) rfl (d_fieldAddr rfl fo162_1 rfl) ?_
            refine AXd.yes rfl rfl rfl (beqFF hg109) rfl ((by first | exact d_loadT rfl (ld ty5 rfl rfl) | exact d_load rfl (ld ty5 rfl rfl))) ?_
            refine AXd.yes rfl rfl rfl (beqFF hg109) rfl (d_move rfl) ?_
            refine AXd.yes rfl rfl rfl (beqFF hg109) rfl (d_byte (m := 1) rfl rfl ty9 rfl (List.getElem?_eq_getElem (by omega))) ?_
            refine AXd.yes rfl rfl rfl (beqFF hg109) rfl (d_ltI rfl rfl) ?_
            refine AXd.go rfl (d_pickF rfl hg109 rfl rfl) ?_
            refine AXd.go rfl (d_move rfl) ?_
            refine AXd.split 116 rfl (fun hg116 => ?_) (fun hg116 => ?_)
            · skip
              refine AXd.no rfl rfl rfl (beqTF hg116) ?_
              refine AXd.no rfl rfl rfl (beqTF hg116) ?_
              refine AXd.no rfl rfl rfl (beqTF hg116) ?_
              refine AXd.go rfl (d_pickT rfl hg116 rfl rfl) ?_
              refine AXd.go rfl (d_move rfl) ?_
              refine AXd.no rfl rfl rfl (beqTF rfl) ?_
              refine AXd.no rfl rfl rfl (beqTF rfl) ?_
              refine AXd.no rfl rfl rfl (beqTF rfl) ?_
              refine AXd.go rfl (d_pickT rfl rfl rfl rfl) ?_
              refine AXd.nil (ex_and2 rfl rfl ?_)
              refine AX.condT rfl rfl ?_
              refine AX.seq ?_
              refine AX.region ?_
              refine AXo.go (f := 0) hev (d_assign rfl) ?_
              refine AXo.nil ?_
              refine AX.ret ?_
              refine AX.thenRet ?_
              refine AX.outRet ?_
              refine AX.outRet ?_
              refine AX.leave (e := .ret) (by simp) ?_
              refine AX.outRet ?_
              refine AX.thenRet ?_
              exact ⟨false, .inl rfl⟩
            · skip
              refine AXd.yes rfl rfl rfl (beqFF hg116) rfl (d_move rfl) ?_
              refine AXd.yes rfl rfl rfl (beqFF hg116) rfl (d_byte (m := 2) rfl rfl ty9 rfl (List.getElem?_eq_getElem (by omega))) ?_
              refine AXd.yes rfl rfl rfl (beqFF hg116) rfl (d_ltI rfl rfl) ?_
              refine AXd.go rfl (d_pickF rfl hg116 rfl rfl) ?_
              refine AXd.go rfl (d_move rfl) ?_
              refine AXd.split 121 rfl (fun hg121 => ?_) (fun hg121 => ?_)
              · skip
                refine AXd.no rfl rfl rfl (beqTF hg121) ?_
                refine AXd.no rfl rfl rfl (beqTF hg121) ?_
                refine AXd.no rfl rfl rfl (beqTF hg121) ?_
                refine AXd.go rfl (d_pickT rfl hg121 rfl rfl) ?_
                refine AXd.nil (ex_and2 rfl rfl ?_)
                refine AX.condT rfl rfl ?_
                refine AX.seq ?_
                refine AX.region ?_
                refine AXo.go (f := 0) hev (d_assign rfl) ?_
                refine AXo.nil ?_
                refine AX.ret ?_
                refine AX.thenRet ?_
                refine AX.outRet ?_
                refine AX.outRet ?_
                refine AX.leave (e := .ret) (by simp) ?_
                refine AX.outRet ?_
                refine AX.thenRet ?_
                exact ⟨false, .inl rfl⟩
              · skip
                refine AXd.yes rfl rfl rfl (beqFF hg121) rfl (d_move rfl) ?_
                refine AXd.yes rfl rfl rfl (beqFF hg121) rfl (d_byte (m := 2) rfl rfl ty9 rfl (List.getElem?_eq_getElem (by omega))) ?_
                refine AXd.yes rfl rfl rfl (beqFF hg121) rfl (d_ltI rfl rfl) ?_
                refine AXd.go rfl (d_pickF rfl hg121 rfl rfl) ?_
                refine AXd.nil (ex_and2 rfl rfl ?_)
                refine AX.cond rfl (fun h125 => ?_) (fun h125 => ?_)
                · skip
                  refine AX.seq ?_
                  refine AX.region ?_
                  refine AXo.go (f := 0) hev (d_assign rfl) ?_
                  refine AXo.nil ?_
                  refine AX.ret ?_
                  refine AX.thenRet ?_
                  refine AX.outRet ?_
                  refine AX.outRet ?_
                  refine AX.leave (e := .ret) (by simp) ?_
                  refine AX.outRet ?_
                  refine AX.thenRet ?_
                  exact ⟨false, .inl rfl⟩
                · skip
                  refine AX.skip ?_
                  refine AX.region ?_
                  refine AXo.go (f := 0) hev (d_move rfl) ?_
                  refine AXo.go (f := 0) hev ((show Does _ _ _ _ _ _ _ _ _ (.t (.str ((b :: s').drop 3))) _ from d_subS (s := (b :: s')) (m := 3) rfl rfl ty9 rfl (by omega))) ?_
                  refine AXo.go (f := 0) hev (d_assign rfl) ?_
                  refine AXo.nil ?_
                  refine AX.outNormal ?_
                  refine AX.outNormal ?_
                  exact ⟨.inl ⟨((b :: s').drop 3), trivial, by show (((b :: s').drop 3)).length < _; first | (simp; done) | (simp only [List.length_drop, List.length_cons]; omega) | (simp only [List.length_drop, List.length_cons] at *; omega)⟩, rfl, (Re.sq [] ⟨rfl, trivial⟩ trivial (by decide) rfl rfl (by decide))⟩
      · -- 52
        refine AX.region ?_
        refine AXo.go (f := 0) hev (d_move rfl) ?_
        refine AXo.go (f := 0) hev (show Does _ _ _ _ _ _ _ _ _ (.t (.int .u8 4)) _ from d_bin rfl rfl (by kernel_rfl)) ?_
        refine AXo.go (f := 0) hev (show Does _ _ _ _ _ _ _ _ _ (.t (.int .i64 4)) _ from d_conv rfl (fun _ _ _ => by kernel_rfl)) ?_
        refine AXo.go (f := 0) hev (d_assign rfl) ?_
        refine AXo.nil ?_
        refine AX.seq ?_
        refine AX.region ?_
        refine AXo.go (f := 0) hev (d_move rfl) ?_
        refine AXo.go (f := 0) hev (show Does _ _ _ _ _ _ _ _ _ (.t (.int .u8 3)) _ from d_bin rfl rfl (by kernel_rfl)) ?_
        refine AXo.go (f := 0) hev (d_indexTab (m := 3) rfl rfl ty163 rfl ty162 (by decide)) ?_
        refine AXo.go (f := 0) hev (show Does _ _ _ _ _ _ _ _ _ (.t (.agg [.int .u8 144, .int .u8 191])) _ from d_loadT rfl (by kernel_rfl)) ?_
        refine AXo.go (f := 0) hev (d_alloc ty162 rfl rfl) ?_
        refine AXo.go0 (f := 0) hev (d_store rfl rfl (stt ty162 rfl rfl)) ?_
        refine AXo.nil ?_
        refine AX.seq ?_
        refine AX.region ?_
        refine AXo.go (f := 0) hev (d_move rfl) ?_
        refine AXo.nil ?_
        refine AX.block ?_
        refine AX.seq ?_
        refine AX.region ?_
        refine AXo.go (f := 0) hev (d_eqI rfl rfl) ?_
        refine AXo.go (f := 0) hev (d_assign rfl) ?_
        refine AXo.nil ?_
        refine AX.condF rfl (by decide) ?_
        refine AX.seq ?_
        refine AX.region ?_
        refine AXo.go (f := 0) hev (d_eqI rfl rfl) ?_
        refine AXo.go (f := 0) hev (d_assign rfl) ?_
        refine AXo.nil ?_
        refine AX.condF rfl (by decide) ?_
        refine AX.seq ?_
        refine AX.region ?_
        refine AXo.go (f := 0) hev (d_eqI rfl rfl) ?_
        refine AXo.go (f := 0) hev (d_assign rfl) ?_
        refine AXo.nil ?_
        refine AX.condT rfl (by decide) ?_
        refine AX.seq ?_
        refine AX.seq ?_
        refine AX.draw (f := 0) orders hev ?_
        refine AXd.go rfl (d_move rfl) ?_
        refine AXd.go rfl (d_lenS rfl ty9 rfl) ?_
        refine AXd.go rfl (d_ltI rfl rfl) ?_
        refine AXd.go rfl (d_move rfl) ?_
        refine AXd.split 133 rfl (fun hg133 => ?_) (fun hg133 => ?_)
        · skip
          refine AXd.no rfl rfl rfl (beqTF hg133) ?_
          refine AXd.no rfl rfl rfl (beqTF hg133) ?_
          refine AXd.no rfl rfl rfl (beqTF hg133) ?_
          refine AXd.no rfl rfl rfl (beqTF hg133) ?_
          refine AXd.no rfl rfl rfl (beqTF hg133) ?_
          refine AXd.go rfl (d_pickT rfl hg133 rfl rfl) ?_
          refine AXd.go rfl (d_move rfl) ?_
          refine AXd.no rfl rfl rfl (beqTF rfl) ?_
          refine AXd.no rfl rfl rfl (beqTF rfl) ?_
          refine AXd.no rfl rfl rfl (beqTF rfl) ?_
          refine AXd.no rfl rfl rfl (beqTF rfl) ?_
          refine AXd.no rfl rfl rfl (beqTF rfl) ?_
          refine AXd.go rfl (d_pickT rfl rfl rfl rfl) ?_
          refine AXd.go rfl (d_move rfl) ?_
          refine AXd.no rfl rfl rfl (beqTF rfl) ?_
          refine AXd.no rfl rfl rfl (beqTF rfl) ?_
          refine AXd.no rfl rfl rfl (beqTF rfl) ?_
          refine AXd.go rfl (d_pickT rfl rfl rfl rfl) ?_
          refine AXd.go rfl (d_move rfl) ?_
          refine AXd.no rfl rfl rfl (beqTF rfl) ?_
          refine AXd.no rfl rfl rfl (beqTF rfl) ?_
          refine AXd.no rfl rfl rfl (beqTF rfl) ?_
          refine AXd.go rfl (d_pickT rfl rfl rfl rfl) ?_
          refine AXd.go rfl (d_move rfl) ?_
          refine AXd.no rfl rfl rfl (beqTF rfl) ?_
          refine AXd.no rfl rfl rfl (beqTF rfl) ?_
          refine AXd.no rfl rfl rfl (beqTF rfl) ?_
          refine AXd.go rfl (d_pickT rfl rfl rfl rfl) ?_
          refine AXd.go rfl (d_move rfl) ?_
          refine AXd.no rfl rfl rfl (beqTF rfl) ?_
          refine AXd.no rfl rfl rfl (beqTF rfl) ?_
          refine AXd.no rfl rfl rfl (beqTF rfl) ?_
          refine AXd.go rfl (d_pickT rfl rfl rfl rfl) ?_
          refine AXd.nil (ex_and2 rfl rfl ?_)
          refine AX.condT rfl rfl ?_
          refine AX.seq ?_
          refine AX.region ?_
          refine AXo.go (f := 0) hev (d_assign rfl) ?_
          refine AXo.nil ?_
          refine AX.ret ?_
          refine AX.thenRet ?_
          refine AX.outRet ?_
          refine AX.outRet ?_
          refine AX.leave (e := .ret) (by simp) ?_
          refine AX.outRet ?_
          refine AX.thenRet ?_
          exact ⟨false, .inl rfl⟩
        · have hl4 : 4 ≤ (b :: s').length := by have := of_decide_eq_false hg133; omega
          refine AXd.yes rfl rfl rfl (beqFF hg133) rfl (d_move rfl) ?_
          refine AXd.yes rfl rfl rfl (beqFF hg133) rfl (d_byte (m := 1) rfl rfl ty9 rfl (List.getElem?_eq_getElem (by omega))) ?_
          refine AXd.yes rfl rfl rfl (beqFF hg133) rfl (d_fieldAddr rfl fo162_0 rfl) ?_
          refine AXd.yes rfl rfl rfl (beqFF hg133) rfl ((by first | exact d_loadT rfl (ld ty5 rfl rfl) | exact d_load rfl (ld ty5 rfl rfl))) ?_
          refine AXd.yes rfl rfl rfl (beqFF hg133) rfl (d_ltI rfl rfl) ?_
          refine AXd.go rfl (d_pickF rfl hg133 rfl rfl) ?_
          refine AXd.go rfl (d_move rfl) ?_
          refine AXd.split 140 rfl (fun hg140 => ?_) (fun hg140 => ?_)
          · skip
            refine AXd.no rfl rfl rfl (beqTF hg140) ?_
            refine AXd.no rfl rfl rfl (beqTF hg140) ?_
            refine AXd.no rfl rfl rfl (beqTF hg140) ?_
            refine AXd.no rfl rfl rfl (beqTF hg140) ?_
            refine AXd.no rfl rfl rfl (beqTF hg140) ?_
            refine AXd.go rfl (d_pickT rfl hg140 rfl rfl) ?_
            refine AXd.go rfl (d_move rfl) ?_
            refine AXd.no rfl rfl rfl (beqTF rfl) ?_
            refine AXd.no rfl rfl rfl (beqTF rfl) ?_
            refine AXd.no rfl rfl rfl (beqTF rfl) ?_
            refine AXd.go rfl (d_pickT rfl rfl rfl rfl) ?_
            refine AXd.go rfl (d_move rfl) ?_
            refine AXd.no rfl rfl rfl (beqTF rfl) ?_
            refine AXd.no rfl rfl rfl (beqTF rfl) ?_
            refine AXd.no rfl rfl rfl (beqTF rfl) ?_
            refine AXd.go rfl (d_pickT rfl rfl rfl rfl) ?_
            refine AXd.go rfl (d_move rfl) ?_
            refine AXd.no rfl rfl rfl (beqTF rfl) ?_
            refine AXd.no rfl rfl rfl (beqTF rfl) ?_
            refine AXd.no rfl rfl rfl (beqTF rfl) ?_
            refine AXd.go rfl (d_pickT rfl rfl rfl rfl) ?_
            refine AXd.go rfl (d_move rfl) ?_
            refine AXd.no rfl rfl rfl (beqTF rfl) ?_
            refine AXd.no rfl rfl rfl (beqTF rfl) ?_
            refine AXd.no rfl rfl rfl (beqTF rfl) ?_
            refine AXd.go rfl (d_pickT rfl rfl rfl rfl) ?_
            refine AXd.nil (ex_and2 rfl rfl ?_)
            refine AX.condT rfl rfl ?_
            refine AX.seq ?_
            refine AX.region ?_
            refine AXo.go (f := 0) hev (d_assign rfl) ?_
            refine AXo.nil ?_
            refine AX.ret ?_
            refine AX.thenRet ?_
            refine AX.outRet ?_
            refine AX.outRet ?_
            refine AX.leave (e := .ret) (by simp) ?_
            refine AX.outRet ?_
            refine AX.thenRet ?_
            exact ⟨false, .inl rfl⟩
          · skip
            refine AXd.yes rfl rfl rfl (beqFF hg140) rfl (d_fieldAddr rfl fo162_1 rfl) ?_
            refine AXd.yes rfl rfl rfl (beqFF hg140) rfl ((by first | exact d_loadT rfl (ld ty5 rfl rfl) | exact d_load rfl (ld ty5 rfl rfl))) ?_
            refine AXd.yes rfl rfl rfl (beqFF hg140) rfl (d_move rfl) ?_
            refine AXd.yes rfl rfl rfl (beqFF hg140) rfl (d_byte (m := 1) rfl rfl ty9 rfl (List.getElem?_eq_getElem (by omega))) ?_
            refine AXd.yes rfl rfl rfl (beqFF hg140) rfl (d_ltI rfl rfl) ?_
            refine AXd.go rfl (d_pickF rfl hg140 rfl rfl) ?_
            refine AXd.go rfl (d_move rfl) ?_
            refine AXd.split 147 rfl (fun hg147 => ?_) (fun hg147 => ?_)
            · skip
              refine AXd.no rfl rfl rfl (beqTF hg147) ?_
              refine AXd.no rfl rfl rfl (beqTF hg147) ?_
              refine AXd.no rfl rfl rfl (beqTF hg147) ?_
              refine AXd.go rfl (d_pickT rfl hg147 rfl rfl) ?_
              refine AXd.go rfl (d_move rfl) ?_
              refine AXd.no rfl rfl rfl (beqTF rfl) ?_
              refine AXd.no rfl rfl rfl (beqTF rfl) ?_
              refine AXd.no rfl rfl rfl (beqTF rfl) ?_
              refine AXd.go rfl (d_pickT rfl rfl rfl rfl) ?_
              refine AXd.go rfl (d_move rfl) ?_
              refine AXd.no rfl rfl rfl (beqTF rfl) ?_
              refine AXd.no rfl rfl rfl (beqTF rfl) ?_
              refine AXd.no rfl rfl rfl (beqTF rfl) ?_
              refine AXd.go rfl (d_pickT rfl rfl rfl rfl) ?_
              refine AXd.go rfl (d_move rfl) ?_
              refine AXd.no rfl rfl rfl (beqTF rfl) ?_
              refine AXd.no rfl rfl rfl (beqTF rfl) ?_
              refine AXd.no rfl rfl rfl (beqTF rfl) ?_
              refine AXd.go rfl (d_pickT rfl rfl rfl rfl) ?_
              refine AXd.nil (ex_and2 rfl rfl ?_)
              refine AX.condT rfl rfl ?_
              refine AX.seq ?_
              refine AX.region ?_
              refine AXo.go (f := 0) hev (d_assign rfl) ?_
              refine AXo.nil ?_
              refine AX.ret ?_
              refine AX.thenRet ?_
              refine AX.outRet ?_
              refine AX.outRet ?_
              refine AX.leave (e := .ret) (by simp) ?_
              refine AX.outRet ?_
              refine AX.thenRet ?_
              exact ⟨false, .inl rfl⟩
            · skip
              refine AXd.yes rfl rfl rfl (beqFF hg147) rfl (d_move rfl) ?_
              refine AXd.yes rfl rfl rfl (beqFF hg147) rfl (d_byte (m := 2) rfl rfl ty9 rfl (List.getElem?_eq_getElem (by omega))) ?_
              refine AXd.yes rfl rfl rfl (beqFF hg147) rfl (d_ltI rfl rfl) ?_
              refine AXd.go rfl (d_pickF rfl hg147 rfl rfl) ?_
              refine AXd.go rfl (d_move rfl) ?_
              refine AXd.split 152 rfl (fun hg152 => ?_) (fun hg152 => ?_)
              · skip
                refine AXd.no rfl rfl rfl (beqTF hg152) ?_
                refine AXd.no rfl rfl rfl (beqTF hg152) ?_
                refine AXd.no rfl rfl rfl (beqTF hg152) ?_
                refine AXd.go rfl (d_pickT rfl hg152 rfl rfl) ?_
                refine AXd.go rfl (d_move rfl) ?_
                refine AXd.no rfl rfl rfl (beqTF rfl) ?_
                refine AXd.no rfl rfl rfl (beqTF rfl) ?_
                refine AXd.no rfl rfl rfl (beqTF rfl) ?_
                refine AXd.go rfl (d_pickT rfl rfl rfl rfl) ?_
                refine AXd.go rfl (d_move rfl) ?_
                refine AXd.no rfl rfl rfl (beqTF rfl) ?_
                refine AXd.no rfl rfl rfl (beqTF rfl) ?_
                refine AXd.no rfl rfl rfl (beqTF rfl) ?_
                refine AXd.go rfl (d_pickT rfl rfl rfl rfl) ?_
                refine AXd.nil (ex_and2 rfl rfl ?_)
                refine AX.condT rfl rfl ?_
                refine AX.seq ?_
                refine AX.region ?_
                refine AXo.go (f := 0) hev (d_assign rfl) ?_
                refine AXo.nil ?_
                refine AX.ret ?_
                refine AX.thenRet ?_
                refine AX.outRet ?_
                refine AX.outRet ?_
                refine AX.leave (e := .ret) (by simp) ?_
                refine AX.outRet ?_
                refine AX.thenRet ?_
                exact ⟨false, .inl rfl⟩
              · skip
                refine AXd.yes rfl rfl rfl (beqFF hg152) rfl (d_move rfl) ?_
                refine AXd.yes rfl rfl rfl (beqFF hg152) rfl (d_byte (m := 2) rfl rfl ty9 rfl (List.getElem?_eq_getElem (by omega))) ?_
                refine AXd.yes rfl rfl rfl (beqFF hg152) rfl (d_ltI rfl rfl) ?_
                refine AXd.go rfl (d_pickF rfl hg152 rfl rfl) ?_
                refine AXd.go rfl (d_move rfl) ?_
                refine AXd.split 157 rfl (fun hg157 => ?_) (fun hg157 => ?_)
                · skip
                  refine AXd.no rfl rfl rfl (beqTF hg157) ?_
                  refine AXd.no rfl rfl rfl (beqTF hg157) ?_
                  refine AXd.no rfl rfl rfl (beqTF hg157) ?_
                  refine AXd.go rfl (d_pickT rfl hg157 rfl rfl) ?_
                  refine AXd.go rfl (d_move rfl) ?_
                  refine AXd.no rfl rfl rfl (beqTF rfl) ?_
                  refine AXd.no rfl rfl rfl (beqTF rfl) ?_
                  refine AXd.no rfl rfl rfl (beqTF rfl) ?_
                  refine AXd.go rfl (d_pickT rfl rfl rfl rfl) ?_
                  refine AXd.nil (ex_and2 rfl rfl ?_)
                  refine AX.condT rfl rfl ?_
                  refine AX.seq ?_
                  refine AX.region ?_
                  refine AXo.go (f := 0) hev (d_assign rfl) ?_
                  refine AXo.nil ?_
                  refine AX.ret ?_
                  refine AX.thenRet ?_
                  refine AX.outRet ?_
                  refine AX.outRet ?_
                  refine AX.leave (e := .ret) (by simp) ?_
                  refine AX.outRet ?_
                  refine AX.thenRet ?_
                  exact ⟨false, .inl rfl⟩
                · skip
                  refine AXd.yes rfl rfl rfl (beqFF hg157) rfl (d_move rfl) ?_
                  refine AXd.yes rfl rfl rfl (beqFF hg157) rfl (d_byte (m := 3) rfl rfl ty9 rfl (List.getElem?_eq_getElem (by omega))) ?_
                  refine AXd.yes rfl rfl rfl (beqFF hg157) rfl (d_ltI rfl rfl) ?_
                  refine AXd.go rfl (d_pickF rfl hg157 rfl rfl) ?_
                  refine AXd.go rfl (d_move rfl) ?_
                  refine AXd.split 162 rfl (fun hg162 => ?_) (fun hg162 => ?_)
                  · skip
                    refine AXd.no rfl rfl rfl (beqTF hg162) ?_
                    refine AXd.no rfl rfl rfl (beqTF hg162) ?_
                    refine AXd.no rfl rfl rfl (beqTF hg162) ?_
                    refine AXd.go rfl (d_pickT rfl hg162 rfl rfl) ?_
                    refine AXd.nil (ex_and2 rfl rfl ?_)
                    refine AX.condT rfl rfl ?_
                    refine AX.seq ?_
                    refine AX.region ?_
                    refine AXo.go (f := 0) hev (d_assign rfl) ?_
                    refine AXo.nil ?_
                    refine AX.ret ?_
                    refine AX.thenRet ?_
                    refine AX.outRet ?_
                    refine AX.outRet ?_
                    refine AX.leave (e := .ret) (by simp) ?_
                    refine AX.outRet ?_
                    refine AX.thenRet ?_
                    exact ⟨false, .inl rfl⟩
                  · skip
                    refine AXd.yes rfl rfl rfl (beqFF hg162) rfl (d_move rfl) ?_
                    refine AXd.yes rfl rfl rfl (beqFF hg162) rfl (d_byte (m := 3) rfl rfl ty9 rfl (List.getElem?_eq_getElem (by omega))) ?_
                    refine AXd.yes rfl rfl rfl (beqFF hg162) rfl (d_ltI rfl rfl) ?_
                    refine AXd.go rfl (d_pickF rfl hg162 rfl rfl) ?_
                    refine AXd.nil (ex_and2 rfl rfl ?_)
                    refine AX.cond rfl (fun h166 => ?_) (fun h166 => ?_)
                    · skip
                      refine AX.seq ?_
                      refine AX.region ?_
                      refine AXo.go (f := 0) hev (d_assign rfl) ?_
                      refine AXo.nil ?_
                      refine AX.ret ?_
                      refine AX.thenRet ?_
                      refine AX.outRet ?_
                      refine AX.outRet ?_
                      refine AX.leave (e := .ret) (by simp) ?_
                      refine AX.outRet ?_
                      refine AX.thenRet ?_
                      exact ⟨false, .inl rfl⟩
                    · skip
                      refine AX.skip ?_
                      refine AX.region ?_
                      refine AXo.go (f := 0) hev (d_move rfl) ?_
                      refine AXo.go (f := 0) hev ((show Does _ _ _ _ _ _ _ _ _ (.t (.str ((b :: s').drop 4))) _ from d_subS (s := (b :: s')) (m := 4) rfl rfl ty9 rfl (by omega))) ?_
                      refine AXo.go (f := 0) hev (d_assign rfl) ?_
                      refine AXo.nil ?_
                      refine AX.outNormal ?_
                      refine AX.outNormal ?_
                      exact ⟨.inl ⟨((b :: s').drop 4), trivial, by show (((b :: s').drop 4)).length < _; first | (simp; done) | (simp only [List.length_drop, List.length_cons]; omega) | (simp only [List.length_drop, List.length_cons] at *; omega)⟩, rfl, (Re.sq [] ⟨rfl, trivial⟩ trivial (by decide) rfl rfl (by decide))⟩
      · -- 4
        refine AX.region ?_
        refine AXo.go (f := 0) hev (d_move rfl) ?_
        refine AXo.go (f := 0) hev (show Does _ _ _ _ _ _ _ _ _ (.t (.int .u8 4)) _ from d_bin rfl rfl (by kernel_rfl)) ?_
        refine AXo.go (f := 0) hev (show Does _ _ _ _ _ _ _ _ _ (.t (.int .i64 4)) _ from d_conv rfl (fun _ _ _ => by kernel_rfl)) ?_
        refine AXo.go (f := 0) hev (d_assign rfl) ?_
        refine AXo.nil ?_
        refine AX.seq ?_
        refine AX.region ?_
        refine AXo.go (f := 0) hev (d_move rfl) ?_
        refine AXo.go (f := 0) hev (show Does _ _ _ _ _ _ _ _ _ (.t (.int .u8 0)) _ from d_bin rfl rfl (by kernel_rfl)) ?_
        refine AXo.go (f := 0) hev (d_indexTab (m := 0) rfl rfl ty163 rfl ty162 (by decide)) ?_
        refine AXo.go (f := 0) hev (show Does _ _ _ _ _ _ _ _ _ (.t (.agg [.int .u8 128, .int .u8 191])) _ from d_loadT rfl (by kernel_rfl)) ?_
        refine AXo.go (f := 0) hev (d_alloc ty162 rfl rfl) ?_
        refine AXo.go0 (f := 0) hev (d_store rfl rfl (stt ty162 rfl rfl)) ?_
        refine AXo.nil ?_
        refine AX.seq ?_
        refine AX.region ?_
        refine AXo.go (f := 0) hev (d_move rfl) ?_
        refine AXo.nil ?_
        refine AX.block ?_
        refine AX.seq ?_
        refine AX.region ?_
        refine AXo.go (f := 0) hev (d_eqI rfl rfl) ?_
        refine AXo.go (f := 0) hev (d_assign rfl) ?_
        refine AXo.nil ?_
        refine AX.condF rfl (by decide) ?_
        refine AX.seq ?_
        refine AX.region ?_
        refine AXo.go (f := 0) hev (d_eqI rfl rfl) ?_
        refine AXo.go (f := 0) hev (d_assign rfl) ?_
        refine AXo.nil ?_
        refine AX.condF rfl (by decide) ?_
        refine AX.seq ?_
        refine AX.region ?_
        refine AXo.go (f := 0) hev (d_eqI rfl rfl) ?_
        refine AXo.go (f := 0) hev (d_assign rfl) ?_
        refine AXo.nil ?_
        refine AX.condT rfl (by decide) ?_
        refine AX.seq ?_
        refine AX.seq ?_
        refine AX.draw (f := 0) orders hev ?_
        refine AXd.go rfl (d_move rfl) ?_
        refine AXd.go rfl (d_lenS rfl ty9 rfl) ?_
        refine AXd.go rfl (d_ltI rfl rfl) ?_
        refine AXd.go rfl (d_move rfl) ?_
        refine AXd.split 133 rfl (fun hg133 => ?_) (fun hg133 => ?_)
        · skip
          refine AXd.no rfl rfl rfl (beqTF hg133) ?_
          refine AXd.no rfl rfl rfl (beqTF hg133) ?_
          refine AXd.no rfl rfl rfl (beqTF hg133) ?_
          refine AXd.no rfl rfl rfl (beqTF hg133) ?_
          refine AXd.no rfl rfl rfl (beqTF hg133) ?_
          refine AXd.go rfl (d_pickT rfl hg133 rfl rfl) ?_
          refine AXd.go rfl (d_move rfl) ?_
          refine AXd.no rfl rfl rfl (beqTF rfl) ?_
          refine AXd.no rfl rfl rfl (beqTF rfl) ?_
          refine AXd.no rfl rfl rfl (beqTF rfl) ?_
          refine AXd.no rfl rfl rfl (beqTF rfl) ?_
          refine AXd.no rfl rfl rfl (beqTF rfl) ?_
          refine AXd.go rfl (d_pickT rfl rfl rfl rfl) ?_
          refine AXd.go rfl (d_move rfl) ?_
          refine AXd.no rfl rfl rfl (beqTF rfl) ?_
          refine AXd.no rfl rfl rfl (beqTF rfl) ?_
          refine AXd.no rfl rfl rfl (beqTF rfl) ?_
          refine AXd.go rfl (d_pickT rfl rfl rfl rfl) ?_
          refine AXd.go rfl (d_move rfl) ?_
          refine AXd.no rfl rfl rfl (beqTF rfl) ?_
          refine AXd.no rfl rfl rfl (beqTF rfl) ?_
          refine AXd.no rfl rfl rfl (beqTF rfl) ?_
          refine AXd.go rfl (d_pickT rfl rfl rfl rfl) ?_
          refine AXd.go rfl (d_move rfl) ?_
          refine AXd.no rfl rfl rfl (beqTF rfl) ?_
          refine AXd.no rfl rfl rfl (beqTF rfl) ?_
          refine AXd.no rfl rfl rfl (beqTF rfl) ?_
          refine AXd.go rfl (d_pickT rfl rfl rfl rfl) ?_
          refine AXd.go rfl (d_move rfl) ?_
          refine AXd.no rfl rfl rfl (beqTF rfl) ?_
          refine AXd.no rfl rfl rfl (beqTF rfl) ?_
          refine AXd.no rfl rfl rfl (beqTF rfl) ?_
          refine AXd.go rfl (d_pickT rfl rfl rfl rfl) ?_
          refine AXd.nil (ex_and2 rfl rfl ?_)
          refine AX.condT rfl rfl ?_
          refine AX.seq ?_
          refine AX.region ?_
          refine AXo.go (f := 0) hev (d_assign rfl) ?_
          refine AXo.nil ?_
          refine AX.ret ?_
          refine AX.thenRet ?_
          refine AX.outRet ?_
          refine AX.outRet ?_
          refine AX.leave (e := .ret) (by simp) ?_
          refine AX.outRet ?_
          refine AX.thenRet ?_
          exact ⟨false, .inl rfl⟩
        · have hl4 : 4 ≤ (b :: s').length := by have := of_decide_eq_false hg133; omega
          refine AXd.yes rfl rfl rfl (beqFF hg133) rfl (d_move rfl) ?_
          refine AXd.yes rfl rfl rfl (beqFF hg133) rfl (d_byte (m := 1) rfl rfl ty9 rfl (List.getElem?_eq_getElem (by omega))) ?_
          refine AXd.yes rfl rfl rfl (beqFF hg133) rfl (d_fieldAddr rfl fo162_0 rfl) ?_
          refine AXd.yes rfl rfl rfl (beqFF hg133) rfl ((by first | exact d_loadT rfl (ld ty5 rfl rfl) | exact d_load rfl (ld ty5 rfl rfl))) ?_
          refine AXd.yes rfl rfl rfl (beqFF hg133) rfl (d_ltI rfl rfl) ?_
          refine AXd.go rfl (d_pickF rfl hg133 rfl rfl) ?_
          refine AXd.go rfl (d_move rfl) ?_
          refine AXd.split 140 rfl (fun hg140 => ?_) (fun hg140 => ?_)
          · skip
            refine AXd.no rfl rfl rfl (beqTF hg140) ?_
            refine AXd.no rfl rfl rfl (beqTF hg140) ?_
            refine AXd.no rfl rfl rfl (beqTF hg140) ?_
            refine AXd.no rfl rfl rfl (beqTF hg140) ?_
            refine AXd.no rfl rfl rfl (beqTF hg140) ?_
            refine AXd.go rfl (d_pickT rfl hg140 rfl rfl) ?_
            refine AXd.go rfl (d_move rfl) ?_
            refine AXd.no rfl rfl rfl (beqTF rfl) ?_
            refine AXd.no rfl rfl rfl (beqTF rfl) ?_
            refine AXd.no rfl rfl rfl (beqTF rfl) ?_
            refine AXd.go rfl (d_pickT rfl rfl rfl rfl) ?_
            refine AXd.go rfl (d_move rfl) ?_
            refine AXd.no rfl rfl rfl (beqTF rfl) ?_
            refine AXd.no rfl rfl rfl (beqTF rfl) ?_
            refine AXd.no rfl rfl rfl (beqTF rfl) ?_
            refine AXd.go rfl (d_pickT rfl rfl rfl rfl) ?_
            refine AXd.go rfl (d_move rfl) ?_
            refine AXd.no rfl rfl rfl (beqTF rfl) ?_
            refine AXd.no rfl rfl rfl (beqTF rfl) ?_
            refine AXd.no rfl rfl rfl (beqTF rfl) ?_
            refine AXd.go rfl (d_pickT rfl rfl rfl rfl) ?_
            refine AXd.go rfl (d_move rfl) ?_
            refine AXd.no rfl rfl rfl (beqTF rfl) ?_
            refine AXd.no rfl rfl rfl (beqTF rfl) ?_
            refine AXd.no rfl rfl rfl (beqTF rfl) ?_
            refine AXd.go rfl (d_pickT rfl rfl rfl rfl) ?_
            refine AXd.nil (ex_and2 rfl rfl ?_)
            refine AX.condT rfl rfl ?_
            refine AX.seq ?_
            refine AX.region ?_
            refine AXo.go (f := 0) hev (d_assign rfl) ?_
            refine AXo.nil ?_
            refine AX.ret ?_
            refine AX.thenRet ?_
            refine AX.outRet ?_
            refine AX.outRet ?_
            refine AX.leave (e := .ret) (by simp) ?_
            refine AX.outRet ?_
            refine AX.thenRet ?_
            exact ⟨false, .inl rfl⟩
          · skip
            refine AXd.yes rfl rfl rfl (beqFF hg140) rfl (d_fieldAddr rfl fo162_1 rfl) ?_
            refine AXd.yes rfl rfl rfl (beqFF hg140) rfl ((by first | exact d_loadT rfl (ld ty5 rfl rfl) | exact d_load rfl (ld ty5 rfl rfl))) ?_
            refine AXd.yes rfl rfl rfl (beqFF hg140) rfl (d_move rfl) ?_
            refine AXd.yes rfl rfl rfl (beqFF hg140) rfl (d_byte (m := 1) rfl rfl ty9 rfl (List.getElem?_eq_getElem (by omega))) ?_
            refine AXd.yes rfl rfl rfl (beqFF hg140) rfl (d_ltI rfl rfl) ?_
            refine AXd.go rfl (d_pickF rfl hg140 rfl rfl) ?_
            refine AXd.go rfl (d_move rfl) ?_
            refine AXd.split 147 rfl (fun hg147 => ?_) (fun hg147 => ?_)
            · skip
              refine AXd.no rfl rfl rfl (beqTF hg147) ?_
              refine AXd.no rfl rfl rfl (beqTF hg147) ?_
              refine AXd.no rfl rfl rfl (beqTF hg147) ?_
              refine AXd.go rfl (d_pickT rfl hg147 rfl rfl) ?_
              refine AXd.go rfl (d_move rfl) ?_
              refine AXd.no rfl rfl rfl (beqTF rfl) ?_
              refine AXd.no rfl rfl rfl (beqTF rfl) ?_
              refine AXd.no rfl rfl rfl (beqTF rfl) ?_
              refine AXd.go rfl (d_pickT rfl rfl rfl rfl) ?_
              refine AXd.go rfl (d_move rfl) ?_
              refine AXd.no rfl rfl rfl (beqTF rfl) ?_
              refine AXd.no rfl rfl rfl (beqTF rfl) ?_
              refine AXd.no rfl rfl rfl (beqTF rfl) ?_
              refine AXd.go rfl (d_pickT rfl rfl rfl rfl) ?_
              refine AXd.go rfl (d_move rfl) ?_
              refine AXd.no rfl rfl rfl (beqTF rfl) ?_
              refine AXd.no rfl rfl rfl (beqTF rfl) ?_
              refine AXd.no rfl rfl rfl (beqTF rfl) ?_
              refine AXd.go rfl (d_pickT rfl rfl rfl rfl) ?_
              refine AXd.nil (ex_and2 rfl rfl ?_)
              refine AX.condT rfl rfl ?_
              refine AX.seq ?_
              refine AX.region ?_
              refine AXo.go (f := 0) hev (d_assign rfl) ?_
              refine AXo.nil ?_
              refine AX.ret ?_
              refine AX.thenRet ?_
              refine AX.outRet ?_
              refine AX.outRet ?_
              refine AX.leave (e := .ret) (by simp) ?_
              refine AX.outRet ?_
              refine AX.thenRet ?_
              exact ⟨false, .inl rfl⟩
            · skip
              refine AXd.yes rfl rfl rfl (beqFF hg147) rfl (d_move rfl) ?_
              refine AXd.yes rfl rfl rfl (beqFF hg147) rfl (d_byte (m := 2) rfl rfl ty9 rfl (List.getElem?_eq_getElem (by omega))) ?_
              refine AXd.yes rfl rfl rfl (beqFF hg147) rfl (d_ltI rfl rfl) ?_
              refine AXd.go rfl (d_pickF rfl hg147 rfl rfl) ?_
              refine AXd.go rfl (d_move rfl) ?_
              refine AXd.split 152 rfl (fun hg152 => ?_) (fun hg152 => ?_)
              · skip
                refine AXd.no rfl rfl rfl (beqTF hg152) ?_
                refine AXd.no rfl rfl rfl (beqTF hg152) ?_
                refine AXd.no rfl rfl rfl (beqTF hg152) ?_
                refine AXd.go rfl (d_pickT rfl hg152 rfl rfl) ?_
                refine AXd.go rfl (d_move rfl) ?_
                refine AXd.no rfl rfl rfl (beqTF rfl) ?_
                refine AXd.no rfl rfl rfl (beqTF rfl) ?_
                refine AXd.no rfl rfl rfl (beqTF rfl) ?_
                refine AXd.go rfl (d_pickT rfl rfl rfl rfl) ?_
                refine AXd.go rfl (d_move rfl) ?_
                refine AXd.no rfl rfl rfl (beqTF rfl) ?_
                refine AXd.no rfl rfl rfl (beqTF rfl) ?_
                refine AXd.no rfl rfl rfl (beqTF rfl) ?_
                refine AXd.go rfl (d_pickT rfl rfl rfl rfl) ?_
                refine AXd.nil (ex_and2 rfl rfl ?_)
                refine AX.condT rfl rfl ?_
                refine AX.seq ?_
                refine AX.region ?_
                refine AXo.go (f := 0) hev (d_assign rfl) ?_
                refine AXo.nil ?_
                refine AX.ret ?_
                refine AX.thenRet ?_
                refine AX.outRet ?_
                refine AX.outRet ?_
                refine AX.leave (e := .ret) (by simp) ?_
                refine AX.outRet ?_
                refine AX.thenRet ?_
                exact ⟨false, .inl rfl⟩
              · skip
                refine AXd.yes rfl rfl rfl (beqFF hg152) rfl (d_move rfl) ?_
                refine AXd.yes rfl rfl rfl (beqFF hg152) rfl (d_byte (m := 2) rfl rfl ty9 rfl (List.getElem?_eq_getElem (by omega))) ?_
                refine AXd.yes rfl rfl rfl (beqFF hg152) rfl (d_ltI rfl rfl) ?_
                refine AXd.go rfl (d_pickF rfl hg152 rfl rfl) ?_
                refine AXd.go rfl (d_move rfl) ?_
                refine AXd.split 157 rfl (fun hg157 => ?_) (fun hg157 => ?_)
                · skip
                  refine AXd.no rfl rfl rfl (beqTF hg157) ?_
                  refine AXd.no rfl rfl rfl (beqTF hg157) ?_
                  refine AXd.no rfl rfl rfl (beqTF hg157) ?_
                  refine AXd.go rfl (d_pickT rfl hg157 rfl rfl) ?_
                  refine AXd.go rfl (d_move rfl) ?_
                  refine AXd.no rfl rfl rfl (beqTF rfl) ?_
                  refine AXd.no rfl rfl rfl (beqTF rfl) ?_
                  refine AXd.no rfl rfl rfl (beqTF rfl) ?_
                  refine AXd.go rfl (d_pickT rfl rfl rfl rfl) ?_
                  refine AXd.nil (ex_and2 rfl rfl ?_)
                  refine AX.condT rfl rfl ?_
                  refine AX.seq ?_
                  refine AX.region ?_
                  refine AXo.go (f := 0) hev (d_assign rfl) ?_
                  refine AXo.nil ?_
                  refine AX.ret ?_
                  refine AX.thenRet ?_
                  refine AX.outRet ?_
                  refine AX.outRet ?_
                  refine AX.leave (e := .ret) (by simp) ?_
                  refine AX.outRet ?_
                  refine AX.thenRet ?_
                  exact ⟨false, .inl rfl⟩
                · skip
                  refine AXd.yes rfl rfl rfl (beqFF hg157) rfl (d_move rfl) ?_
                  refine AXd.yes rfl rfl rfl (beqFF hg157) rfl (d_byte (m := 3) rfl rfl ty9 rfl (List.getElem?_eq_getElem (by omega))) ?_
                  refine AXd.yes rfl rfl rfl (beqFF hg157) rfl (d_ltI rfl rfl) ?_
                  refine AXd.go rfl (d_pickF rfl hg157 rfl rfl) ?_
                  refine AXd.go rfl (d_move rfl) ?_
                  refine AXd.split 162 rfl (fun hg162 => ?_) (fun hg162 => ?_)
                  · skip
                    refine AXd.no rfl rfl rfl (beqTF hg162) ?_
                    refine AXd.no rfl rfl rfl (beqTF hg162) ?_
                    refine AXd.no rfl rfl rfl (beqTF hg162) ?_
                    refine AXd.go rfl (d_pickT rfl hg162 rfl rfl) ?_
                    refine AXd.nil (ex_and2 rfl rfl ?_)
                    refine AX.condT rfl rfl ?_
                    refine AX.seq ?_
                    refine AX.region ?_
                    refine AXo.go (f := 0) hev (d_assign rfl) ?_
                    refine AXo.nil ?_
                    refine AX.ret ?_
                    refine AX.thenRet ?_
                    refine AX.outRet ?_
                    refine AX.outRet ?_
                    refine AX.leave (e := .ret) (by simp) ?_
                    refine AX.outRet ?_
                    refine AX.thenRet ?_
                    exact ⟨false, .inl rfl⟩
                  · skip
                    refine AXd.yes rfl rfl rfl (beqFF hg162) rfl (d_move rfl) ?_
                    refine AXd.yes rfl rfl rfl (beqFF hg162) rfl (d_byte (m := 3) rfl rfl ty9 rfl (List.getElem?_eq_getElem (by omega))) ?_
                    refine AXd.yes rfl rfl rfl (beqFF hg162) rfl (d_ltI rfl rfl) ?_
                    refine AXd.go rfl (d_pickF rfl hg162 rfl rfl) ?_
                    refine AXd.nil (ex_and2 rfl rfl ?_)
                    refine AX.cond rfl (fun h166 => ?_) (fun h166 => ?_)
                    · skip
                      refine AX.seq ?_
                      refine AX.region ?_
                      refine AXo.go (f := 0) hev (d_assign rfl) ?_
                      refine AXo.nil ?_
                      refine AX.ret ?_
                      refine AX.thenRet ?_
                      refine AX.outRet ?_
                      refine AX.outRet ?_
                      refine AX.leave (e := .ret) (by simp) ?_
                      refine AX.outRet ?_
                      refine AX.thenRet ?_
                      exact ⟨false, .inl rfl⟩
                    · skip
                      refine AX.skip ?_
                      refine AX.region ?_
                      refine AXo.go (f := 0) hev (d_move rfl) ?_
                      refine AXo.go (f := 0) hev ((show Does _ _ _ _ _ _ _ _ _ (.t (.str ((b :: s').drop 4))) _ from d_subS (s := (b :: s')) (m := 4) rfl rfl ty9 rfl (by omega))) ?_
                      refine AXo.go (f := 0) hev (d_assign rfl) ?_
                      refine AXo.nil ?_
                      refine AX.outNormal ?_
                      refine AX.outNormal ?_
                      exact ⟨.inl ⟨((b :: s').drop 4), trivial, by show (((b :: s').drop 4)).length < _; first | (simp; done) | (simp only [List.length_drop, List.length_cons]; omega) | (simp only [List.length_drop, List.length_cons] at *; omega)⟩, rfl, (Re.sq [] ⟨rfl, trivial⟩ trivial (by decide) rfl rfl (by decide))⟩
      · -- 68
        refine AX.region ?_
        refine AXo.go (f := 0) hev (d_move rfl) ?_
        refine AXo.go (f := 0) hev (show Does _ _ _ _ _ _ _ _ _ (.t (.int .u8 4)) _ from d_bin rfl rfl (by kernel_rfl)) ?_
        refine AXo.go (f := 0) hev (show Does _ _ _ _ _ _ _ _ _ (.t (.int .i64 4)) _ from d_conv rfl (fun _ _ _ => by kernel_rfl)) ?_
        refine AXo.go (f := 0) hev (d_assign rfl) ?_
        refine AXo.nil ?_
        refine AX.seq ?_
        refine AX.region ?_
        refine AXo.go (f := 0) hev (d_move rfl) ?_
        refine AXo.go (f := 0) hev (show Does _ _ _ _ _ _ _ _ _ (.t (.int .u8 4)) _ from d_bin rfl rfl (by kernel_rfl)) ?_
        refine AXo.go (f := 0) hev (d_indexTab (m := 4) rfl rfl ty163 rfl ty162 (by decide)) ?_
        refine AXo.go (f := 0) hev (show Does _ _ _ _ _ _ _ _ _ (.t (.agg [.int .u8 128, .int .u8 143])) _ from d_loadT rfl (by kernel_rfl)) ?_
        refine AXo.go (f := 0) hev (d_alloc ty162 rfl rfl) ?_
        refine AXo.go0 (f := 0) hev (d_store rfl rfl (stt ty162 rfl rfl)) ?_
        refine AXo.nil ?_
        refine AX.seq ?_
        refine AX.region ?_
        refine AXo.go (f := 0) hev (d_move rfl) ?_
        refine AXo.nil ?_
        refine AX.block ?_
        refine AX.seq ?_
        refine AX.region ?_
        refine AXo.go (f := 0) hev (d_eqI rfl rfl) ?_
        refine AXo.go (f := 0) hev (d_assign rfl) ?_
        refine AXo.nil ?_
        refine AX.condF rfl (by decide) ?_
        refine AX.seq ?_
        refine AX.region ?_
        refine AXo.go (f := 0) hev (d_eqI rfl rfl) ?_
        refine AXo.go (f := 0) hev (d_assign rfl) ?_
        refine AXo.nil ?_
        refine AX.condF rfl (by decide) ?_
        refine AX.seq ?_
        refine AX.region ?_
        refine AXo.go (f := 0) hev (d_eqI rfl rfl) ?_
        refine AXo.go (f := 0) hev (d_assign rfl) ?_
        refine AXo.nil ?_
        refine AX.condT rfl (by decide) ?_
        refine AX.seq ?_
        refine AX.seq ?_
        refine AX.draw (f := 0) orders hev ?_
        refine AXd.go rfl (d_move rfl) ?_
        refine AXd.go rfl (d_lenS rfl ty9 rfl) ?_
        refine AXd.go rfl (d_ltI rfl rfl) ?_
        refine AXd.go rfl (d_move rfl) ?_
        refine AXd.split 133 rfl (fun hg133 => ?_) (fun hg133 => ?_)
        · skip
          refine AXd.no rfl rfl rfl (beqTF hg133) ?_
          refine AXd.no rfl rfl rfl (beqTF hg133) ?_
          refine AXd.no rfl rfl rfl (beqTF hg133) ?_
          refine AXd.no rfl rfl rfl (beqTF hg133) ?_
          refine AXd.no rfl rfl rfl (beqTF hg133) ?_
          refine AXd.go rfl (d_pickT rfl hg133 rfl rfl) ?_
          refine AXd.go rfl (d_move rfl) ?_
          refine AXd.no rfl rfl rfl (beqTF rfl) ?_
          refine AXd.no rfl rfl rfl (beqTF rfl) ?_
          refine AXd.no rfl rfl rfl (beqTF rfl) ?_
          refine AXd.no rfl rfl rfl (beqTF rfl) ?_
          refine AXd.no rfl rfl rfl (beqTF rfl) ?_
          refine AXd.go rfl (d_pickT rfl rfl rfl rfl) ?_
          refine AXd.go rfl (d_move rfl) ?_
          refine AXd.no rfl rfl rfl (beqTF rfl) ?_
          refine AXd.no rfl rfl rfl (beqTF rfl) ?_
          refine AXd.no rfl rfl rfl (beqTF rfl) ?_
          refine AXd.go rfl (d_pickT rfl rfl rfl rfl) ?_
          refine AXd.go rfl (d_move rfl) ?_
          refine AXd.no rfl rfl rfl (beqTF rfl) ?_
          refine AXd.no rfl rfl rfl (beqTF rfl) ?_
          refine AXd.no rfl rfl rfl (beqTF rfl) ?_
          refine AXd.go rfl (d_pickT rfl rfl rfl rfl) ?_
          refine AXd.go rfl (d_move rfl) ?_
          refine AXd.no rfl rfl rfl (beqTF rfl) ?_
          refine AXd.no rfl rfl rfl (beqTF rfl) ?_
          refine AXd.no rfl rfl rfl (beqTF rfl) ?_
          refine AXd.go rfl (d_pickT rfl rfl rfl rfl) ?_
          refine AXd.go rfl (d_move rfl) ?_
          refine AXd.no rfl rfl rfl (beqTF rfl) ?_
          refine AXd.no rfl rfl rfl (beqTF rfl) ?_
          refine AXd.no rfl rfl rfl (beqTF rfl) ?_
          refine AXd.go rfl (d_pickT rfl rfl rfl rfl) ?_
          refine AXd.nil (ex_and2 rfl rfl ?_)
          refine AX.condT rfl rfl ?_
          refine AX.seq ?_
          refine AX.region ?_
          refine AXo.go (f := 0) hev (d_assign rfl) ?_
          refine AXo.nil ?_
          refine AX.ret ?_
          refine AX.thenRet ?_
          refine AX.outRet ?_
          refine AX.outRet ?_
          refine AX.leave (e := .ret) (by simp) ?_
          refine AX.outRet ?_
          refine AX.thenRet ?_
          exact ⟨false, .inl rfl⟩
        · have hl4 : 4 ≤ (b :: s').length := by have := of_decide_eq_false hg133; omega
          refine AXd.yes rfl rfl rfl (beqFF hg133) rfl (d_move rfl) ?_
          refine AXd.yes rfl rfl rfl (beqFF hg133) rfl (d_byte (m := 1) rfl rfl ty9 rfl (List.getElem?_eq_getElem (by omega))) ?_
          refine AXd.yes rfl rfl rfl (beqFF hg133) rfl (d_fieldAddr rfl fo162_0 rfl) ?_
          refine AXd.yes rfl rfl rfl (beqFF hg133) rfl ((by first | exact d_loadT rfl (ld ty5 rfl rfl) | exact d_load rfl (ld ty5 rfl rfl))) ?_
          refine AXd.yes rfl rfl rfl (beqFF hg133) rfl (d_ltI rfl rfl) ?_
          refine AXd.go rfl (d_pickF rfl hg133 rfl rfl) ?_
          refine AXd.go rfl (d_move rfl) ?_
          refine AXd.split 140 rfl (fun hg140 => ?_) (fun hg140 => ?_)
          · skip
            refine AXd.no rfl rfl rfl (beqTF hg140) ?_
            refine AXd.no rfl rfl rfl (beqTF hg140) ?_
            refine AXd.no rfl rfl rfl (beqTF hg140) ?_
            refine AXd.no rfl rfl rfl (beqTF hg140) ?_
            refine AXd.no rfl rfl rfl (beqTF hg140) ?_
            refine AXd.go rfl (d_pickT rfl hg140 rfl rfl) ?_
            refine AXd.go rfl (d_move rfl) ?_
            refine AXd.no rfl rfl rfl (beqTF rfl) ?_
            refine AXd.no rfl rfl rfl (beqTF rfl) ?_
            refine AXd.no rfl rfl rfl (beqTF rfl) ?_
            refine AXd.go rfl (d_pickT rfl rfl rfl rfl) ?_
            refine AXd.go rfl (d_move rfl) ?_
            refine AXd.no rfl rfl rfl (beqTF rfl) ?_
            refine AXd.no rfl rfl rfl (beqTF rfl) ?_
            refine AXd.no rfl rfl rfl (beqTF rfl) ?_
            refine AXd.go rfl (d_pickT rfl rfl rfl rfl) ?_
            refine AXd.go rfl (d_move rfl) ?_
            refine AXd.no rfl rfl rfl (beqTF rfl) ?_
            refine AXd.no rfl rfl rfl (beqTF rfl) ?_
            refine AXd.no rfl rfl rfl (beqTF rfl) ?_
            refine AXd.go rfl (d_pickT rfl rfl rfl rfl) ?_
            refine AXd.go rfl (d_move rfl) ?_
            refine AXd.no rfl rfl rfl (beqTF rfl) ?_
            refine AXd.no rfl rfl rfl (beqTF rfl) ?_
            refine AXd.no rfl rfl rfl (beqTF rfl) ?_
            refine AXd.go rfl (d_pickT rfl rfl rfl rfl) ?_
            refine AXd.nil (ex_and2 rfl rfl ?_)
            refine AX.condT rfl rfl ?_
            refine AX.seq ?_
            refine AX.region ?_
            refine AXo.go (f := 0) hev (d_assign rfl) ?_
            refine AXo.nil ?_
            refine AX.ret ?_
            refine AX.thenRet ?_
            refine AX.outRet ?_
            refine AX.outRet ?_
            refine AX.leave (e := .ret) (by simp) ?_
            refine AX.outRet ?_
            refine AX.thenRet ?_
            exact ⟨false, .inl rfl⟩
          · skip
            refine AXd.yes rfl rfl rfl (beqFF hg140) rfl (d_fieldAddr rfl fo162_1 rfl) ?_
            refine AXd.yes rfl rfl rfl (beqFF hg140) rfl ((by first | exact d_loadT rfl (ld ty5 rfl rfl) | exact d_load rfl (ld ty5 rfl rfl))) ?_
            refine AXd.yes rfl rfl rfl (beqFF hg140) rfl (d_move rfl) ?_
            refine AXd.yes rfl rfl rfl (beqFF hg140) rfl (d_byte (m := 1) rfl rfl ty9 rfl (List.getElem?_eq_getElem (by omega))) ?_
            refine AXd.yes rfl rfl rfl (beqFF hg140) rfl (d_ltI rfl rfl) ?_
            refine AXd.go rfl (d_pickF rfl hg140 rfl rfl) ?_
            refine AXd.go rfl (d_move rfl) ?_
            refine AXd.split 147 rfl (fun hg147 => ?_) (fun hg147 => ?_)
            · skip
              refine AXd.no rfl rfl rfl (beqTF hg147) ?_
              refine AXd.no rfl rfl rfl (beqTF hg147) ?_
              refine AXd.no rfl rfl rfl (beqTF hg147) ?_
              refine AXd.go rfl (d_pickT rfl hg147 rfl rfl) ?_
              refine AXd.go rfl (d_move rfl) ?_
              refine AXd.no rfl rfl rfl (beqTF rfl) ?_
              refine AXd.no rfl rfl rfl (beqTF rfl) ?_
              refine AXd.no rfl rfl rfl (beqTF rfl) ?_
              refine AXd.go rfl (d_pickT rfl rfl rfl rfl) ?_
              refine AXd.go rfl (d_move rfl) ?_
              refine AXd.no rfl rfl rfl (beqTF rfl) ?_
              refine AXd.no rfl rfl rfl (beqTF rfl) ?_
              refine AXd.no rfl rfl rfl (beqTF rfl) ?_
              refine AXd.go rfl (d_pickT rfl rfl rfl rfl) ?_
              refine AXd.go rfl (d_move rfl) ?_
              refine AXd.no rfl rfl rfl (beqTF rfl) ?_
              refine AXd.no rfl rfl rfl (beqTF rfl) ?_
              refine AXd.no rfl rfl rfl (beqTF rfl) ?_
              refine AXd.go rfl (d_pickT rfl rfl rfl rfl) ?_
              refine AXd.nil (ex_and2 rfl rfl ?_)
              refine AX.condT rfl rfl ?_
              refine AX.seq ?_
              refine AX.region ?_
              refine AXo.go (f := 0) hev (d_assign rfl) ?_
              refine AXo.nil ?_
              refine AX.ret ?_
              refine AX.thenRet ?_
              refine AX.outRet ?_
              refine AX.outRet ?_
              refine AX.leave (e := .ret) (by simp) ?_
              refine AX.outRet ?_
              refine AX.thenRet ?_
              exact ⟨false, .inl rfl⟩
            · skip
              refine AXd.yes rfl rfl rfl (beqFF hg147) rfl (d_move rfl) ?_
              refine AXd.yes rfl rfl rfl (beqFF hg147) rfl (d_byte (m := 2) rfl rfl ty9 rfl (List.getElem?_eq_getElem (by omega))) ?_
              refine AXd.yes rfl rfl rfl (beqFF hg147) rfl (d_ltI rfl rfl) ?_
              refine AXd.go rfl (d_pickF rfl hg147 rfl rfl) ?_
              refine AXd.go rfl (d_move rfl) ?_
              refine AXd.split 152 rfl (fun hg152 => ?_) (fun hg152 => ?_)
              · skip
                refine AXd.no rfl rfl rfl (beqTF hg152) ?_
                refine AXd.no rfl rfl rfl (beqTF hg152) ?_
                refine AXd.no rfl rfl rfl (beqTF hg152) ?_
                refine AXd.go rfl (d_pickT rfl hg152 rfl rfl) ?_
                refine AXd.go rfl (d_move rfl) ?_
                refine AXd.no rfl rfl rfl (beqTF rfl) ?_
                refine AXd.no rfl rfl rfl (beqTF rfl) ?_
                refine AXd.no rfl rfl rfl (beqTF rfl) ?_
                refine AXd.go rfl (d_pickT rfl rfl rfl rfl) ?_
                refine AXd.go rfl (d_move rfl) ?_
                refine AXd.no rfl rfl rfl (beqTF rfl) ?_
                refine AXd.no rfl rfl rfl (beqTF rfl) ?_
                refine AXd.no rfl rfl rfl (beqTF rfl) ?_
                refine AXd.go rfl (d_pickT rfl rfl rfl rfl) ?_
                refine AXd.nil (ex_and2 rfl rfl ?_)
                refine AX.condT rfl rfl ?_
                refine AX.seq ?_
                refine AX.region ?_
                refine AXo.go (f := 0) hev (d_assign rfl) ?_
                refine AXo.nil ?_
                refine AX.ret ?_
                refine AX.thenRet ?_
                refine AX.outRet ?_
                refine AX.outRet ?_
                refine AX.leave (e := .ret) (by simp) ?_
                refine AX.outRet ?_
                refine AX.thenRet ?_
                exact ⟨false, .inl rfl⟩
              · skip
                refine AXd.yes rfl rfl rfl (beqFF hg152) rfl (d_move rfl) ?_
                refine AXd.yes rfl rfl rfl (beqFF hg152) rfl (d_byte (m := 2) rfl rfl ty9 rfl (List.getElem?_eq_getElem (by omega))) ?_
                refine AXd.yes rfl rfl rfl (beqFF hg152) rfl (d_ltI rfl rfl) ?_
                refine AXd.go rfl (d_pickF rfl hg152 rfl rfl) ?_
                refine AXd.go rfl (d_move rfl) ?_
                refine AXd.split 157 rfl (fun hg157 => ?_) (fun hg157 => ?_)
                · skip
                  refine AXd.no rfl rfl rfl (beqTF hg157) ?_
                  refine AXd.no rfl rfl rfl (beqTF hg157) ?_
                  refine AXd.no rfl rfl rfl (beqTF hg157) ?_
                  refine AXd.go rfl (d_pickT rfl hg157 rfl rfl) ?_
                  refine AXd.go rfl (d_move rfl) ?_
                  refine AXd.no rfl rfl rfl (beqTF rfl) ?_
                  refine AXd.no rfl rfl rfl (beqTF rfl) ?_
                  refine AXd.no rfl rfl rfl (beqTF rfl) ?_
                  refine AXd.go rfl (d_pickT rfl rfl rfl rfl) ?_
                  refine AXd.nil (ex_and2 rfl rfl ?_)
                  refine AX.condT rfl rfl ?_
                  refine AX.seq ?_
                  refine AX.region ?_
                  refine AXo.go (f := 0) hev (d_assign rfl) ?_
                  refine AXo.nil ?_
                  refine AX.ret ?_
                  refine AX.thenRet ?_
                  refine AX.outRet ?_
                  refine AX.outRet ?_
                  refine AX.leave (e := .ret) (by simp) ?_
                  refine AX.outRet ?_
                  refine AX.thenRet ?_
                  exact ⟨false, .inl rfl⟩
                · skip
                  refine AXd.yes rfl rfl rfl (beqFF hg157) rfl (d_move rfl) ?_
                  refine AXd.yes rfl rfl rfl (beqFF hg157) rfl (d_byte (m := 3) rfl rfl ty9 rfl (List.getElem?_eq_getElem (by omega))) ?_
                  refine AXd.yes rfl rfl rfl (beqFF hg157) rfl (d_ltI rfl rfl) ?_
                  refine AXd.go rfl (d_pickF rfl hg157 rfl rfl) ?_
                  refine AXd.go rfl (d_move rfl) ?_
                  refine AXd.split 162 rfl (fun hg162 => ?_) (fun hg162 => ?_)
                  · skip
                    refine AXd.no rfl rfl rfl (beqTF hg162) ?_
                    refine AXd.no rfl rfl rfl (beqTF hg162) ?_
                    refine AXd.no rfl rfl rfl (beqTF hg162) ?_
                    refine AXd.go rfl (d_pickT rfl hg162 rfl rfl) ?_
                    refine AXd.nil (ex_and2 rfl rfl ?_)
                    refine AX.condT rfl rfl ?_
                    refine AX.seq ?_
                    refine AX.region ?_
                    refine AXo.go (f := 0) hev (d_assign rfl) ?_
                    refine AXo.nil ?_
                    refine AX.ret ?_
                    refine AX.thenRet ?_
                    refine AX.outRet ?_
                    refine AX.outRet ?_
                    refine AX.leave (e := .ret) (by simp) ?_
                    refine AX.outRet ?_
                    refine AX.thenRet ?_
                    exact ⟨false, .inl rfl⟩
                  · skip
                    refine AXd.yes rfl rfl rfl (beqFF hg162) rfl (d_move rfl) ?_
                    refine AXd.yes rfl rfl rfl (beqFF hg162) rfl (d_byte (m := 3) rfl rfl ty9 rfl (List.getElem?_eq_getElem (by omega))) ?_
                    refine AXd.yes rfl rfl rfl (beqFF hg162) rfl (d_ltI rfl rfl) ?_
                    refine AXd.go rfl (d_pickF rfl hg162 rfl rfl) ?_
                    refine AXd.nil (ex_and2 rfl rfl ?_)
                    refine AX.cond rfl (fun h166 => ?_) (fun h166 => ?_)
                    · skip
                      refine AX.seq ?_
                      refine AX.region ?_
                      refine AXo.go (f := 0) hev (d_assign rfl) ?_
                      refine AXo.nil ?_
                      refine AX.ret ?_
                      refine AX.thenRet ?_
                      refine AX.outRet ?_
                      refine AX.outRet ?_
                      refine AX.leave (e := .ret) (by simp) ?_
                      refine AX.outRet ?_
                      refine AX.thenRet ?_
                      exact ⟨false, .inl rfl⟩
                    · skip
                      refine AX.skip ?_
                      refine AX.region ?_
                      refine AXo.go (f := 0) hev (d_move rfl) ?_
                      refine AXo.go (f := 0) hev ((show Does _ _ _ _ _ _ _ _ _ (.t (.str ((b :: s').drop 4))) _ from d_subS (s := (b :: s')) (m := 4) rfl rfl ty9 rfl (by omega))) ?_
                      refine AXo.go (f := 0) hev (d_assign rfl) ?_
                      refine AXo.nil ?_
                      refine AX.outNormal ?_
                      refine AX.outNormal ?_
                      exact ⟨.inl ⟨((b :: s').drop 4), trivial, by show (((b :: s').drop 4)).length < _; first | (simp; done) | (simp only [List.length_drop, List.length_cons]; omega) | (simp only [List.length_drop, List.length_cons] at *; omega)⟩, rfl, (Re.sq [] ⟨rfl, trivial⟩ trivial (by decide) rfl rfl (by decide))⟩
  · skip
    refine AX.exit ?_
    refine AX.thenExit ?_
    refine AX.leave (e := .exit 0) (by simp) ?_
    refine AX.outHere ?_
    refine AX.seq ?_
    refine AX.region ?_
    refine AXo.go (f := 0) hev (d_assign rfl) ?_
    refine AXo.nil ?_
    refine AX.ret ?_
    exact ⟨true, .inl rfl⟩
end
end Go.Proofs.YtbahblehihbpkaaGreatDoor.w
