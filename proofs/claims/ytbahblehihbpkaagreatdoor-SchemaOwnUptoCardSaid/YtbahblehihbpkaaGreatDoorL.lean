/- More of it. -/
import Derived.Test.YtbahblehihbpkaaGreatDoorK
namespace Go.Proofs.YtbahblehihbpkaaGreatDoor.w
open Go Go.Abs
set_option linter.unusedVariables false
set_option maxRecDepth 100000
set_option maxHeartbeats 1000000
noncomputable section


theorem law_000 {m : Int} (ev : CallF) (hev : CallOk (cf m) ev) (ts cs p1 r1 : List Tree) (nm an bn : List UInt8) (ae be : Int) (hlive : ev 5 [] [] = some (.ret (.t (.bool true)) [] [])) (hcopy : ev 7 [.t (.agg [.sl ts, .sl cs])] [] = some (.ret (.t (.agg [.sl ts, .sl cs])) [] []))
    (htype : ev 8 [.t (.agg [.sl ts, .sl cs]), .t (.str nm)] [] = some (.ret (.t (.tup [.agg [.str an, .sl [], .sl []], .int .i64 ae])) [] [])) (haction : ev 9 [.t (.agg [.sl ts, .sl cs]), .t (.str nm)] [] = some (.ret (.t (.tup [.agg [.str bn, .sl p1, .sl r1, .sl []], .int .i64 be])) [] [])) (hsame : ev 10 [.t (.agg [.sl ts, .sl cs]), .t (.agg [.sl ts, .sl cs])] [] = some (.ret (.t (.bool true)) [] [])) :
    CallRel (cf m) 4 [.t (.agg [.sl ts, .sl cs]), .t (.str nm)] [] (.ret (.t (.bool true)) [] []) := by
  refine fn_start2 67 2 Tryz.func4 rfl (by decide) rfl rfl (by decide) ?_
  refine AW.seq ?_
  refine AW.region ?_
  refine AWo.go (f := 0) hev (d_box rfl rfl) ?_
  refine AWo.go (f := 0) hev (d_assignT rfl) ?_
  refine AWo.nil ?_
  refine AW.seq ?_
  refine AW.seq ?_
  refine AW.region ?_
  refine AWo.go (f := 0) hev (d_callT (ts := []) rfl hlive) ?_
  refine AWo.go (f := 0) hev (d_not rfl) ?_
  refine AWo.nil ?_
  refine AW.cond rfl (fun h => absurd h (by decide)) (fun h => ?_)
  refine AW.skip ?_
  refine AW.seq ?_
  refine AW.region ?_
  refine AWo.go (f := 0) hev (by first | exact d_loadT rfl (ld ty36 rfl rfl) | exact d_load rfl (ld ty36 rfl rfl)) ?_
  refine AWo.go (f := 0) hev (d_callT (rh1 rfl) hcopy) ?_
  refine AWo.go (f := 0) hev (d_alloc ty36 rfl rfl) ?_
  refine AWo.go0 (f := 0) hev (d_store rfl rfl (stt ty36 rfl rfl)) ?_
  refine AWo.nil ?_
  refine AW.seq ?_
  refine AW.region ?_
  refine AWo.go (f := 0) hev (by first | exact d_loadT rfl (ld ty36 rfl rfl) | exact d_load rfl (ld ty36 rfl rfl)) ?_
  refine AWo.go (f := 0) hev (d_moveT rfl) ?_
  refine AWo.go (f := 0) hev (d_callT (rh2 rfl rfl) htype) ?_
  refine AWo.go (f := 0) hev (by first | exact d_moveT rfl | exact d_move rfl) ?_
  refine AWo.go (f := 0) hev (by first | exact d_extractT rfl rfl | exact d_extract rfl rfl) ?_
  refine AWo.go (f := 0) hev (by first | exact d_extractT rfl rfl | exact d_extract rfl rfl) ?_
  refine AWo.go (f := 0) hev (d_alloc ty40 rfl rfl) ?_
  refine AWo.go0 (f := 0) hev (d_store rfl rfl (stt ty40 rfl rfl)) ?_
  refine AWo.go (f := 0) hev (d_assignT rfl) ?_
  refine AWo.nil ?_
  refine AW.seq ?_
  refine AW.region ?_
  refine AWo.go (f := 0) hev (by first | exact d_loadT rfl (ld ty36 rfl rfl) | exact d_load rfl (ld ty36 rfl rfl)) ?_
  refine AWo.go (f := 0) hev (d_moveT rfl) ?_
  refine AWo.go (f := 0) hev (d_callT (rh2 rfl rfl) haction) ?_
  refine AWo.go (f := 0) hev (by first | exact d_moveT rfl | exact d_move rfl) ?_
  refine AWo.go (f := 0) hev (by first | exact d_extractT rfl rfl | exact d_extract rfl rfl) ?_
  refine AWo.go (f := 0) hev (by first | exact d_extractT rfl rfl | exact d_extract rfl rfl) ?_
  refine AWo.go (f := 0) hev (d_alloc ty44 rfl rfl) ?_
  refine AWo.go0 (f := 0) hev (d_store rfl rfl (stt ty44 rfl rfl)) ?_
  refine AWo.go (f := 0) hev (d_assignT rfl) ?_
  refine AWo.nil ?_
  refine AW.seq ?_
  refine AW.seq ?_
  refine AW.re (st' := ⟨frm 67 [(2, .ptr (.loc [0]) 0), (5, .ptr (.loc [1]) 0), (6, .ptr (.loc [2]) 0), (8, .ptr (.loc [3]) 0)], [(.loc [0], .cells 36 [.t (.sl ts), .t (.sl cs)]), (.loc [1], .cells 36 [.t (.sl ts), .t (.sl cs)]), (.loc [2], .cells 40 [.any, .t (.sl []), .t (.sl [])]), (.loc [3], .cells 44 [.any, .any, .any, .t (.sl [])])], 4⟩) (Re.sq [.loc [0], .loc [6], .loc [14], .loc [23]] ⟨rfl, rfl, rfl, rfl, trivial⟩ ⟨⟨.loc [0], _, rfl, rfl, .inl rfl⟩, ⟨.loc [6], _, rfl, rfl, .inl rfl⟩, ⟨.loc [14], _, rfl, rfl, .inr ⟨_, _, _, rfl, rfl, ⟨.inl rfl, .inr rfl, .inr rfl, trivial⟩⟩⟩, ⟨.loc [23], _, rfl, rfl, .inr ⟨_, _, _, rfl, rfl, ⟨.inl rfl, .inl rfl, .inl rfl, .inr rfl, trivial⟩⟩⟩, trivial⟩ (by decide) rfl rfl (by decide)) ?_
  refine AW.region ?_
  refine AWo.go (f := 0) hev (d_fieldAddr rfl fo40_1 rfl) ?_
  refine AWo.go (f := 0) hev (by first | exact d_loadT rfl (ld ty38 rfl rfl) | exact d_load rfl (ld ty38 rfl rfl)) ?_
  refine AWo.go (f := 0) hev (by first | exact d_lenT rfl ty38 rfl | exact d_lenR rfl ty38 rfl | exact d_lenN rfl ty38 rfl | exact d_lenG rfl ty38 rfl) ?_
  refine AWo.go (f := 0) hev (d_moveT rfl) ?_
  refine AWo.nil ?_
  refine AW.block ?_
  refine AW.loop (α := Unit) (fun _ => _) (fun _ => True) (fun _ => 0) () (Re.refl _) trivial (fun _ _ => ?_)
  refine AW.seq ?_
  refine AW.region ?_
  refine AWo.go (f := 0) hev (d_ltI rfl rfl) ?_
  refine AWo.nil ?_
  refine AW.seq ?_
  refine AW.cond rfl (fun h => absurd h (by decide)) (fun h => ?_)
  refine AW.exit ?_
  refine AW.seq ?_
  refine AW.seq ?_
  refine AW.region ?_
  refine AWo.go (f := 0) hev (d_fieldAddr rfl fo40_2 rfl) ?_
  refine AWo.go (f := 0) hev (by first | exact d_loadT rfl (ld ty24 rfl rfl) | exact d_load rfl (ld ty24 rfl rfl)) ?_
  refine AWo.go (f := 0) hev (by first | exact d_lenT rfl ty24 rfl | exact d_lenR rfl ty24 rfl | exact d_lenN rfl ty24 rfl | exact d_lenG rfl ty24 rfl) ?_
  refine AWo.go (f := 0) hev (d_moveT rfl) ?_
  refine AWo.nil ?_
  refine AW.block ?_
  refine AW.loop (α := Unit) (fun _ => _) (fun _ => True) (fun _ => 0) () (Re.refl _) trivial (fun _ _ => ?_)
  refine AW.seq ?_
  refine AW.region ?_
  refine AWo.go (f := 0) hev (d_ltI rfl rfl) ?_
  refine AWo.nil ?_
  refine AW.seq ?_
  refine AW.cond rfl (fun h => absurd h (by decide)) (fun h => ?_)
  refine AW.exit ?_
  refine AW.seq ?_
  refine AW.seq ?_
  refine AW.region ?_
  refine AWo.go (f := 0) hev (d_fieldAddr rfl fo44_3 rfl) ?_
  refine AWo.go (f := 0) hev (by first | exact d_loadT rfl (ld ty24 rfl rfl) | exact d_load rfl (ld ty24 rfl rfl)) ?_
  refine AWo.go (f := 0) hev (by first | exact d_lenT rfl ty24 rfl | exact d_lenR rfl ty24 rfl | exact d_lenN rfl ty24 rfl | exact d_lenG rfl ty24 rfl) ?_
  refine AWo.go (f := 0) hev (d_moveT rfl) ?_
  refine AWo.nil ?_
  refine AW.block ?_
  refine AW.loop (α := Unit) (fun _ => _) (fun _ => True) (fun _ => 0) () (Re.refl _) trivial (fun _ _ => ?_)
  refine AW.seq ?_
  refine AW.region ?_
  refine AWo.go (f := 0) hev (d_ltI rfl rfl) ?_
  refine AWo.nil ?_
  refine AW.seq ?_
  refine AW.cond rfl (fun h => absurd h (by decide)) (fun h => ?_)
  refine AW.exit ?_
  refine AW.seq ?_
  refine AW.region ?_
  refine AWo.go (f := 0) hev (by first | exact d_loadT rfl (ld ty36 rfl rfl) | exact d_load rfl (ld ty36 rfl rfl)) ?_
  refine AWo.go (f := 0) hev (by first | exact d_loadT rfl (ld ty36 rfl rfl) | exact d_load rfl (ld ty36 rfl rfl)) ?_
  refine AWo.go (f := 0) hev (d_callT (rh2 rfl rfl) hsame) ?_
  refine AWo.go (f := 0) hev (d_assignT rfl) ?_
  refine AWo.nil ?_
  refine AW.ret ?_
  exact .inl (fin_data rfl rfl)

theorem law_001 {m : Int} (ev : CallF) (hev : CallOk (cf m) ev) (ts cs p1 r1 ds : List Tree) (nm an bn : List UInt8) (ae be : Int) (huC : Uni true 5 ds) (hlC : ds.length ≤ 4194304) (hlive : ev 5 [] [] = some (.ret (.t (.bool true)) [] [])) (hcopy : ev 7 [.t (.agg [.sl ts, .sl cs])] [] = some (.ret (.t (.agg [.sl ts, .sl cs])) [] []))
    (htype : ev 8 [.t (.agg [.sl ts, .sl cs]), .t (.str nm)] [] = some (.ret (.t (.tup [.agg [.str an, .sl [], .sl []], .int .i64 ae])) [] [])) (haction : ev 9 [.t (.agg [.sl ts, .sl cs]), .t (.str nm)] [] = some (.ret (.tup [.agg [.t (.str bn), .t (.sl p1), .t (.sl r1), .ref (.loc [18, 0]) 0 ds.length], .t (.int .i64 be)]) [] [(.loc [18, 0], .arr (31, true) 5 false ((flat ds).map .t))])) (hsame : ev 10 [.t (.agg [.sl ts, .sl cs]), .t (.agg [.sl ts, .sl cs])] [] = some (.ret (.t (.bool true)) [] [])) :
    CallRel (cf m) 4 [.t (.agg [.sl ts, .sl cs]), .t (.str nm)] [] (.ret (.t (.bool true)) [] []) := by
  refine fn_start2 67 2 Tryz.func4 rfl (by decide) rfl rfl (by decide) ?_
  refine AW.seq ?_
  refine AW.region ?_
  refine AWo.go (f := 0) hev (d_box rfl rfl) ?_
  refine AWo.go (f := 0) hev (d_assignT rfl) ?_
  refine AWo.nil ?_
  refine AW.seq ?_
  refine AW.seq ?_
  refine AW.region ?_
  refine AWo.go (f := 0) hev (d_callT (ts := []) rfl hlive) ?_
  refine AWo.go (f := 0) hev (d_not rfl) ?_
  refine AWo.nil ?_
  refine AW.cond rfl (fun h => absurd h (by decide)) (fun h => ?_)
  refine AW.skip ?_
  refine AW.seq ?_
  refine AW.region ?_
  refine AWo.go (f := 0) hev (by first | exact d_loadT rfl (ld ty36 rfl rfl) | exact d_load rfl (ld ty36 rfl rfl)) ?_
  refine AWo.go (f := 0) hev (d_callT (rh1 rfl) hcopy) ?_
  refine AWo.go (f := 0) hev (d_alloc ty36 rfl rfl) ?_
  refine AWo.go0 (f := 0) hev (d_store rfl rfl (stt ty36 rfl rfl)) ?_
  refine AWo.nil ?_
  refine AW.seq ?_
  refine AW.region ?_
  refine AWo.go (f := 0) hev (by first | exact d_loadT rfl (ld ty36 rfl rfl) | exact d_load rfl (ld ty36 rfl rfl)) ?_
  refine AWo.go (f := 0) hev (d_moveT rfl) ?_
  refine AWo.go (f := 0) hev (d_callT (rh2 rfl rfl) htype) ?_
  refine AWo.go (f := 0) hev (by first | exact d_moveT rfl | exact d_move rfl) ?_
  refine AWo.go (f := 0) hev (by first | exact d_extractT rfl rfl | exact d_extract rfl rfl) ?_
  refine AWo.go (f := 0) hev (by first | exact d_extractT rfl rfl | exact d_extract rfl rfl) ?_
  refine AWo.go (f := 0) hev (d_alloc ty40 rfl rfl) ?_
  refine AWo.go0 (f := 0) hev (d_store rfl rfl (stt ty40 rfl rfl)) ?_
  refine AWo.go (f := 0) hev (d_assignT rfl) ?_
  refine AWo.nil ?_
  refine AW.seq ?_
  refine AW.region ?_
  refine AWo.go (f := 0) hev (by first | exact d_loadT rfl (ld ty36 rfl rfl) | exact d_load rfl (ld ty36 rfl rfl)) ?_
  refine AWo.go (f := 0) hev (d_moveT rfl) ?_
  refine AWo.go (f := 0) hev (d_callN (v' := .tup [.agg [.t (.str bn), .t (.sl p1), .t (.sl r1), .ref (.loc [19, 18, 0]) 0 ds.length], .t (.int .i64 be)]) (news' := [(.loc [19, 18, 0], .arr (31, true) 5 false ((flat ds).map .t))]) (rh2 rfl rfl) haction rfl news_row) ?_
  refine AWo.go (f := 0) hev (by first | exact d_moveT rfl | exact d_move rfl) ?_
  refine AWo.go (f := 0) hev (by first | exact d_extractT rfl rfl | exact d_extract rfl rfl) ?_
  refine AWo.go (f := 0) hev (by first | exact d_extractT rfl rfl | exact d_extract rfl rfl) ?_
  refine AWo.go (f := 0) hev (d_alloc ty44 rfl rfl) ?_
  refine AWo.go0 (f := 0) hev (d_store rfl rfl (stt ty44 rfl rfl)) ?_
  refine AWo.go (f := 0) hev (d_assignT rfl) ?_
  refine AWo.nil ?_
  refine AW.seq ?_
  refine AW.seq ?_
  refine AW.re (st' := ⟨frm 67 [(2, .ptr (.loc [0]) 0), (5, .ptr (.loc [1]) 0), (6, .ptr (.loc [2]) 0), (8, .ptr (.loc [3]) 0)], [(.loc [0], .cells 36 [.t (.sl ts), .t (.sl cs)]), (.loc [1], .cells 36 [.t (.sl ts), .t (.sl cs)]), (.loc [2], .cells 40 [.any, .t (.sl []), .t (.sl [])]), (.loc [3], .cells 44 [.any, .any, .any, .ref (.loc [4]) 0 ds.length]), (.loc [4], .arr (31, true) 5 false ((flat ds).map .t))], 5⟩) (Re.sq [.loc [0], .loc [6], .loc [14], .loc [23], .loc [19, 18, 0]] ⟨rfl, rfl, rfl, rfl, trivial⟩ ⟨⟨.loc [0], _, rfl, rfl, .inl rfl⟩, ⟨.loc [6], _, rfl, rfl, .inl rfl⟩, ⟨.loc [14], _, rfl, rfl, .inr ⟨_, _, _, rfl, rfl, ⟨.inl rfl, .inr rfl, .inr rfl, trivial⟩⟩⟩, ⟨.loc [23], _, rfl, rfl, .inr ⟨_, _, _, rfl, rfl, ⟨.inl rfl, .inl rfl, .inl rfl, .inr rfl, trivial⟩⟩⟩, ⟨.loc [19, 18, 0], _, rfl, rfl, .inl rn_row⟩, trivial⟩ (by decide) rfl rfl (by decide)) ?_
  refine AW.region ?_
  refine AWo.go (f := 0) hev (d_fieldAddr rfl fo40_1 rfl) ?_
  refine AWo.go (f := 0) hev (by first | exact d_loadT rfl (ld ty38 rfl rfl) | exact d_load rfl (ld ty38 rfl rfl)) ?_
  refine AWo.go (f := 0) hev (by first | exact d_lenT rfl ty38 rfl | exact d_lenR rfl ty38 rfl | exact d_lenN rfl ty38 rfl | exact d_lenG rfl ty38 rfl) ?_
  refine AWo.go (f := 0) hev (d_moveT rfl) ?_
  refine AWo.nil ?_
  refine AW.block ?_
  refine AW.loop (α := Unit) (fun _ => _) (fun _ => True) (fun _ => 0) () (Re.refl _) trivial (fun _ _ => ?_)
  refine AW.seq ?_
  refine AW.region ?_
  refine AWo.go (f := 0) hev (d_ltI rfl rfl) ?_
  refine AWo.nil ?_
  refine AW.seq ?_
  refine AW.cond rfl (fun h => absurd h (by decide)) (fun h => ?_)
  refine AW.exit ?_
  refine AW.seq ?_
  refine AW.seq ?_
  refine AW.region ?_
  refine AWo.go (f := 0) hev (d_fieldAddr rfl fo40_2 rfl) ?_
  refine AWo.go (f := 0) hev (by first | exact d_loadT rfl (ld ty24 rfl rfl) | exact d_load rfl (ld ty24 rfl rfl)) ?_
  refine AWo.go (f := 0) hev (by first | exact d_lenT rfl ty24 rfl | exact d_lenR rfl ty24 rfl | exact d_lenN rfl ty24 rfl | exact d_lenG rfl ty24 rfl) ?_
  refine AWo.go (f := 0) hev (d_moveT rfl) ?_
  refine AWo.nil ?_
  refine AW.block ?_
  refine AW.loop (α := Unit) (fun _ => _) (fun _ => True) (fun _ => 0) () (Re.refl _) trivial (fun _ _ => ?_)
  refine AW.seq ?_
  refine AW.region ?_
  refine AWo.go (f := 0) hev (d_ltI rfl rfl) ?_
  refine AWo.nil ?_
  refine AW.seq ?_
  refine AW.cond rfl (fun h => absurd h (by decide)) (fun h => ?_)
  refine AW.exit ?_
  refine AW.seq ?_
  refine AW.seq ?_
  refine AW.region ?_
  refine AWo.go (f := 0) hev (d_fieldAddr rfl fo44_3 rfl) ?_
  refine AWo.go (f := 0) hev (by first | exact d_loadT rfl (ld ty24 rfl rfl) | exact d_load rfl (ld ty24 rfl rfl)) ?_
  refine AWo.go (f := 0) hev (by first | exact d_lenT rfl ty24 rfl | exact d_lenR rfl ty24 rfl | exact d_lenN rfl ty24 rfl | exact d_lenG rfl ty24 rfl) ?_
  refine AWo.go (f := 0) hev (d_moveT rfl) ?_
  refine AWo.nil ?_
  refine AW.block ?_
  refine AW.loop (α := Nat × List Tree) (fun x => ⟨frm 67 [(2, .ptr (.loc [0]) 0), (5, .ptr (.loc [1]) 0), (6, .ptr (.loc [2]) 0), (8, .ptr (.loc [3]) 0), (54, .t (.int .i64 ds.length)), (55, .t (.int .i64 x.1))], [(.loc [0], .cells 36 [.t (.sl ts), .t (.sl cs)]), (.loc [1], .cells 36 [.t (.sl ts), .t (.sl cs)]), (.loc [2], .cells 40 [.any, .t (.sl []), .t (.sl [])]), (.loc [3], .cells 44 [.any, .any, .any, .ref (.loc [4]) 0 ds.length]), (.loc [4], .arr (31, true) 5 false (x.2.map .t))], 5⟩) (fun x => x.1 ≤ ds.length ∧ x.2.length = ds.length * 5) (fun x => ds.length - x.1) (0, flat ds) (Re.sq [.loc [0], .loc [1], .loc [2], .loc [3], .loc [4]] ⟨rfl, rfl, rfl, rfl, rfl, rfl, trivial⟩ ⟨⟨.loc [0], _, rfl, rfl, .inl rfl⟩, ⟨.loc [1], _, rfl, rfl, .inl rfl⟩, ⟨.loc [2], _, rfl, rfl, .inr ⟨_, _, _, rfl, rfl, ⟨.inl rfl, .inr rfl, .inr rfl, trivial⟩⟩⟩, ⟨.loc [3], _, rfl, rfl, .inr ⟨_, _, _, rfl, rfl, ⟨.inl rfl, .inl rfl, .inl rfl, .inr rfl, trivial⟩⟩⟩, ⟨.loc [4], _, rfl, rfl, .inl rn_row⟩, trivial⟩ (by decide) rfl rfl (by decide)) ⟨Nat.zero_le _, flat_length huC.lens⟩ (fun x hx => ?_)
  obtain ⟨i, q⟩ := x
  obtain ⟨hi, hq⟩ := hx
  simp only at hi hq
  show AW _ _ ⟨frm 67 [(2, .ptr (.loc [0]) 0), (5, .ptr (.loc [1]) 0), (6, .ptr (.loc [2]) 0), (8, .ptr (.loc [3]) 0), (54, .t (.int .i64 ds.length)), (55, .t (.int .i64 i))], [(.loc [0], .cells 36 [.t (.sl ts), .t (.sl cs)]), (.loc [1], .cells 36 [.t (.sl ts), .t (.sl cs)]), (.loc [2], .cells 40 [.any, .t (.sl []), .t (.sl [])]), (.loc [3], .cells 44 [.any, .any, .any, .ref (.loc [4]) 0 ds.length]), (.loc [4], .arr (31, true) 5 false (q.map .t))], 5⟩ _
  refine AW.seq ?_
  refine AW.region ?_
  refine AWo.go (f := 0) hev (d_ltI rfl rfl) ?_
  refine AWo.nil ?_
  refine AW.seq ?_
  refine AW.cond rfl (fun h56 => ?_) (fun h56 => ?_)
  · have hlt : i < ds.length := by have := of_decide_eq_true h56; omega
    refine AW.skip ?_
    refine AW.seq ?_
    refine AW.block ?_
    refine AW.seq ?_
    refine AW.region ?_
    refine AWo.go (f := 0) hev (d_moveT rfl) ?_
    refine AWo.go (f := 0) hev (d_assignT rfl) ?_
    refine AWo.nil ?_
    refine AW.region ?_
    refine AWo.go (f := 0) hev (d_fieldAddr rfl fo44_3 rfl) ?_
    refine AWo.go (f := 0) hev (by first | exact d_loadT rfl (ld ty24 rfl rfl) | exact d_load rfl (ld ty24 rfl rfl)) ?_
    refine AWo.go (f := 0) hev (d_moveT rfl) ?_
    refine AWo.go (f := 0) hev (d_indexR rfl rfl ty24 rfl ty31 rfl (by decide) (by rw [List.length_map]; exact hq.symm) hlt) ?_
    refine AWo.go (f := 0) hev (d_fieldAddr rfl fo31_0 (padd rfl)) ?_
    refine AWo.go0 (f := 0) hev (d_store rfl rfl (sta ty9 rfl rfl (by show i * 5 + 0 + 1 ≤ _; rw [List.length_map, hq]; omega))) ?_
    refine AWo.nil ?_
    refine AW.region ?_
    refine AWo.go (f := 0) hev (d_add64 rfl rfl (by omega) (by omega)) ?_
    refine AWo.go (f := 0) hev (d_moveT rfl) ?_
    refine AWo.nil ?_
    exact ⟨(i + 1, setT q (i * 5 + 0) (.str [115, 112, 111, 105, 108, 116])), ⟨hlt, (set_len (by rw [hq]; omega)).trans hq⟩, Nat.sub_lt_sub_left hlt (Nat.lt_succ_self i), Re.sq [.loc [0], .loc [1], .loc [2], .loc [3], .loc [4]] ⟨rfl, rfl, rfl, rfl, rfl, rfl, trivial⟩ ⟨⟨.loc [0], _, rfl, rfl, .inl rfl⟩, ⟨.loc [1], _, rfl, rfl, .inl rfl⟩, ⟨.loc [2], _, rfl, rfl, .inl rfl⟩, ⟨.loc [3], _, rfl, rfl, .inl rfl⟩, ⟨.loc [4], _, rfl, rfl, .inl (rn_row_eq set_map)⟩, trivial⟩ (by decide) rfl rfl (by decide)⟩
  · skip
    refine AW.exit ?_
    refine AW.seq ?_
    refine AW.region ?_
    refine AWo.go (f := 0) hev (by first | exact d_loadT rfl (ld ty36 rfl rfl) | exact d_load rfl (ld ty36 rfl rfl)) ?_
    refine AWo.go (f := 0) hev (by first | exact d_loadT rfl (ld ty36 rfl rfl) | exact d_load rfl (ld ty36 rfl rfl)) ?_
    refine AWo.go (f := 0) hev (d_callT (rh2 rfl rfl) hsame) ?_
    refine AWo.go (f := 0) hev (d_assignT rfl) ?_
    refine AWo.nil ?_
    refine AW.ret ?_
    exact .inl (fin_data rfl rfl)

theorem law_010 {m : Int} (ev : CallF) (hev : CallOk (cf m) ev) (ts cs p1 r1 bs : List Tree) (nm an bn : List UInt8) (ae be : Int) (huQ : Uni true 5 bs) (hlQ : bs.length ≤ 4194304) (hlive : ev 5 [] [] = some (.ret (.t (.bool true)) [] [])) (hcopy : ev 7 [.t (.agg [.sl ts, .sl cs])] [] = some (.ret (.t (.agg [.sl ts, .sl cs])) [] []))
    (htype : ev 8 [.t (.agg [.sl ts, .sl cs]), .t (.str nm)] [] = some (.ret (.tup [.agg [.t (.str an), .t (.sl []), .ref (.loc [15, 0]) 0 bs.length], .t (.int .i64 ae)]) [] [(.loc [15, 0], .arr (31, true) 5 false ((flat bs).map .t))])) (haction : ev 9 [.t (.agg [.sl ts, .sl cs]), .t (.str nm)] [] = some (.ret (.t (.tup [.agg [.str bn, .sl p1, .sl r1, .sl []], .int .i64 be])) [] [])) (hsame : ev 10 [.t (.agg [.sl ts, .sl cs]), .t (.agg [.sl ts, .sl cs])] [] = some (.ret (.t (.bool true)) [] [])) :
    CallRel (cf m) 4 [.t (.agg [.sl ts, .sl cs]), .t (.str nm)] [] (.ret (.t (.bool true)) [] []) := by
  refine fn_start2 67 2 Tryz.func4 rfl (by decide) rfl rfl (by decide) ?_
  refine AW.seq ?_
  refine AW.region ?_
  refine AWo.go (f := 0) hev (d_box rfl rfl) ?_
  refine AWo.go (f := 0) hev (d_assignT rfl) ?_
  refine AWo.nil ?_
  refine AW.seq ?_
  refine AW.seq ?_
  refine AW.region ?_
  refine AWo.go (f := 0) hev (d_callT (ts := []) rfl hlive) ?_
  refine AWo.go (f := 0) hev (d_not rfl) ?_
  refine AWo.nil ?_
  refine AW.cond rfl (fun h => absurd h (by decide)) (fun h => ?_)
  refine AW.skip ?_
  refine AW.seq ?_
  refine AW.region ?_
  refine AWo.go (f := 0) hev (by first | exact d_loadT rfl (ld ty36 rfl rfl) | exact d_load rfl (ld ty36 rfl rfl)) ?_
  refine AWo.go (f := 0) hev (d_callT (rh1 rfl) hcopy) ?_
  refine AWo.go (f := 0) hev (d_alloc ty36 rfl rfl) ?_
  refine AWo.go0 (f := 0) hev (d_store rfl rfl (stt ty36 rfl rfl)) ?_
  refine AWo.nil ?_
  refine AW.seq ?_
  refine AW.region ?_
  refine AWo.go (f := 0) hev (by first | exact d_loadT rfl (ld ty36 rfl rfl) | exact d_load rfl (ld ty36 rfl rfl)) ?_
  refine AWo.go (f := 0) hev (d_moveT rfl) ?_
  refine AWo.go (f := 0) hev (d_callN (v' := .tup [.agg [.t (.str an), .t (.sl []), .ref (.loc [10, 15, 0]) 0 bs.length], .t (.int .i64 ae)]) (news' := [(.loc [10, 15, 0], .arr (31, true) 5 false ((flat bs).map .t))]) (rh2 rfl rfl) htype rfl news_row) ?_
  refine AWo.go (f := 0) hev (by first | exact d_moveT rfl | exact d_move rfl) ?_
  refine AWo.go (f := 0) hev (by first | exact d_extractT rfl rfl | exact d_extract rfl rfl) ?_
  refine AWo.go (f := 0) hev (by first | exact d_extractT rfl rfl | exact d_extract rfl rfl) ?_
  refine AWo.go (f := 0) hev (d_alloc ty40 rfl rfl) ?_
  refine AWo.go0 (f := 0) hev (d_store rfl rfl (stt ty40 rfl rfl)) ?_
  refine AWo.go (f := 0) hev (d_assignT rfl) ?_
  refine AWo.nil ?_
  refine AW.seq ?_
  refine AW.region ?_
  refine AWo.go (f := 0) hev (by first | exact d_loadT rfl (ld ty36 rfl rfl) | exact d_load rfl (ld ty36 rfl rfl)) ?_
  refine AWo.go (f := 0) hev (d_moveT rfl) ?_
  refine AWo.go (f := 0) hev (d_callT (rh2 rfl rfl) haction) ?_
  refine AWo.go (f := 0) hev (by first | exact d_moveT rfl | exact d_move rfl) ?_
  refine AWo.go (f := 0) hev (by first | exact d_extractT rfl rfl | exact d_extract rfl rfl) ?_
  refine AWo.go (f := 0) hev (by first | exact d_extractT rfl rfl | exact d_extract rfl rfl) ?_
  refine AWo.go (f := 0) hev (d_alloc ty44 rfl rfl) ?_
  refine AWo.go0 (f := 0) hev (d_store rfl rfl (stt ty44 rfl rfl)) ?_
  refine AWo.go (f := 0) hev (d_assignT rfl) ?_
  refine AWo.nil ?_
  refine AW.seq ?_
  refine AW.seq ?_
  refine AW.re (st' := ⟨frm 67 [(2, .ptr (.loc [0]) 0), (5, .ptr (.loc [1]) 0), (6, .ptr (.loc [2]) 0), (8, .ptr (.loc [3]) 0)], [(.loc [0], .cells 36 [.t (.sl ts), .t (.sl cs)]), (.loc [1], .cells 36 [.t (.sl ts), .t (.sl cs)]), (.loc [2], .cells 40 [.any, .t (.sl []), .ref (.loc [4]) 0 bs.length]), (.loc [3], .cells 44 [.any, .any, .any, .t (.sl [])]), (.loc [4], .arr (31, true) 5 false ((flat bs).map .t))], 5⟩) (Re.sq [.loc [0], .loc [6], .loc [14], .loc [23], .loc [10, 15, 0]] ⟨rfl, rfl, rfl, rfl, trivial⟩ ⟨⟨.loc [0], _, rfl, rfl, .inl rfl⟩, ⟨.loc [6], _, rfl, rfl, .inl rfl⟩, ⟨.loc [14], _, rfl, rfl, .inr ⟨_, _, _, rfl, rfl, ⟨.inl rfl, .inr rfl, .inr rfl, trivial⟩⟩⟩, ⟨.loc [23], _, rfl, rfl, .inr ⟨_, _, _, rfl, rfl, ⟨.inl rfl, .inl rfl, .inl rfl, .inr rfl, trivial⟩⟩⟩, ⟨.loc [10, 15, 0], _, rfl, rfl, .inl rn_row⟩, trivial⟩ (by decide) rfl rfl (by decide)) ?_
  refine AW.region ?_
  refine AWo.go (f := 0) hev (d_fieldAddr rfl fo40_1 rfl) ?_
  refine AWo.go (f := 0) hev (by first | exact d_loadT rfl (ld ty38 rfl rfl) | exact d_load rfl (ld ty38 rfl rfl)) ?_
  refine AWo.go (f := 0) hev (by first | exact d_lenT rfl ty38 rfl | exact d_lenR rfl ty38 rfl | exact d_lenN rfl ty38 rfl | exact d_lenG rfl ty38 rfl) ?_
  refine AWo.go (f := 0) hev (d_moveT rfl) ?_
  refine AWo.nil ?_
  refine AW.block ?_
  refine AW.loop (α := Unit) (fun _ => _) (fun _ => True) (fun _ => 0) () (Re.refl _) trivial (fun _ _ => ?_)
  refine AW.seq ?_
  refine AW.region ?_
  refine AWo.go (f := 0) hev (d_ltI rfl rfl) ?_
  refine AWo.nil ?_
  refine AW.seq ?_
  refine AW.cond rfl (fun h => absurd h (by decide)) (fun h => ?_)
  refine AW.exit ?_
  refine AW.seq ?_
  refine AW.seq ?_
  refine AW.region ?_
  refine AWo.go (f := 0) hev (d_fieldAddr rfl fo40_2 rfl) ?_
  refine AWo.go (f := 0) hev (by first | exact d_loadT rfl (ld ty24 rfl rfl) | exact d_load rfl (ld ty24 rfl rfl)) ?_
  refine AWo.go (f := 0) hev (by first | exact d_lenT rfl ty24 rfl | exact d_lenR rfl ty24 rfl | exact d_lenN rfl ty24 rfl | exact d_lenG rfl ty24 rfl) ?_
  refine AWo.go (f := 0) hev (d_moveT rfl) ?_
  refine AWo.nil ?_
  refine AW.block ?_
  refine AW.loop (α := Nat × List Tree) (fun x => ⟨frm 67 [(2, .ptr (.loc [0]) 0), (5, .ptr (.loc [1]) 0), (6, .ptr (.loc [2]) 0), (8, .ptr (.loc [3]) 0), (42, .t (.int .i64 bs.length)), (43, .t (.int .i64 x.1))], [(.loc [0], .cells 36 [.t (.sl ts), .t (.sl cs)]), (.loc [1], .cells 36 [.t (.sl ts), .t (.sl cs)]), (.loc [2], .cells 40 [.any, .t (.sl []), .ref (.loc [4]) 0 bs.length]), (.loc [3], .cells 44 [.any, .any, .any, .t (.sl [])]), (.loc [4], .arr (31, true) 5 false (x.2.map .t))], 5⟩) (fun x => x.1 ≤ bs.length ∧ x.2.length = bs.length * 5) (fun x => bs.length - x.1) (0, flat bs) (Re.sq [.loc [0], .loc [1], .loc [2], .loc [3], .loc [4]] ⟨rfl, rfl, rfl, rfl, rfl, rfl, trivial⟩ ⟨⟨.loc [0], _, rfl, rfl, .inl rfl⟩, ⟨.loc [1], _, rfl, rfl, .inl rfl⟩, ⟨.loc [2], _, rfl, rfl, .inr ⟨_, _, _, rfl, rfl, ⟨.inl rfl, .inr rfl, .inr rfl, trivial⟩⟩⟩, ⟨.loc [3], _, rfl, rfl, .inr ⟨_, _, _, rfl, rfl, ⟨.inl rfl, .inl rfl, .inl rfl, .inr rfl, trivial⟩⟩⟩, ⟨.loc [4], _, rfl, rfl, .inl rn_row⟩, trivial⟩ (by decide) rfl rfl (by decide)) ⟨Nat.zero_le _, flat_length huQ.lens⟩ (fun x hx => ?_)
  obtain ⟨i, q⟩ := x
  obtain ⟨hi, hq⟩ := hx
  simp only at hi hq
  show AW _ _ ⟨frm 67 [(2, .ptr (.loc [0]) 0), (5, .ptr (.loc [1]) 0), (6, .ptr (.loc [2]) 0), (8, .ptr (.loc [3]) 0), (42, .t (.int .i64 bs.length)), (43, .t (.int .i64 i))], [(.loc [0], .cells 36 [.t (.sl ts), .t (.sl cs)]), (.loc [1], .cells 36 [.t (.sl ts), .t (.sl cs)]), (.loc [2], .cells 40 [.any, .t (.sl []), .ref (.loc [4]) 0 bs.length]), (.loc [3], .cells 44 [.any, .any, .any, .t (.sl [])]), (.loc [4], .arr (31, true) 5 false (q.map .t))], 5⟩ _
  refine AW.seq ?_
  refine AW.region ?_
  refine AWo.go (f := 0) hev (d_ltI rfl rfl) ?_
  refine AWo.nil ?_
  refine AW.seq ?_
  refine AW.cond rfl (fun h44 => ?_) (fun h44 => ?_)
  · have hlt : i < bs.length := by have := of_decide_eq_true h44; omega
    refine AW.skip ?_
    refine AW.seq ?_
    refine AW.block ?_
    refine AW.seq ?_
    refine AW.region ?_
    refine AWo.go (f := 0) hev (d_moveT rfl) ?_
    refine AWo.go (f := 0) hev (d_assignT rfl) ?_
    refine AWo.nil ?_
    refine AW.region ?_
    refine AWo.go (f := 0) hev (d_fieldAddr rfl fo40_2 rfl) ?_
    refine AWo.go (f := 0) hev (by first | exact d_loadT rfl (ld ty24 rfl rfl) | exact d_load rfl (ld ty24 rfl rfl)) ?_
    refine AWo.go (f := 0) hev (d_moveT rfl) ?_
    refine AWo.go (f := 0) hev (d_indexR rfl rfl ty24 rfl ty31 rfl (by decide) (by rw [List.length_map]; exact hq.symm) hlt) ?_
    refine AWo.go (f := 0) hev (d_fieldAddr rfl fo31_0 (padd rfl)) ?_
    refine AWo.go0 (f := 0) hev (d_store rfl rfl (sta ty9 rfl rfl (by show i * 5 + 0 + 1 ≤ _; rw [List.length_map, hq]; omega))) ?_
    refine AWo.nil ?_
    refine AW.region ?_
    refine AWo.go (f := 0) hev (d_add64 rfl rfl (by omega) (by omega)) ?_
    refine AWo.go (f := 0) hev (d_moveT rfl) ?_
    refine AWo.nil ?_
    exact ⟨(i + 1, setT q (i * 5 + 0) (.str [115, 112, 111, 105, 108, 116])), ⟨hlt, (set_len (by rw [hq]; omega)).trans hq⟩, Nat.sub_lt_sub_left hlt (Nat.lt_succ_self i), Re.sq [.loc [0], .loc [1], .loc [2], .loc [3], .loc [4]] ⟨rfl, rfl, rfl, rfl, rfl, rfl, trivial⟩ ⟨⟨.loc [0], _, rfl, rfl, .inl rfl⟩, ⟨.loc [1], _, rfl, rfl, .inl rfl⟩, ⟨.loc [2], _, rfl, rfl, .inl rfl⟩, ⟨.loc [3], _, rfl, rfl, .inl rfl⟩, ⟨.loc [4], _, rfl, rfl, .inl (rn_row_eq set_map)⟩, trivial⟩ (by decide) rfl rfl (by decide)⟩
  · skip
    refine AW.exit ?_
    refine AW.seq ?_
    refine AW.seq ?_
    refine AW.region ?_
    refine AWo.go (f := 0) hev (d_fieldAddr rfl fo44_3 rfl) ?_
    refine AWo.go (f := 0) hev (by first | exact d_loadT rfl (ld ty24 rfl rfl) | exact d_load rfl (ld ty24 rfl rfl)) ?_
    refine AWo.go (f := 0) hev (by first | exact d_lenT rfl ty24 rfl | exact d_lenR rfl ty24 rfl | exact d_lenN rfl ty24 rfl | exact d_lenG rfl ty24 rfl) ?_
    refine AWo.go (f := 0) hev (d_moveT rfl) ?_
    refine AWo.nil ?_
    refine AW.block ?_
    refine AW.loop (α := Unit) (fun _ => _) (fun _ => True) (fun _ => 0) () (Re.refl _) trivial (fun _ _ => ?_)
    refine AW.seq ?_
    refine AW.region ?_
    refine AWo.go (f := 0) hev (d_ltI rfl rfl) ?_
    refine AWo.nil ?_
    refine AW.seq ?_
    refine AW.cond rfl (fun h => absurd h (by decide)) (fun h => ?_)
    refine AW.exit ?_
    refine AW.seq ?_
    refine AW.region ?_
    refine AWo.go (f := 0) hev (by first | exact d_loadT rfl (ld ty36 rfl rfl) | exact d_load rfl (ld ty36 rfl rfl)) ?_
    refine AWo.go (f := 0) hev (by first | exact d_loadT rfl (ld ty36 rfl rfl) | exact d_load rfl (ld ty36 rfl rfl)) ?_
    refine AWo.go (f := 0) hev (d_callT (rh2 rfl rfl) hsame) ?_
    refine AWo.go (f := 0) hev (d_assignT rfl) ?_
    refine AWo.nil ?_
    refine AW.ret ?_
    exact .inl (fin_data rfl rfl)

theorem law_011 {m : Int} (ev : CallF) (hev : CallOk (cf m) ev) (ts cs p1 r1 bs ds : List Tree) (nm an bn : List UInt8) (ae be : Int) (huQ : Uni true 5 bs) (hlQ : bs.length ≤ 4194304) (huC : Uni true 5 ds) (hlC : ds.length ≤ 4194304) (hlive : ev 5 [] [] = some (.ret (.t (.bool true)) [] [])) (hcopy : ev 7 [.t (.agg [.sl ts, .sl cs])] [] = some (.ret (.t (.agg [.sl ts, .sl cs])) [] []))
    (htype : ev 8 [.t (.agg [.sl ts, .sl cs]), .t (.str nm)] [] = some (.ret (.tup [.agg [.t (.str an), .t (.sl []), .ref (.loc [15, 0]) 0 bs.length], .t (.int .i64 ae)]) [] [(.loc [15, 0], .arr (31, true) 5 false ((flat bs).map .t))])) (haction : ev 9 [.t (.agg [.sl ts, .sl cs]), .t (.str nm)] [] = some (.ret (.tup [.agg [.t (.str bn), .t (.sl p1), .t (.sl r1), .ref (.loc [18, 0]) 0 ds.length], .t (.int .i64 be)]) [] [(.loc [18, 0], .arr (31, true) 5 false ((flat ds).map .t))])) (hsame : ev 10 [.t (.agg [.sl ts, .sl cs]), .t (.agg [.sl ts, .sl cs])] [] = some (.ret (.t (.bool true)) [] [])) :
    CallRel (cf m) 4 [.t (.agg [.sl ts, .sl cs]), .t (.str nm)] [] (.ret (.t (.bool true)) [] []) := by
  refine fn_start2 67 2 Tryz.func4 rfl (by decide) rfl rfl (by decide) ?_
  refine AW.seq ?_
  refine AW.region ?_
  refine AWo.go (f := 0) hev (d_box rfl rfl) ?_
  refine AWo.go (f := 0) hev (d_assignT rfl) ?_
  refine AWo.nil ?_
  refine AW.seq ?_
  refine AW.seq ?_
  refine AW.region ?_
  refine AWo.go (f := 0) hev (d_callT (ts := []) rfl hlive) ?_
  refine AWo.go (f := 0) hev (d_not rfl) ?_
  refine AWo.nil ?_
  refine AW.cond rfl (fun h => absurd h (by decide)) (fun h => ?_)
  refine AW.skip ?_
  refine AW.seq ?_
  refine AW.region ?_
  refine AWo.go (f := 0) hev (by first | exact d_loadT rfl (ld ty36 rfl rfl) | exact d_load rfl (ld ty36 rfl rfl)) ?_
  refine AWo.go (f := 0) hev (d_callT (rh1 rfl) hcopy) ?_
  refine AWo.go (f := 0) hev (d_alloc ty36 rfl rfl) ?_
  refine AWo.go0 (f := 0) hev (d_store rfl rfl (stt ty36 rfl rfl)) ?_
  refine AWo.nil ?_
  refine AW.seq ?_
  refine AW.region ?_
  refine AWo.go (f := 0) hev (by first | exact d_loadT rfl (ld ty36 rfl rfl) | exact d_load rfl (ld ty36 rfl rfl)) ?_
  refine AWo.go (f := 0) hev (d_moveT rfl) ?_
  refine AWo.go (f := 0) hev (d_callN (v' := .tup [.agg [.t (.str an), .t (.sl []), .ref (.loc [10, 15, 0]) 0 bs.length], .t (.int .i64 ae)]) (news' := [(.loc [10, 15, 0], .arr (31, true) 5 false ((flat bs).map .t))]) (rh2 rfl rfl) htype rfl news_row) ?_
  refine AWo.go (f := 0) hev (by first | exact d_moveT rfl | exact d_move rfl) ?_
  refine AWo.go (f := 0) hev (by first | exact d_extractT rfl rfl | exact d_extract rfl rfl) ?_
  refine AWo.go (f := 0) hev (by first | exact d_extractT rfl rfl | exact d_extract rfl rfl) ?_
  refine AWo.go (f := 0) hev (d_alloc ty40 rfl rfl) ?_
  refine AWo.go0 (f := 0) hev (d_store rfl rfl (stt ty40 rfl rfl)) ?_
  refine AWo.go (f := 0) hev (d_assignT rfl) ?_
  refine AWo.nil ?_
  refine AW.seq ?_
  refine AW.region ?_
  refine AWo.go (f := 0) hev (by first | exact d_loadT rfl (ld ty36 rfl rfl) | exact d_load rfl (ld ty36 rfl rfl)) ?_
  refine AWo.go (f := 0) hev (d_moveT rfl) ?_
  refine AWo.go (f := 0) hev (d_callN (v' := .tup [.agg [.t (.str bn), .t (.sl p1), .t (.sl r1), .ref (.loc [19, 18, 0]) 0 ds.length], .t (.int .i64 be)]) (news' := [(.loc [19, 18, 0], .arr (31, true) 5 false ((flat ds).map .t))]) (rh2 rfl rfl) haction rfl news_row) ?_
  refine AWo.go (f := 0) hev (by first | exact d_moveT rfl | exact d_move rfl) ?_
  refine AWo.go (f := 0) hev (by first | exact d_extractT rfl rfl | exact d_extract rfl rfl) ?_
  refine AWo.go (f := 0) hev (by first | exact d_extractT rfl rfl | exact d_extract rfl rfl) ?_
  refine AWo.go (f := 0) hev (d_alloc ty44 rfl rfl) ?_
  refine AWo.go0 (f := 0) hev (d_store rfl rfl (stt ty44 rfl rfl)) ?_
  refine AWo.go (f := 0) hev (d_assignT rfl) ?_
  refine AWo.nil ?_
  refine AW.seq ?_
  refine AW.seq ?_
  refine AW.re (st' := ⟨frm 67 [(2, .ptr (.loc [0]) 0), (5, .ptr (.loc [1]) 0), (6, .ptr (.loc [2]) 0), (8, .ptr (.loc [3]) 0)], [(.loc [0], .cells 36 [.t (.sl ts), .t (.sl cs)]), (.loc [1], .cells 36 [.t (.sl ts), .t (.sl cs)]), (.loc [2], .cells 40 [.any, .t (.sl []), .ref (.loc [4]) 0 bs.length]), (.loc [3], .cells 44 [.any, .any, .any, .ref (.loc [5]) 0 ds.length]), (.loc [4], .arr (31, true) 5 false ((flat bs).map .t)), (.loc [5], .arr (31, true) 5 false ((flat ds).map .t))], 6⟩) (Re.sq [.loc [0], .loc [6], .loc [14], .loc [23], .loc [10, 15, 0], .loc [19, 18, 0]] ⟨rfl, rfl, rfl, rfl, trivial⟩ ⟨⟨.loc [0], _, rfl, rfl, .inl rfl⟩, ⟨.loc [6], _, rfl, rfl, .inl rfl⟩, ⟨.loc [14], _, rfl, rfl, .inr ⟨_, _, _, rfl, rfl, ⟨.inl rfl, .inr rfl, .inr rfl, trivial⟩⟩⟩, ⟨.loc [23], _, rfl, rfl, .inr ⟨_, _, _, rfl, rfl, ⟨.inl rfl, .inl rfl, .inl rfl, .inr rfl, trivial⟩⟩⟩, ⟨.loc [10, 15, 0], _, rfl, rfl, .inl rn_row⟩, ⟨.loc [19, 18, 0], _, rfl, rfl, .inl rn_row⟩, trivial⟩ (by decide) rfl rfl (by decide)) ?_
  refine AW.region ?_
  refine AWo.go (f := 0) hev (d_fieldAddr rfl fo40_1 rfl) ?_
  refine AWo.go (f := 0) hev (by first | exact d_loadT rfl (ld ty38 rfl rfl) | exact d_load rfl (ld ty38 rfl rfl)) ?_
  refine AWo.go (f := 0) hev (by first | exact d_lenT rfl ty38 rfl | exact d_lenR rfl ty38 rfl | exact d_lenN rfl ty38 rfl | exact d_lenG rfl ty38 rfl) ?_
  refine AWo.go (f := 0) hev (d_moveT rfl) ?_
  refine AWo.nil ?_
  refine AW.block ?_
  refine AW.loop (α := Unit) (fun _ => _) (fun _ => True) (fun _ => 0) () (Re.refl _) trivial (fun _ _ => ?_)
  refine AW.seq ?_
  refine AW.region ?_
  refine AWo.go (f := 0) hev (d_ltI rfl rfl) ?_
  refine AWo.nil ?_
  refine AW.seq ?_
  refine AW.cond rfl (fun h => absurd h (by decide)) (fun h => ?_)
  refine AW.exit ?_
  refine AW.seq ?_
  refine AW.seq ?_
  refine AW.region ?_
  refine AWo.go (f := 0) hev (d_fieldAddr rfl fo40_2 rfl) ?_
  refine AWo.go (f := 0) hev (by first | exact d_loadT rfl (ld ty24 rfl rfl) | exact d_load rfl (ld ty24 rfl rfl)) ?_
  refine AWo.go (f := 0) hev (by first | exact d_lenT rfl ty24 rfl | exact d_lenR rfl ty24 rfl | exact d_lenN rfl ty24 rfl | exact d_lenG rfl ty24 rfl) ?_
  refine AWo.go (f := 0) hev (d_moveT rfl) ?_
  refine AWo.nil ?_
  refine AW.block ?_
  refine AW.loop (α := Nat × List Tree) (fun x => ⟨frm 67 [(2, .ptr (.loc [0]) 0), (5, .ptr (.loc [1]) 0), (6, .ptr (.loc [2]) 0), (8, .ptr (.loc [3]) 0), (42, .t (.int .i64 bs.length)), (43, .t (.int .i64 x.1))], [(.loc [0], .cells 36 [.t (.sl ts), .t (.sl cs)]), (.loc [1], .cells 36 [.t (.sl ts), .t (.sl cs)]), (.loc [2], .cells 40 [.any, .t (.sl []), .ref (.loc [4]) 0 bs.length]), (.loc [3], .cells 44 [.any, .any, .any, .ref (.loc [5]) 0 ds.length]), (.loc [4], .arr (31, true) 5 false (x.2.map .t)), (.loc [5], .arr (31, true) 5 false ((flat ds).map .t))], 6⟩) (fun x => x.1 ≤ bs.length ∧ x.2.length = bs.length * 5) (fun x => bs.length - x.1) (0, flat bs) (Re.sq [.loc [0], .loc [1], .loc [2], .loc [3], .loc [4], .loc [5]] ⟨rfl, rfl, rfl, rfl, rfl, rfl, trivial⟩ ⟨⟨.loc [0], _, rfl, rfl, .inl rfl⟩, ⟨.loc [1], _, rfl, rfl, .inl rfl⟩, ⟨.loc [2], _, rfl, rfl, .inr ⟨_, _, _, rfl, rfl, ⟨.inl rfl, .inr rfl, .inr rfl, trivial⟩⟩⟩, ⟨.loc [3], _, rfl, rfl, .inr ⟨_, _, _, rfl, rfl, ⟨.inl rfl, .inl rfl, .inl rfl, .inr rfl, trivial⟩⟩⟩, ⟨.loc [4], _, rfl, rfl, .inl rn_row⟩, ⟨.loc [5], _, rfl, rfl, .inl rn_row⟩, trivial⟩ (by decide) rfl rfl (by decide)) ⟨Nat.zero_le _, flat_length huQ.lens⟩ (fun x hx => ?_)
  obtain ⟨i, q⟩ := x
  obtain ⟨hi, hq⟩ := hx
  simp only at hi hq
  show AW _ _ ⟨frm 67 [(2, .ptr (.loc [0]) 0), (5, .ptr (.loc [1]) 0), (6, .ptr (.loc [2]) 0), (8, .ptr (.loc [3]) 0), (42, .t (.int .i64 bs.length)), (43, .t (.int .i64 i))], [(.loc [0], .cells 36 [.t (.sl ts), .t (.sl cs)]), (.loc [1], .cells 36 [.t (.sl ts), .t (.sl cs)]), (.loc [2], .cells 40 [.any, .t (.sl []), .ref (.loc [4]) 0 bs.length]), (.loc [3], .cells 44 [.any, .any, .any, .ref (.loc [5]) 0 ds.length]), (.loc [4], .arr (31, true) 5 false (q.map .t)), (.loc [5], .arr (31, true) 5 false ((flat ds).map .t))], 6⟩ _
  refine AW.seq ?_
  refine AW.region ?_
  refine AWo.go (f := 0) hev (d_ltI rfl rfl) ?_
  refine AWo.nil ?_
  refine AW.seq ?_
  refine AW.cond rfl (fun h44 => ?_) (fun h44 => ?_)
  · have hlt : i < bs.length := by have := of_decide_eq_true h44; omega
    refine AW.skip ?_
    refine AW.seq ?_
    refine AW.block ?_
    refine AW.seq ?_
    refine AW.region ?_
    refine AWo.go (f := 0) hev (d_moveT rfl) ?_
    refine AWo.go (f := 0) hev (d_assignT rfl) ?_
    refine AWo.nil ?_
    refine AW.region ?_
    refine AWo.go (f := 0) hev (d_fieldAddr rfl fo40_2 rfl) ?_
    refine AWo.go (f := 0) hev (by first | exact d_loadT rfl (ld ty24 rfl rfl) | exact d_load rfl (ld ty24 rfl rfl)) ?_
    refine AWo.go (f := 0) hev (d_moveT rfl) ?_
    refine AWo.go (f := 0) hev (d_indexR rfl rfl ty24 rfl ty31 rfl (by decide) (by rw [List.length_map]; exact hq.symm) hlt) ?_
    refine AWo.go (f := 0) hev (d_fieldAddr rfl fo31_0 (padd rfl)) ?_
    refine AWo.go0 (f := 0) hev (d_store rfl rfl (sta ty9 rfl rfl (by show i * 5 + 0 + 1 ≤ _; rw [List.length_map, hq]; omega))) ?_
    refine AWo.nil ?_
    refine AW.region ?_
    refine AWo.go (f := 0) hev (d_add64 rfl rfl (by omega) (by omega)) ?_
    refine AWo.go (f := 0) hev (d_moveT rfl) ?_
    refine AWo.nil ?_
    exact ⟨(i + 1, setT q (i * 5 + 0) (.str [115, 112, 111, 105, 108, 116])), ⟨hlt, (set_len (by rw [hq]; omega)).trans hq⟩, Nat.sub_lt_sub_left hlt (Nat.lt_succ_self i), Re.sq [.loc [0], .loc [1], .loc [2], .loc [3], .loc [4], .loc [5]] ⟨rfl, rfl, rfl, rfl, rfl, rfl, trivial⟩ ⟨⟨.loc [0], _, rfl, rfl, .inl rfl⟩, ⟨.loc [1], _, rfl, rfl, .inl rfl⟩, ⟨.loc [2], _, rfl, rfl, .inl rfl⟩, ⟨.loc [3], _, rfl, rfl, .inl rfl⟩, ⟨.loc [4], _, rfl, rfl, .inl (rn_row_eq set_map)⟩, ⟨.loc [5], _, rfl, rfl, .inl rn_row⟩, trivial⟩ (by decide) rfl rfl (by decide)⟩
  · skip
    refine AW.exit ?_
    refine AW.seq ?_
    refine AW.seq ?_
    refine AW.region ?_
    refine AWo.go (f := 0) hev (d_fieldAddr rfl fo44_3 rfl) ?_
    refine AWo.go (f := 0) hev (by first | exact d_loadT rfl (ld ty24 rfl rfl) | exact d_load rfl (ld ty24 rfl rfl)) ?_
    refine AWo.go (f := 0) hev (by first | exact d_lenT rfl ty24 rfl | exact d_lenR rfl ty24 rfl | exact d_lenN rfl ty24 rfl | exact d_lenG rfl ty24 rfl) ?_
    refine AWo.go (f := 0) hev (d_moveT rfl) ?_
    refine AWo.nil ?_
    refine AW.block ?_
    refine AW.loop (α := Nat × List Tree) (fun x => ⟨frm 67 [(2, .ptr (.loc [0]) 0), (5, .ptr (.loc [1]) 0), (6, .ptr (.loc [2]) 0), (8, .ptr (.loc [3]) 0), (54, .t (.int .i64 ds.length)), (55, .t (.int .i64 x.1))], [(.loc [0], .cells 36 [.t (.sl ts), .t (.sl cs)]), (.loc [1], .cells 36 [.t (.sl ts), .t (.sl cs)]), (.loc [2], .cells 40 [.any, .t (.sl []), .any]), (.loc [3], .cells 44 [.any, .any, .any, .ref (.loc [4]) 0 ds.length]), (.loc [4], .arr (31, true) 5 false (x.2.map .t))], 5⟩) (fun x => x.1 ≤ ds.length ∧ x.2.length = ds.length * 5) (fun x => ds.length - x.1) (0, flat ds) (Re.sq [.loc [0], .loc [1], .loc [2], .loc [3], .loc [5]] ⟨rfl, rfl, rfl, rfl, rfl, rfl, trivial⟩ ⟨⟨.loc [0], _, rfl, rfl, .inl rfl⟩, ⟨.loc [1], _, rfl, rfl, .inl rfl⟩, ⟨.loc [2], _, rfl, rfl, .inr ⟨_, _, _, rfl, rfl, ⟨.inl rfl, .inr rfl, .inl rfl, trivial⟩⟩⟩, ⟨.loc [3], _, rfl, rfl, .inr ⟨_, _, _, rfl, rfl, ⟨.inl rfl, .inl rfl, .inl rfl, .inr rfl, trivial⟩⟩⟩, ⟨.loc [5], _, rfl, rfl, .inl rn_row⟩, trivial⟩ (by decide) rfl rfl (by decide)) ⟨Nat.zero_le _, flat_length huC.lens⟩ (fun x hx => ?_)
    obtain ⟨i, q⟩ := x
    obtain ⟨hi, hq⟩ := hx
    simp only at hi hq
    show AW _ _ ⟨frm 67 [(2, .ptr (.loc [0]) 0), (5, .ptr (.loc [1]) 0), (6, .ptr (.loc [2]) 0), (8, .ptr (.loc [3]) 0), (54, .t (.int .i64 ds.length)), (55, .t (.int .i64 i))], [(.loc [0], .cells 36 [.t (.sl ts), .t (.sl cs)]), (.loc [1], .cells 36 [.t (.sl ts), .t (.sl cs)]), (.loc [2], .cells 40 [.any, .t (.sl []), .any]), (.loc [3], .cells 44 [.any, .any, .any, .ref (.loc [4]) 0 ds.length]), (.loc [4], .arr (31, true) 5 false (q.map .t))], 5⟩ _
    refine AW.seq ?_
    refine AW.region ?_
    refine AWo.go (f := 0) hev (d_ltI rfl rfl) ?_
    refine AWo.nil ?_
    refine AW.seq ?_
    refine AW.cond rfl (fun h56 => ?_) (fun h56 => ?_)
    · have hlt : i < ds.length := by have := of_decide_eq_true h56; omega
      refine AW.skip ?_
      refine AW.seq ?_
      refine AW.block ?_
      refine AW.seq ?_
      refine AW.region ?_
      refine AWo.go (f := 0) hev (d_moveT rfl) ?_
      refine AWo.go (f := 0) hev (d_assignT rfl) ?_
      refine AWo.nil ?_
      refine AW.region ?_
      refine AWo.go (f := 0) hev (d_fieldAddr rfl fo44_3 rfl) ?_
      refine AWo.go (f := 0) hev (by first | exact d_loadT rfl (ld ty24 rfl rfl) | exact d_load rfl (ld ty24 rfl rfl)) ?_
      refine AWo.go (f := 0) hev (d_moveT rfl) ?_
      refine AWo.go (f := 0) hev (d_indexR rfl rfl ty24 rfl ty31 rfl (by decide) (by rw [List.length_map]; exact hq.symm) hlt) ?_
      refine AWo.go (f := 0) hev (d_fieldAddr rfl fo31_0 (padd rfl)) ?_
      refine AWo.go0 (f := 0) hev (d_store rfl rfl (sta ty9 rfl rfl (by show i * 5 + 0 + 1 ≤ _; rw [List.length_map, hq]; omega))) ?_
      refine AWo.nil ?_
      refine AW.region ?_
      refine AWo.go (f := 0) hev (d_add64 rfl rfl (by omega) (by omega)) ?_
      refine AWo.go (f := 0) hev (d_moveT rfl) ?_
      refine AWo.nil ?_
      exact ⟨(i + 1, setT q (i * 5 + 0) (.str [115, 112, 111, 105, 108, 116])), ⟨hlt, (set_len (by rw [hq]; omega)).trans hq⟩, Nat.sub_lt_sub_left hlt (Nat.lt_succ_self i), Re.sq [.loc [0], .loc [1], .loc [2], .loc [3], .loc [4]] ⟨rfl, rfl, rfl, rfl, rfl, rfl, trivial⟩ ⟨⟨.loc [0], _, rfl, rfl, .inl rfl⟩, ⟨.loc [1], _, rfl, rfl, .inl rfl⟩, ⟨.loc [2], _, rfl, rfl, .inl rfl⟩, ⟨.loc [3], _, rfl, rfl, .inl rfl⟩, ⟨.loc [4], _, rfl, rfl, .inl (rn_row_eq set_map)⟩, trivial⟩ (by decide) rfl rfl (by decide)⟩
    · skip
      refine AW.exit ?_
      refine AW.seq ?_
      refine AW.region ?_
      refine AWo.go (f := 0) hev (by first | exact d_loadT rfl (ld ty36 rfl rfl) | exact d_load rfl (ld ty36 rfl rfl)) ?_
      refine AWo.go (f := 0) hev (by first | exact d_loadT rfl (ld ty36 rfl rfl) | exact d_load rfl (ld ty36 rfl rfl)) ?_
      refine AWo.go (f := 0) hev (d_callT (rh2 rfl rfl) hsame) ?_
      refine AWo.go (f := 0) hev (d_assignT rfl) ?_
      refine AWo.nil ?_
      refine AW.ret ?_
      exact .inl (fin_data rfl rfl)

theorem law_100 {m : Int} (ev : CallF) (hev : CallOk (cf m) ev) (ts cs p1 r1 ps : List Tree) (nm an bn : List UInt8) (ae be : Int) (huP : Uni false 1 ps) (hlP : ps.length ≤ 4194304) (hlive : ev 5 [] [] = some (.ret (.t (.bool true)) [] [])) (hcopy : ev 7 [.t (.agg [.sl ts, .sl cs])] [] = some (.ret (.t (.agg [.sl ts, .sl cs])) [] []))
    (htype : ev 8 [.t (.agg [.sl ts, .sl cs]), .t (.str nm)] [] = some (.ret (.tup [.agg [.t (.str an), .ref (.loc [12, 5]) 0 ps.length, .t (.sl [])], .t (.int .i64 ae)]) [] [(.loc [12, 5], .arr (9, false) 1 false ((flat ps).map .t))])) (haction : ev 9 [.t (.agg [.sl ts, .sl cs]), .t (.str nm)] [] = some (.ret (.t (.tup [.agg [.str bn, .sl p1, .sl r1, .sl []], .int .i64 be])) [] [])) (hsame : ev 10 [.t (.agg [.sl ts, .sl cs]), .t (.agg [.sl ts, .sl cs])] [] = some (.ret (.t (.bool true)) [] [])) :
    CallRel (cf m) 4 [.t (.agg [.sl ts, .sl cs]), .t (.str nm)] [] (.ret (.t (.bool true)) [] []) := by
  refine fn_start2 67 2 Tryz.func4 rfl (by decide) rfl rfl (by decide) ?_
  refine AW.seq ?_
  refine AW.region ?_
  refine AWo.go (f := 0) hev (d_box rfl rfl) ?_
  refine AWo.go (f := 0) hev (d_assignT rfl) ?_
  refine AWo.nil ?_
  refine AW.seq ?_
  refine AW.seq ?_
  refine AW.region ?_
  refine AWo.go (f := 0) hev (d_callT (ts := []) rfl hlive) ?_
  refine AWo.go (f := 0) hev (d_not rfl) ?_
  refine AWo.nil ?_
  refine AW.cond rfl (fun h => absurd h (by decide)) (fun h => ?_)
  refine AW.skip ?_
  refine AW.seq ?_
  refine AW.region ?_
  refine AWo.go (f := 0) hev (by first | exact d_loadT rfl (ld ty36 rfl rfl) | exact d_load rfl (ld ty36 rfl rfl)) ?_
  refine AWo.go (f := 0) hev (d_callT (rh1 rfl) hcopy) ?_
  refine AWo.go (f := 0) hev (d_alloc ty36 rfl rfl) ?_
  refine AWo.go0 (f := 0) hev (d_store rfl rfl (stt ty36 rfl rfl)) ?_
  refine AWo.nil ?_
  refine AW.seq ?_
  refine AW.region ?_
  refine AWo.go (f := 0) hev (by first | exact d_loadT rfl (ld ty36 rfl rfl) | exact d_load rfl (ld ty36 rfl rfl)) ?_
  refine AWo.go (f := 0) hev (d_moveT rfl) ?_
  refine AWo.go (f := 0) hev (d_callN (v' := .tup [.agg [.t (.str an), .ref (.loc [10, 12, 5]) 0 ps.length, .t (.sl [])], .t (.int .i64 ae)]) (news' := [(.loc [10, 12, 5], .arr (9, false) 1 false ((flat ps).map .t))]) (rh2 rfl rfl) htype rfl news_row) ?_
  refine AWo.go (f := 0) hev (by first | exact d_moveT rfl | exact d_move rfl) ?_
  refine AWo.go (f := 0) hev (by first | exact d_extractT rfl rfl | exact d_extract rfl rfl) ?_
  refine AWo.go (f := 0) hev (by first | exact d_extractT rfl rfl | exact d_extract rfl rfl) ?_
  refine AWo.go (f := 0) hev (d_alloc ty40 rfl rfl) ?_
  refine AWo.go0 (f := 0) hev (d_store rfl rfl (stt ty40 rfl rfl)) ?_
  refine AWo.go (f := 0) hev (d_assignT rfl) ?_
  refine AWo.nil ?_
  refine AW.seq ?_
  refine AW.region ?_
  refine AWo.go (f := 0) hev (by first | exact d_loadT rfl (ld ty36 rfl rfl) | exact d_load rfl (ld ty36 rfl rfl)) ?_
  refine AWo.go (f := 0) hev (d_moveT rfl) ?_
  refine AWo.go (f := 0) hev (d_callT (rh2 rfl rfl) haction) ?_
  refine AWo.go (f := 0) hev (by first | exact d_moveT rfl | exact d_move rfl) ?_
  refine AWo.go (f := 0) hev (by first | exact d_extractT rfl rfl | exact d_extract rfl rfl) ?_
  refine AWo.go (f := 0) hev (by first | exact d_extractT rfl rfl | exact d_extract rfl rfl) ?_
  refine AWo.go (f := 0) hev (d_alloc ty44 rfl rfl) ?_
  refine AWo.go0 (f := 0) hev (d_store rfl rfl (stt ty44 rfl rfl)) ?_
  refine AWo.go (f := 0) hev (d_assignT rfl) ?_
  refine AWo.nil ?_
  refine AW.seq ?_
  refine AW.seq ?_
  refine AW.re (st' := ⟨frm 67 [(2, .ptr (.loc [0]) 0), (5, .ptr (.loc [1]) 0), (6, .ptr (.loc [2]) 0), (8, .ptr (.loc [3]) 0)], [(.loc [0], .cells 36 [.t (.sl ts), .t (.sl cs)]), (.loc [1], .cells 36 [.t (.sl ts), .t (.sl cs)]), (.loc [2], .cells 40 [.any, .ref (.loc [4]) 0 ps.length, .t (.sl [])]), (.loc [3], .cells 44 [.any, .any, .any, .t (.sl [])]), (.loc [4], .arr (9, false) 1 false ((flat ps).map .t))], 5⟩) (Re.sq [.loc [0], .loc [6], .loc [14], .loc [23], .loc [10, 12, 5]] ⟨rfl, rfl, rfl, rfl, trivial⟩ ⟨⟨.loc [0], _, rfl, rfl, .inl rfl⟩, ⟨.loc [6], _, rfl, rfl, .inl rfl⟩, ⟨.loc [14], _, rfl, rfl, .inr ⟨_, _, _, rfl, rfl, ⟨.inl rfl, .inr rfl, .inr rfl, trivial⟩⟩⟩, ⟨.loc [23], _, rfl, rfl, .inr ⟨_, _, _, rfl, rfl, ⟨.inl rfl, .inl rfl, .inl rfl, .inr rfl, trivial⟩⟩⟩, ⟨.loc [10, 12, 5], _, rfl, rfl, .inl rn_row⟩, trivial⟩ (by decide) rfl rfl (by decide)) ?_
  refine AW.region ?_
  refine AWo.go (f := 0) hev (d_fieldAddr rfl fo40_1 rfl) ?_
  refine AWo.go (f := 0) hev (by first | exact d_loadT rfl (ld ty38 rfl rfl) | exact d_load rfl (ld ty38 rfl rfl)) ?_
  refine AWo.go (f := 0) hev (by first | exact d_lenT rfl ty38 rfl | exact d_lenR rfl ty38 rfl | exact d_lenN rfl ty38 rfl | exact d_lenG rfl ty38 rfl) ?_
  refine AWo.go (f := 0) hev (d_moveT rfl) ?_
  refine AWo.nil ?_
  refine AW.block ?_
  refine AW.loop (α := Nat × List Tree) (fun x => ⟨frm 67 [(2, .ptr (.loc [0]) 0), (5, .ptr (.loc [1]) 0), (6, .ptr (.loc [2]) 0), (8, .ptr (.loc [3]) 0), (31, .t (.int .i64 ps.length)), (32, .t (.int .i64 x.1))], [(.loc [0], .cells 36 [.t (.sl ts), .t (.sl cs)]), (.loc [1], .cells 36 [.t (.sl ts), .t (.sl cs)]), (.loc [2], .cells 40 [.any, .ref (.loc [4]) 0 ps.length, .t (.sl [])]), (.loc [3], .cells 44 [.any, .any, .any, .t (.sl [])]), (.loc [4], .arr (9, false) 1 false (x.2.map .t))], 5⟩) (fun x => x.1 ≤ ps.length ∧ x.2.length = ps.length * 1) (fun x => ps.length - x.1) (0, flat ps) (Re.sq [.loc [0], .loc [1], .loc [2], .loc [3], .loc [4]] ⟨rfl, rfl, rfl, rfl, rfl, rfl, trivial⟩ ⟨⟨.loc [0], _, rfl, rfl, .inl rfl⟩, ⟨.loc [1], _, rfl, rfl, .inl rfl⟩, ⟨.loc [2], _, rfl, rfl, .inr ⟨_, _, _, rfl, rfl, ⟨.inl rfl, .inr rfl, .inr rfl, trivial⟩⟩⟩, ⟨.loc [3], _, rfl, rfl, .inr ⟨_, _, _, rfl, rfl, ⟨.inl rfl, .inl rfl, .inl rfl, .inr rfl, trivial⟩⟩⟩, ⟨.loc [4], _, rfl, rfl, .inl rn_row⟩, trivial⟩ (by decide) rfl rfl (by decide)) ⟨Nat.zero_le _, flat_length huP.lens⟩ (fun x hx => ?_)
  obtain ⟨i, q⟩ := x
  obtain ⟨hi, hq⟩ := hx
  simp only at hi hq
  show AW _ _ ⟨frm 67 [(2, .ptr (.loc [0]) 0), (5, .ptr (.loc [1]) 0), (6, .ptr (.loc [2]) 0), (8, .ptr (.loc [3]) 0), (31, .t (.int .i64 ps.length)), (32, .t (.int .i64 i))], [(.loc [0], .cells 36 [.t (.sl ts), .t (.sl cs)]), (.loc [1], .cells 36 [.t (.sl ts), .t (.sl cs)]), (.loc [2], .cells 40 [.any, .ref (.loc [4]) 0 ps.length, .t (.sl [])]), (.loc [3], .cells 44 [.any, .any, .any, .t (.sl [])]), (.loc [4], .arr (9, false) 1 false (q.map .t))], 5⟩ _
  refine AW.seq ?_
  refine AW.region ?_
  refine AWo.go (f := 0) hev (d_ltI rfl rfl) ?_
  refine AWo.nil ?_
  refine AW.seq ?_
  refine AW.cond rfl (fun h33 => ?_) (fun h33 => ?_)
  · have hlt : i < ps.length := by have := of_decide_eq_true h33; omega
    refine AW.skip ?_
    refine AW.seq ?_
    refine AW.block ?_
    refine AW.seq ?_
    refine AW.region ?_
    refine AWo.go (f := 0) hev (d_moveT rfl) ?_
    refine AWo.go (f := 0) hev (d_assignT rfl) ?_
    refine AWo.nil ?_
    refine AW.region ?_
    refine AWo.go (f := 0) hev (d_fieldAddr rfl fo40_1 rfl) ?_
    refine AWo.go (f := 0) hev (by first | exact d_loadT rfl (ld ty38 rfl rfl) | exact d_load rfl (ld ty38 rfl rfl)) ?_
    refine AWo.go (f := 0) hev (d_moveT rfl) ?_
    refine AWo.go (f := 0) hev (d_indexR rfl rfl ty38 rfl ty9 rfl (by decide) (by rw [List.length_map]; exact hq.symm) hlt) ?_
    refine AWo.go0 (f := 0) hev (d_store rfl rfl (sta ty9 rfl rfl (by show i * 1 + 1 ≤ _; rw [List.length_map, hq]; omega))) ?_
    refine AWo.nil ?_
    refine AW.region ?_
    refine AWo.go (f := 0) hev (d_add64 rfl rfl (by omega) (by omega)) ?_
    refine AWo.go (f := 0) hev (d_moveT rfl) ?_
    refine AWo.nil ?_
    exact ⟨(i + 1, setT q (i * 1) (.str [115, 112, 111, 105, 108, 116])), ⟨hlt, (set_len (by rw [hq]; omega)).trans hq⟩, Nat.sub_lt_sub_left hlt (Nat.lt_succ_self i), Re.sq [.loc [0], .loc [1], .loc [2], .loc [3], .loc [4]] ⟨rfl, rfl, rfl, rfl, rfl, rfl, trivial⟩ ⟨⟨.loc [0], _, rfl, rfl, .inl rfl⟩, ⟨.loc [1], _, rfl, rfl, .inl rfl⟩, ⟨.loc [2], _, rfl, rfl, .inl rfl⟩, ⟨.loc [3], _, rfl, rfl, .inl rfl⟩, ⟨.loc [4], _, rfl, rfl, .inl (rn_row_eq set_map)⟩, trivial⟩ (by decide) rfl rfl (by decide)⟩
  · skip
    refine AW.exit ?_
    refine AW.seq ?_
    refine AW.seq ?_
    refine AW.region ?_
    refine AWo.go (f := 0) hev (d_fieldAddr rfl fo40_2 rfl) ?_
    refine AWo.go (f := 0) hev (by first | exact d_loadT rfl (ld ty24 rfl rfl) | exact d_load rfl (ld ty24 rfl rfl)) ?_
    refine AWo.go (f := 0) hev (by first | exact d_lenT rfl ty24 rfl | exact d_lenR rfl ty24 rfl | exact d_lenN rfl ty24 rfl | exact d_lenG rfl ty24 rfl) ?_
    refine AWo.go (f := 0) hev (d_moveT rfl) ?_
    refine AWo.nil ?_
    refine AW.block ?_
    refine AW.loop (α := Unit) (fun _ => _) (fun _ => True) (fun _ => 0) () (Re.refl _) trivial (fun _ _ => ?_)
    refine AW.seq ?_
    refine AW.region ?_
    refine AWo.go (f := 0) hev (d_ltI rfl rfl) ?_
    refine AWo.nil ?_
    refine AW.seq ?_
    refine AW.cond rfl (fun h => absurd h (by decide)) (fun h => ?_)
    refine AW.exit ?_
    refine AW.seq ?_
    refine AW.seq ?_
    refine AW.region ?_
    refine AWo.go (f := 0) hev (d_fieldAddr rfl fo44_3 rfl) ?_
    refine AWo.go (f := 0) hev (by first | exact d_loadT rfl (ld ty24 rfl rfl) | exact d_load rfl (ld ty24 rfl rfl)) ?_
    refine AWo.go (f := 0) hev (by first | exact d_lenT rfl ty24 rfl | exact d_lenR rfl ty24 rfl | exact d_lenN rfl ty24 rfl | exact d_lenG rfl ty24 rfl) ?_
    refine AWo.go (f := 0) hev (d_moveT rfl) ?_
    refine AWo.nil ?_
    refine AW.block ?_
    refine AW.loop (α := Unit) (fun _ => _) (fun _ => True) (fun _ => 0) () (Re.refl _) trivial (fun _ _ => ?_)
    refine AW.seq ?_
    refine AW.region ?_
    refine AWo.go (f := 0) hev (d_ltI rfl rfl) ?_
    refine AWo.nil ?_
    refine AW.seq ?_
    refine AW.cond rfl (fun h => absurd h (by decide)) (fun h => ?_)
    refine AW.exit ?_
    refine AW.seq ?_
    refine AW.region ?_
    refine AWo.go (f := 0) hev (by first | exact d_loadT rfl (ld ty36 rfl rfl) | exact d_load rfl (ld ty36 rfl rfl)) ?_
    refine AWo.go (f := 0) hev (by first | exact d_loadT rfl (ld ty36 rfl rfl) | exact d_load rfl (ld ty36 rfl rfl)) ?_
    refine AWo.go (f := 0) hev (d_callT (rh2 rfl rfl) hsame) ?_
    refine AWo.go (f := 0) hev (d_assignT rfl) ?_
    refine AWo.nil ?_
    refine AW.ret ?_
    exact .inl (fin_data rfl rfl)

theorem law_101 {m : Int} (ev : CallF) (hev : CallOk (cf m) ev) (ts cs p1 r1 ps ds : List Tree) (nm an bn : List UInt8) (ae be : Int) (huP : Uni false 1 ps) (hlP : ps.length ≤ 4194304) (huC : Uni true 5 ds) (hlC : ds.length ≤ 4194304) (hlive : ev 5 [] [] = some (.ret (.t (.bool true)) [] [])) (hcopy : ev 7 [.t (.agg [.sl ts, .sl cs])] [] = some (.ret (.t (.agg [.sl ts, .sl cs])) [] []))
    (htype : ev 8 [.t (.agg [.sl ts, .sl cs]), .t (.str nm)] [] = some (.ret (.tup [.agg [.t (.str an), .ref (.loc [12, 5]) 0 ps.length, .t (.sl [])], .t (.int .i64 ae)]) [] [(.loc [12, 5], .arr (9, false) 1 false ((flat ps).map .t))])) (haction : ev 9 [.t (.agg [.sl ts, .sl cs]), .t (.str nm)] [] = some (.ret (.tup [.agg [.t (.str bn), .t (.sl p1), .t (.sl r1), .ref (.loc [18, 0]) 0 ds.length], .t (.int .i64 be)]) [] [(.loc [18, 0], .arr (31, true) 5 false ((flat ds).map .t))])) (hsame : ev 10 [.t (.agg [.sl ts, .sl cs]), .t (.agg [.sl ts, .sl cs])] [] = some (.ret (.t (.bool true)) [] [])) :
    CallRel (cf m) 4 [.t (.agg [.sl ts, .sl cs]), .t (.str nm)] [] (.ret (.t (.bool true)) [] []) := by
  refine fn_start2 67 2 Tryz.func4 rfl (by decide) rfl rfl (by decide) ?_
  refine AW.seq ?_
  refine AW.region ?_
  refine AWo.go (f := 0) hev (d_box rfl rfl) ?_
  refine AWo.go (f := 0) hev (d_assignT rfl) ?_
  refine AWo.nil ?_
  refine AW.seq ?_
  refine AW.seq ?_
  refine AW.region ?_
  refine AWo.go (f := 0) hev (d_callT (ts := []) rfl hlive) ?_
  refine AWo.go (f := 0) hev (d_not rfl) ?_
  refine AWo.nil ?_
  refine AW.cond rfl (fun h => absurd h (by decide)) (fun h => ?_)
  refine AW.skip ?_
  refine AW.seq ?_
  refine AW.region ?_
  refine AWo.go (f := 0) hev (by first | exact d_loadT rfl (ld ty36 rfl rfl) | exact d_load rfl (ld ty36 rfl rfl)) ?_
  refine AWo.go (f := 0) hev (d_callT (rh1 rfl) hcopy) ?_
  refine AWo.go (f := 0) hev (d_alloc ty36 rfl rfl) ?_
  refine AWo.go0 (f := 0) hev (d_store rfl rfl (stt ty36 rfl rfl)) ?_
  refine AWo.nil ?_
  refine AW.seq ?_
  refine AW.region ?_
  refine AWo.go (f := 0) hev (by first | exact d_loadT rfl (ld ty36 rfl rfl) | exact d_load rfl (ld ty36 rfl rfl)) ?_
  refine AWo.go (f := 0) hev (d_moveT rfl) ?_
  refine AWo.go (f := 0) hev (d_callN (v' := .tup [.agg [.t (.str an), .ref (.loc [10, 12, 5]) 0 ps.length, .t (.sl [])], .t (.int .i64 ae)]) (news' := [(.loc [10, 12, 5], .arr (9, false) 1 false ((flat ps).map .t))]) (rh2 rfl rfl) htype rfl news_row) ?_
  refine AWo.go (f := 0) hev (by first | exact d_moveT rfl | exact d_move rfl) ?_
  refine AWo.go (f := 0) hev (by first | exact d_extractT rfl rfl | exact d_extract rfl rfl) ?_
  refine AWo.go (f := 0) hev (by first | exact d_extractT rfl rfl | exact d_extract rfl rfl) ?_
  refine AWo.go (f := 0) hev (d_alloc ty40 rfl rfl) ?_
  refine AWo.go0 (f := 0) hev (d_store rfl rfl (stt ty40 rfl rfl)) ?_
  refine AWo.go (f := 0) hev (d_assignT rfl) ?_
  refine AWo.nil ?_
  refine AW.seq ?_
  refine AW.region ?_
  refine AWo.go (f := 0) hev (by first | exact d_loadT rfl (ld ty36 rfl rfl) | exact d_load rfl (ld ty36 rfl rfl)) ?_
  refine AWo.go (f := 0) hev (d_moveT rfl) ?_
  refine AWo.go (f := 0) hev (d_callN (v' := .tup [.agg [.t (.str bn), .t (.sl p1), .t (.sl r1), .ref (.loc [19, 18, 0]) 0 ds.length], .t (.int .i64 be)]) (news' := [(.loc [19, 18, 0], .arr (31, true) 5 false ((flat ds).map .t))]) (rh2 rfl rfl) haction rfl news_row) ?_
  refine AWo.go (f := 0) hev (by first | exact d_moveT rfl | exact d_move rfl) ?_
  refine AWo.go (f := 0) hev (by first | exact d_extractT rfl rfl | exact d_extract rfl rfl) ?_
  refine AWo.go (f := 0) hev (by first | exact d_extractT rfl rfl | exact d_extract rfl rfl) ?_
  refine AWo.go (f := 0) hev (d_alloc ty44 rfl rfl) ?_
  refine AWo.go0 (f := 0) hev (d_store rfl rfl (stt ty44 rfl rfl)) ?_
  refine AWo.go (f := 0) hev (d_assignT rfl) ?_
  refine AWo.nil ?_
  refine AW.seq ?_
  refine AW.seq ?_
  refine AW.re (st' := ⟨frm 67 [(2, .ptr (.loc [0]) 0), (5, .ptr (.loc [1]) 0), (6, .ptr (.loc [2]) 0), (8, .ptr (.loc [3]) 0)], [(.loc [0], .cells 36 [.t (.sl ts), .t (.sl cs)]), (.loc [1], .cells 36 [.t (.sl ts), .t (.sl cs)]), (.loc [2], .cells 40 [.any, .ref (.loc [4]) 0 ps.length, .t (.sl [])]), (.loc [3], .cells 44 [.any, .any, .any, .ref (.loc [5]) 0 ds.length]), (.loc [4], .arr (9, false) 1 false ((flat ps).map .t)), (.loc [5], .arr (31, true) 5 false ((flat ds).map .t))], 6⟩) (Re.sq [.loc [0], .loc [6], .loc [14], .loc [23], .loc [10, 12, 5], .loc [19, 18, 0]] ⟨rfl, rfl, rfl, rfl, trivial⟩ ⟨⟨.loc [0], _, rfl, rfl, .inl rfl⟩, ⟨.loc [6], _, rfl, rfl, .inl rfl⟩, ⟨.loc [14], _, rfl, rfl, .inr ⟨_, _, _, rfl, rfl, ⟨.inl rfl, .inr rfl, .inr rfl, trivial⟩⟩⟩, ⟨.loc [23], _, rfl, rfl, .inr ⟨_, _, _, rfl, rfl, ⟨.inl rfl, .inl rfl, .inl rfl, .inr rfl, trivial⟩⟩⟩, ⟨.loc [10, 12, 5], _, rfl, rfl, .inl rn_row⟩, ⟨.loc [19, 18, 0], _, rfl, rfl, .inl rn_row⟩, trivial⟩ (by decide) rfl rfl (by decide)) ?_
  refine AW.region ?_
  refine AWo.go (f := 0) hev (d_fieldAddr rfl fo40_1 rfl) ?_
  refine AWo.go (f := 0) hev (by first | exact d_loadT rfl (ld ty38 rfl rfl) | exact d_load rfl (ld ty38 rfl rfl)) ?_
  refine AWo.go (f := 0) hev (by first | exact d_lenT rfl ty38 rfl | exact d_lenR rfl ty38 rfl | exact d_lenN rfl ty38 rfl | exact d_lenG rfl ty38 rfl) ?_
  refine AWo.go (f := 0) hev (d_moveT rfl) ?_
  refine AWo.nil ?_
  refine AW.block ?_
  refine AW.loop (α := Nat × List Tree) (fun x => ⟨frm 67 [(2, .ptr (.loc [0]) 0), (5, .ptr (.loc [1]) 0), (6, .ptr (.loc [2]) 0), (8, .ptr (.loc [3]) 0), (31, .t (.int .i64 ps.length)), (32, .t (.int .i64 x.1))], [(.loc [0], .cells 36 [.t (.sl ts), .t (.sl cs)]), (.loc [1], .cells 36 [.t (.sl ts), .t (.sl cs)]), (.loc [2], .cells 40 [.any, .ref (.loc [4]) 0 ps.length, .t (.sl [])]), (.loc [3], .cells 44 [.any, .any, .any, .ref (.loc [5]) 0 ds.length]), (.loc [4], .arr (9, false) 1 false (x.2.map .t)), (.loc [5], .arr (31, true) 5 false ((flat ds).map .t))], 6⟩) (fun x => x.1 ≤ ps.length ∧ x.2.length = ps.length * 1) (fun x => ps.length - x.1) (0, flat ps) (Re.sq [.loc [0], .loc [1], .loc [2], .loc [3], .loc [4], .loc [5]] ⟨rfl, rfl, rfl, rfl, rfl, rfl, trivial⟩ ⟨⟨.loc [0], _, rfl, rfl, .inl rfl⟩, ⟨.loc [1], _, rfl, rfl, .inl rfl⟩, ⟨.loc [2], _, rfl, rfl, .inr ⟨_, _, _, rfl, rfl, ⟨.inl rfl, .inr rfl, .inr rfl, trivial⟩⟩⟩, ⟨.loc [3], _, rfl, rfl, .inr ⟨_, _, _, rfl, rfl, ⟨.inl rfl, .inl rfl, .inl rfl, .inr rfl, trivial⟩⟩⟩, ⟨.loc [4], _, rfl, rfl, .inl rn_row⟩, ⟨.loc [5], _, rfl, rfl, .inl rn_row⟩, trivial⟩ (by decide) rfl rfl (by decide)) ⟨Nat.zero_le _, flat_length huP.lens⟩ (fun x hx => ?_)
  obtain ⟨i, q⟩ := x
  obtain ⟨hi, hq⟩ := hx
  simp only at hi hq
  show AW _ _ ⟨frm 67 [(2, .ptr (.loc [0]) 0), (5, .ptr (.loc [1]) 0), (6, .ptr (.loc [2]) 0), (8, .ptr (.loc [3]) 0), (31, .t (.int .i64 ps.length)), (32, .t (.int .i64 i))], [(.loc [0], .cells 36 [.t (.sl ts), .t (.sl cs)]), (.loc [1], .cells 36 [.t (.sl ts), .t (.sl cs)]), (.loc [2], .cells 40 [.any, .ref (.loc [4]) 0 ps.length, .t (.sl [])]), (.loc [3], .cells 44 [.any, .any, .any, .ref (.loc [5]) 0 ds.length]), (.loc [4], .arr (9, false) 1 false (q.map .t)), (.loc [5], .arr (31, true) 5 false ((flat ds).map .t))], 6⟩ _
  refine AW.seq ?_
  refine AW.region ?_
  refine AWo.go (f := 0) hev (d_ltI rfl rfl) ?_
  refine AWo.nil ?_
  refine AW.seq ?_
  refine AW.cond rfl (fun h33 => ?_) (fun h33 => ?_)
  · have hlt : i < ps.length := by have := of_decide_eq_true h33; omega
    refine AW.skip ?_
    refine AW.seq ?_
    refine AW.block ?_
    refine AW.seq ?_
    refine AW.region ?_
    refine AWo.go (f := 0) hev (d_moveT rfl) ?_
    refine AWo.go (f := 0) hev (d_assignT rfl) ?_
    refine AWo.nil ?_
    refine AW.region ?_
    refine AWo.go (f := 0) hev (d_fieldAddr rfl fo40_1 rfl) ?_
    refine AWo.go (f := 0) hev (by first | exact d_loadT rfl (ld ty38 rfl rfl) | exact d_load rfl (ld ty38 rfl rfl)) ?_
    refine AWo.go (f := 0) hev (d_moveT rfl) ?_
    refine AWo.go (f := 0) hev (d_indexR rfl rfl ty38 rfl ty9 rfl (by decide) (by rw [List.length_map]; exact hq.symm) hlt) ?_
    refine AWo.go0 (f := 0) hev (d_store rfl rfl (sta ty9 rfl rfl (by show i * 1 + 1 ≤ _; rw [List.length_map, hq]; omega))) ?_
    refine AWo.nil ?_
    refine AW.region ?_
    refine AWo.go (f := 0) hev (d_add64 rfl rfl (by omega) (by omega)) ?_
    refine AWo.go (f := 0) hev (d_moveT rfl) ?_
    refine AWo.nil ?_
    exact ⟨(i + 1, setT q (i * 1) (.str [115, 112, 111, 105, 108, 116])), ⟨hlt, (set_len (by rw [hq]; omega)).trans hq⟩, Nat.sub_lt_sub_left hlt (Nat.lt_succ_self i), Re.sq [.loc [0], .loc [1], .loc [2], .loc [3], .loc [4], .loc [5]] ⟨rfl, rfl, rfl, rfl, rfl, rfl, trivial⟩ ⟨⟨.loc [0], _, rfl, rfl, .inl rfl⟩, ⟨.loc [1], _, rfl, rfl, .inl rfl⟩, ⟨.loc [2], _, rfl, rfl, .inl rfl⟩, ⟨.loc [3], _, rfl, rfl, .inl rfl⟩, ⟨.loc [4], _, rfl, rfl, .inl (rn_row_eq set_map)⟩, ⟨.loc [5], _, rfl, rfl, .inl rn_row⟩, trivial⟩ (by decide) rfl rfl (by decide)⟩
  · skip
    refine AW.exit ?_
    refine AW.seq ?_
    refine AW.seq ?_
    refine AW.region ?_
    refine AWo.go (f := 0) hev (d_fieldAddr rfl fo40_2 rfl) ?_
    refine AWo.go (f := 0) hev (by first | exact d_loadT rfl (ld ty24 rfl rfl) | exact d_load rfl (ld ty24 rfl rfl)) ?_
    refine AWo.go (f := 0) hev (by first | exact d_lenT rfl ty24 rfl | exact d_lenR rfl ty24 rfl | exact d_lenN rfl ty24 rfl | exact d_lenG rfl ty24 rfl) ?_
    refine AWo.go (f := 0) hev (d_moveT rfl) ?_
    refine AWo.nil ?_
    refine AW.block ?_
    refine AW.loop (α := Unit) (fun _ => _) (fun _ => True) (fun _ => 0) () (Re.refl _) trivial (fun _ _ => ?_)
    refine AW.seq ?_
    refine AW.region ?_
    refine AWo.go (f := 0) hev (d_ltI rfl rfl) ?_
    refine AWo.nil ?_
    refine AW.seq ?_
    refine AW.cond rfl (fun h => absurd h (by decide)) (fun h => ?_)
    refine AW.exit ?_
    refine AW.seq ?_
    refine AW.seq ?_
    refine AW.region ?_
    refine AWo.go (f := 0) hev (d_fieldAddr rfl fo44_3 rfl) ?_
    refine AWo.go (f := 0) hev (by first | exact d_loadT rfl (ld ty24 rfl rfl) | exact d_load rfl (ld ty24 rfl rfl)) ?_
    refine AWo.go (f := 0) hev (by first | exact d_lenT rfl ty24 rfl | exact d_lenR rfl ty24 rfl | exact d_lenN rfl ty24 rfl | exact d_lenG rfl ty24 rfl) ?_
    refine AWo.go (f := 0) hev (d_moveT rfl) ?_
    refine AWo.nil ?_
    refine AW.block ?_
    refine AW.loop (α := Nat × List Tree) (fun x => ⟨frm 67 [(2, .ptr (.loc [0]) 0), (5, .ptr (.loc [1]) 0), (6, .ptr (.loc [2]) 0), (8, .ptr (.loc [3]) 0), (54, .t (.int .i64 ds.length)), (55, .t (.int .i64 x.1))], [(.loc [0], .cells 36 [.t (.sl ts), .t (.sl cs)]), (.loc [1], .cells 36 [.t (.sl ts), .t (.sl cs)]), (.loc [2], .cells 40 [.any, .any, .t (.sl [])]), (.loc [3], .cells 44 [.any, .any, .any, .ref (.loc [4]) 0 ds.length]), (.loc [4], .arr (31, true) 5 false (x.2.map .t))], 5⟩) (fun x => x.1 ≤ ds.length ∧ x.2.length = ds.length * 5) (fun x => ds.length - x.1) (0, flat ds) (Re.sq [.loc [0], .loc [1], .loc [2], .loc [3], .loc [5]] ⟨rfl, rfl, rfl, rfl, rfl, rfl, trivial⟩ ⟨⟨.loc [0], _, rfl, rfl, .inl rfl⟩, ⟨.loc [1], _, rfl, rfl, .inl rfl⟩, ⟨.loc [2], _, rfl, rfl, .inr ⟨_, _, _, rfl, rfl, ⟨.inl rfl, .inl rfl, .inr rfl, trivial⟩⟩⟩, ⟨.loc [3], _, rfl, rfl, .inr ⟨_, _, _, rfl, rfl, ⟨.inl rfl, .inl rfl, .inl rfl, .inr rfl, trivial⟩⟩⟩, ⟨.loc [5], _, rfl, rfl, .inl rn_row⟩, trivial⟩ (by decide) rfl rfl (by decide)) ⟨Nat.zero_le _, flat_length huC.lens⟩ (fun x hx => ?_)
    obtain ⟨i, q⟩ := x
    obtain ⟨hi, hq⟩ := hx
    simp only at hi hq
    show AW _ _ ⟨frm 67 [(2, .ptr (.loc [0]) 0), (5, .ptr (.loc [1]) 0), (6, .ptr (.loc [2]) 0), (8, .ptr (.loc [3]) 0), (54, .t (.int .i64 ds.length)), (55, .t (.int .i64 i))], [(.loc [0], .cells 36 [.t (.sl ts), .t (.sl cs)]), (.loc [1], .cells 36 [.t (.sl ts), .t (.sl cs)]), (.loc [2], .cells 40 [.any, .any, .t (.sl [])]), (.loc [3], .cells 44 [.any, .any, .any, .ref (.loc [4]) 0 ds.length]), (.loc [4], .arr (31, true) 5 false (q.map .t))], 5⟩ _
    refine AW.seq ?_
    refine AW.region ?_
    refine AWo.go (f := 0) hev (d_ltI rfl rfl) ?_
    refine AWo.nil ?_
    refine AW.seq ?_
    refine AW.cond rfl (fun h56 => ?_) (fun h56 => ?_)
    · have hlt : i < ds.length := by have := of_decide_eq_true h56; omega
      refine AW.skip ?_
      refine AW.seq ?_
      refine AW.block ?_
      refine AW.seq ?_
      refine AW.region ?_
      refine AWo.go (f := 0) hev (d_moveT rfl) ?_
      refine AWo.go (f := 0) hev (d_assignT rfl) ?_
      refine AWo.nil ?_
      refine AW.region ?_
      refine AWo.go (f := 0) hev (d_fieldAddr rfl fo44_3 rfl) ?_
      refine AWo.go (f := 0) hev (by first | exact d_loadT rfl (ld ty24 rfl rfl) | exact d_load rfl (ld ty24 rfl rfl)) ?_
      refine AWo.go (f := 0) hev (d_moveT rfl) ?_
      refine AWo.go (f := 0) hev (d_indexR rfl rfl ty24 rfl ty31 rfl (by decide) (by rw [List.length_map]; exact hq.symm) hlt) ?_
      refine AWo.go (f := 0) hev (d_fieldAddr rfl fo31_0 (padd rfl)) ?_
      refine AWo.go0 (f := 0) hev (d_store rfl rfl (sta ty9 rfl rfl (by show i * 5 + 0 + 1 ≤ _; rw [List.length_map, hq]; omega))) ?_
      refine AWo.nil ?_
      refine AW.region ?_
      refine AWo.go (f := 0) hev (d_add64 rfl rfl (by omega) (by omega)) ?_
      refine AWo.go (f := 0) hev (d_moveT rfl) ?_
      refine AWo.nil ?_
      exact ⟨(i + 1, setT q (i * 5 + 0) (.str [115, 112, 111, 105, 108, 116])), ⟨hlt, (set_len (by rw [hq]; omega)).trans hq⟩, Nat.sub_lt_sub_left hlt (Nat.lt_succ_self i), Re.sq [.loc [0], .loc [1], .loc [2], .loc [3], .loc [4]] ⟨rfl, rfl, rfl, rfl, rfl, rfl, trivial⟩ ⟨⟨.loc [0], _, rfl, rfl, .inl rfl⟩, ⟨.loc [1], _, rfl, rfl, .inl rfl⟩, ⟨.loc [2], _, rfl, rfl, .inl rfl⟩, ⟨.loc [3], _, rfl, rfl, .inl rfl⟩, ⟨.loc [4], _, rfl, rfl, .inl (rn_row_eq set_map)⟩, trivial⟩ (by decide) rfl rfl (by decide)⟩
    · skip
      refine AW.exit ?_
      refine AW.seq ?_
      refine AW.region ?_
      refine AWo.go (f := 0) hev (by first | exact d_loadT rfl (ld ty36 rfl rfl) | exact d_load rfl (ld ty36 rfl rfl)) ?_
      refine AWo.go (f := 0) hev (by first | exact d_loadT rfl (ld ty36 rfl rfl) | exact d_load rfl (ld ty36 rfl rfl)) ?_
      refine AWo.go (f := 0) hev (d_callT (rh2 rfl rfl) hsame) ?_
      refine AWo.go (f := 0) hev (d_assignT rfl) ?_
      refine AWo.nil ?_
      refine AW.ret ?_
      exact .inl (fin_data rfl rfl)

theorem law_110 {m : Int} (ev : CallF) (hev : CallOk (cf m) ev) (ts cs p1 r1 ps bs : List Tree) (nm an bn : List UInt8) (ae be : Int) (huP : Uni false 1 ps) (hlP : ps.length ≤ 4194304) (huQ : Uni true 5 bs) (hlQ : bs.length ≤ 4194304) (hlive : ev 5 [] [] = some (.ret (.t (.bool true)) [] [])) (hcopy : ev 7 [.t (.agg [.sl ts, .sl cs])] [] = some (.ret (.t (.agg [.sl ts, .sl cs])) [] []))
    (htype : ev 8 [.t (.agg [.sl ts, .sl cs]), .t (.str nm)] [] = some (.ret (.tup [.agg [.t (.str an), .ref (.loc [12, 5]) 0 ps.length, .ref (.loc [15, 0]) 0 bs.length], .t (.int .i64 ae)]) [] [(.loc [12, 5], .arr (9, false) 1 false ((flat ps).map .t)), (.loc [15, 0], .arr (31, true) 5 false ((flat bs).map .t))])) (haction : ev 9 [.t (.agg [.sl ts, .sl cs]), .t (.str nm)] [] = some (.ret (.t (.tup [.agg [.str bn, .sl p1, .sl r1, .sl []], .int .i64 be])) [] [])) (hsame : ev 10 [.t (.agg [.sl ts, .sl cs]), .t (.agg [.sl ts, .sl cs])] [] = some (.ret (.t (.bool true)) [] [])) :
    CallRel (cf m) 4 [.t (.agg [.sl ts, .sl cs]), .t (.str nm)] [] (.ret (.t (.bool true)) [] []) := by
  refine fn_start2 67 2 Tryz.func4 rfl (by decide) rfl rfl (by decide) ?_
  refine AW.seq ?_
  refine AW.region ?_
  refine AWo.go (f := 0) hev (d_box rfl rfl) ?_
  refine AWo.go (f := 0) hev (d_assignT rfl) ?_
  refine AWo.nil ?_
  refine AW.seq ?_
  refine AW.seq ?_
  refine AW.region ?_
  refine AWo.go (f := 0) hev (d_callT (ts := []) rfl hlive) ?_
  refine AWo.go (f := 0) hev (d_not rfl) ?_
  refine AWo.nil ?_
  refine AW.cond rfl (fun h => absurd h (by decide)) (fun h => ?_)
  refine AW.skip ?_
  refine AW.seq ?_
  refine AW.region ?_
  refine AWo.go (f := 0) hev (by first | exact d_loadT rfl (ld ty36 rfl rfl) | exact d_load rfl (ld ty36 rfl rfl)) ?_
  refine AWo.go (f := 0) hev (d_callT (rh1 rfl) hcopy) ?_
  refine AWo.go (f := 0) hev (d_alloc ty36 rfl rfl) ?_
  refine AWo.go0 (f := 0) hev (d_store rfl rfl (stt ty36 rfl rfl)) ?_
  refine AWo.nil ?_
  refine AW.seq ?_
  refine AW.region ?_
  refine AWo.go (f := 0) hev (by first | exact d_loadT rfl (ld ty36 rfl rfl) | exact d_load rfl (ld ty36 rfl rfl)) ?_
  refine AWo.go (f := 0) hev (d_moveT rfl) ?_
  refine AWo.go (f := 0) hev (d_callN (v' := .tup [.agg [.t (.str an), .ref (.loc [10, 12, 5]) 0 ps.length, .ref (.loc [10, 15, 0]) 0 bs.length], .t (.int .i64 ae)]) (news' := [(.loc [10, 12, 5], .arr (9, false) 1 false ((flat ps).map .t)), (.loc [10, 15, 0], .arr (31, true) 5 false ((flat bs).map .t))]) (rh2 rfl rfl) htype rfl news_row2) ?_
  refine AWo.go (f := 0) hev (by first | exact d_moveT rfl | exact d_move rfl) ?_
  refine AWo.go (f := 0) hev (by first | exact d_extractT rfl rfl | exact d_extract rfl rfl) ?_
  refine AWo.go (f := 0) hev (by first | exact d_extractT rfl rfl | exact d_extract rfl rfl) ?_
  refine AWo.go (f := 0) hev (d_alloc ty40 rfl rfl) ?_
  refine AWo.go0 (f := 0) hev (d_store rfl rfl (stt ty40 rfl rfl)) ?_
  refine AWo.go (f := 0) hev (d_assignT rfl) ?_
  refine AWo.nil ?_
  refine AW.seq ?_
  refine AW.region ?_
  refine AWo.go (f := 0) hev (by first | exact d_loadT rfl (ld ty36 rfl rfl) | exact d_load rfl (ld ty36 rfl rfl)) ?_
  refine AWo.go (f := 0) hev (d_moveT rfl) ?_
  refine AWo.go (f := 0) hev (d_callT (rh2 rfl rfl) haction) ?_
  refine AWo.go (f := 0) hev (by first | exact d_moveT rfl | exact d_move rfl) ?_
  refine AWo.go (f := 0) hev (by first | exact d_extractT rfl rfl | exact d_extract rfl rfl) ?_
  refine AWo.go (f := 0) hev (by first | exact d_extractT rfl rfl | exact d_extract rfl rfl) ?_
  refine AWo.go (f := 0) hev (d_alloc ty44 rfl rfl) ?_
  refine AWo.go0 (f := 0) hev (d_store rfl rfl (stt ty44 rfl rfl)) ?_
  refine AWo.go (f := 0) hev (d_assignT rfl) ?_
  refine AWo.nil ?_
  refine AW.seq ?_
  refine AW.seq ?_
  refine AW.re (st' := ⟨frm 67 [(2, .ptr (.loc [0]) 0), (5, .ptr (.loc [1]) 0), (6, .ptr (.loc [2]) 0), (8, .ptr (.loc [3]) 0)], [(.loc [0], .cells 36 [.t (.sl ts), .t (.sl cs)]), (.loc [1], .cells 36 [.t (.sl ts), .t (.sl cs)]), (.loc [2], .cells 40 [.any, .ref (.loc [4]) 0 ps.length, .ref (.loc [5]) 0 bs.length]), (.loc [3], .cells 44 [.any, .any, .any, .t (.sl [])]), (.loc [4], .arr (9, false) 1 false ((flat ps).map .t)), (.loc [5], .arr (31, true) 5 false ((flat bs).map .t))], 6⟩) (Re.sq [.loc [0], .loc [6], .loc [14], .loc [23], .loc [10, 12, 5], .loc [10, 15, 0]] ⟨rfl, rfl, rfl, rfl, trivial⟩ ⟨⟨.loc [0], _, rfl, rfl, .inl rfl⟩, ⟨.loc [6], _, rfl, rfl, .inl rfl⟩, ⟨.loc [14], _, rfl, rfl, .inr ⟨_, _, _, rfl, rfl, ⟨.inl rfl, .inr rfl, .inr rfl, trivial⟩⟩⟩, ⟨.loc [23], _, rfl, rfl, .inr ⟨_, _, _, rfl, rfl, ⟨.inl rfl, .inl rfl, .inl rfl, .inr rfl, trivial⟩⟩⟩, ⟨.loc [10, 12, 5], _, rfl, rfl, .inl rn_row⟩, ⟨.loc [10, 15, 0], _, rfl, rfl, .inl rn_row⟩, trivial⟩ (by decide) rfl rfl (by decide)) ?_
  refine AW.region ?_
  refine AWo.go (f := 0) hev (d_fieldAddr rfl fo40_1 rfl) ?_
  refine AWo.go (f := 0) hev (by first | exact d_loadT rfl (ld ty38 rfl rfl) | exact d_load rfl (ld ty38 rfl rfl)) ?_
  refine AWo.go (f := 0) hev (by first | exact d_lenT rfl ty38 rfl | exact d_lenR rfl ty38 rfl | exact d_lenN rfl ty38 rfl | exact d_lenG rfl ty38 rfl) ?_
  refine AWo.go (f := 0) hev (d_moveT rfl) ?_
  refine AWo.nil ?_
  refine AW.block ?_
  refine AW.loop (α := Nat × List Tree) (fun x => ⟨frm 67 [(2, .ptr (.loc [0]) 0), (5, .ptr (.loc [1]) 0), (6, .ptr (.loc [2]) 0), (8, .ptr (.loc [3]) 0), (31, .t (.int .i64 ps.length)), (32, .t (.int .i64 x.1))], [(.loc [0], .cells 36 [.t (.sl ts), .t (.sl cs)]), (.loc [1], .cells 36 [.t (.sl ts), .t (.sl cs)]), (.loc [2], .cells 40 [.any, .ref (.loc [4]) 0 ps.length, .ref (.loc [5]) 0 bs.length]), (.loc [3], .cells 44 [.any, .any, .any, .t (.sl [])]), (.loc [4], .arr (9, false) 1 false (x.2.map .t)), (.loc [5], .arr (31, true) 5 false ((flat bs).map .t))], 6⟩) (fun x => x.1 ≤ ps.length ∧ x.2.length = ps.length * 1) (fun x => ps.length - x.1) (0, flat ps) (Re.sq [.loc [0], .loc [1], .loc [2], .loc [3], .loc [4], .loc [5]] ⟨rfl, rfl, rfl, rfl, rfl, rfl, trivial⟩ ⟨⟨.loc [0], _, rfl, rfl, .inl rfl⟩, ⟨.loc [1], _, rfl, rfl, .inl rfl⟩, ⟨.loc [2], _, rfl, rfl, .inr ⟨_, _, _, rfl, rfl, ⟨.inl rfl, .inr rfl, .inr rfl, trivial⟩⟩⟩, ⟨.loc [3], _, rfl, rfl, .inr ⟨_, _, _, rfl, rfl, ⟨.inl rfl, .inl rfl, .inl rfl, .inr rfl, trivial⟩⟩⟩, ⟨.loc [4], _, rfl, rfl, .inl rn_row⟩, ⟨.loc [5], _, rfl, rfl, .inl rn_row⟩, trivial⟩ (by decide) rfl rfl (by decide)) ⟨Nat.zero_le _, flat_length huP.lens⟩ (fun x hx => ?_)
  obtain ⟨i, q⟩ := x
  obtain ⟨hi, hq⟩ := hx
  simp only at hi hq
  show AW _ _ ⟨frm 67 [(2, .ptr (.loc [0]) 0), (5, .ptr (.loc [1]) 0), (6, .ptr (.loc [2]) 0), (8, .ptr (.loc [3]) 0), (31, .t (.int .i64 ps.length)), (32, .t (.int .i64 i))], [(.loc [0], .cells 36 [.t (.sl ts), .t (.sl cs)]), (.loc [1], .cells 36 [.t (.sl ts), .t (.sl cs)]), (.loc [2], .cells 40 [.any, .ref (.loc [4]) 0 ps.length, .ref (.loc [5]) 0 bs.length]), (.loc [3], .cells 44 [.any, .any, .any, .t (.sl [])]), (.loc [4], .arr (9, false) 1 false (q.map .t)), (.loc [5], .arr (31, true) 5 false ((flat bs).map .t))], 6⟩ _
  refine AW.seq ?_
  refine AW.region ?_
  refine AWo.go (f := 0) hev (d_ltI rfl rfl) ?_
  refine AWo.nil ?_
  refine AW.seq ?_
  refine AW.cond rfl (fun h33 => ?_) (fun h33 => ?_)
  · have hlt : i < ps.length := by have := of_decide_eq_true h33; omega
    refine AW.skip ?_
    refine AW.seq ?_
    refine AW.block ?_
    refine AW.seq ?_
    refine AW.region ?_
    refine AWo.go (f := 0) hev (d_moveT rfl) ?_
    refine AWo.go (f := 0) hev (d_assignT rfl) ?_
    refine AWo.nil ?_
    refine AW.region ?_
    refine AWo.go (f := 0) hev (d_fieldAddr rfl fo40_1 rfl) ?_
    refine AWo.go (f := 0) hev (by first | exact d_loadT rfl (ld ty38 rfl rfl) | exact d_load rfl (ld ty38 rfl rfl)) ?_
    refine AWo.go (f := 0) hev (d_moveT rfl) ?_
    refine AWo.go (f := 0) hev (d_indexR rfl rfl ty38 rfl ty9 rfl (by decide) (by rw [List.length_map]; exact hq.symm) hlt) ?_
    refine AWo.go0 (f := 0) hev (d_store rfl rfl (sta ty9 rfl rfl (by show i * 1 + 1 ≤ _; rw [List.length_map, hq]; omega))) ?_
    refine AWo.nil ?_
    refine AW.region ?_
    refine AWo.go (f := 0) hev (d_add64 rfl rfl (by omega) (by omega)) ?_
    refine AWo.go (f := 0) hev (d_moveT rfl) ?_
    refine AWo.nil ?_
    exact ⟨(i + 1, setT q (i * 1) (.str [115, 112, 111, 105, 108, 116])), ⟨hlt, (set_len (by rw [hq]; omega)).trans hq⟩, Nat.sub_lt_sub_left hlt (Nat.lt_succ_self i), Re.sq [.loc [0], .loc [1], .loc [2], .loc [3], .loc [4], .loc [5]] ⟨rfl, rfl, rfl, rfl, rfl, rfl, trivial⟩ ⟨⟨.loc [0], _, rfl, rfl, .inl rfl⟩, ⟨.loc [1], _, rfl, rfl, .inl rfl⟩, ⟨.loc [2], _, rfl, rfl, .inl rfl⟩, ⟨.loc [3], _, rfl, rfl, .inl rfl⟩, ⟨.loc [4], _, rfl, rfl, .inl (rn_row_eq set_map)⟩, ⟨.loc [5], _, rfl, rfl, .inl rn_row⟩, trivial⟩ (by decide) rfl rfl (by decide)⟩
  · skip
    refine AW.exit ?_
    refine AW.seq ?_
    refine AW.seq ?_
    refine AW.region ?_
    refine AWo.go (f := 0) hev (d_fieldAddr rfl fo40_2 rfl) ?_
    refine AWo.go (f := 0) hev (by first | exact d_loadT rfl (ld ty24 rfl rfl) | exact d_load rfl (ld ty24 rfl rfl)) ?_
    refine AWo.go (f := 0) hev (by first | exact d_lenT rfl ty24 rfl | exact d_lenR rfl ty24 rfl | exact d_lenN rfl ty24 rfl | exact d_lenG rfl ty24 rfl) ?_
    refine AWo.go (f := 0) hev (d_moveT rfl) ?_
    refine AWo.nil ?_
    refine AW.block ?_
    refine AW.loop (α := Nat × List Tree) (fun x => ⟨frm 67 [(2, .ptr (.loc [0]) 0), (5, .ptr (.loc [1]) 0), (6, .ptr (.loc [2]) 0), (8, .ptr (.loc [3]) 0), (42, .t (.int .i64 bs.length)), (43, .t (.int .i64 x.1))], [(.loc [0], .cells 36 [.t (.sl ts), .t (.sl cs)]), (.loc [1], .cells 36 [.t (.sl ts), .t (.sl cs)]), (.loc [2], .cells 40 [.any, .any, .ref (.loc [4]) 0 bs.length]), (.loc [3], .cells 44 [.any, .any, .any, .t (.sl [])]), (.loc [4], .arr (31, true) 5 false (x.2.map .t))], 5⟩) (fun x => x.1 ≤ bs.length ∧ x.2.length = bs.length * 5) (fun x => bs.length - x.1) (0, flat bs) (Re.sq [.loc [0], .loc [1], .loc [2], .loc [3], .loc [5]] ⟨rfl, rfl, rfl, rfl, rfl, rfl, trivial⟩ ⟨⟨.loc [0], _, rfl, rfl, .inl rfl⟩, ⟨.loc [1], _, rfl, rfl, .inl rfl⟩, ⟨.loc [2], _, rfl, rfl, .inr ⟨_, _, _, rfl, rfl, ⟨.inl rfl, .inl rfl, .inr rfl, trivial⟩⟩⟩, ⟨.loc [3], _, rfl, rfl, .inr ⟨_, _, _, rfl, rfl, ⟨.inl rfl, .inl rfl, .inl rfl, .inr rfl, trivial⟩⟩⟩, ⟨.loc [5], _, rfl, rfl, .inl rn_row⟩, trivial⟩ (by decide) rfl rfl (by decide)) ⟨Nat.zero_le _, flat_length huQ.lens⟩ (fun x hx => ?_)
    obtain ⟨i, q⟩ := x
    obtain ⟨hi, hq⟩ := hx
    simp only at hi hq
    show AW _ _ ⟨frm 67 [(2, .ptr (.loc [0]) 0), (5, .ptr (.loc [1]) 0), (6, .ptr (.loc [2]) 0), (8, .ptr (.loc [3]) 0), (42, .t (.int .i64 bs.length)), (43, .t (.int .i64 i))], [(.loc [0], .cells 36 [.t (.sl ts), .t (.sl cs)]), (.loc [1], .cells 36 [.t (.sl ts), .t (.sl cs)]), (.loc [2], .cells 40 [.any, .any, .ref (.loc [4]) 0 bs.length]), (.loc [3], .cells 44 [.any, .any, .any, .t (.sl [])]), (.loc [4], .arr (31, true) 5 false (q.map .t))], 5⟩ _
    refine AW.seq ?_
    refine AW.region ?_
    refine AWo.go (f := 0) hev (d_ltI rfl rfl) ?_
    refine AWo.nil ?_
    refine AW.seq ?_
    refine AW.cond rfl (fun h44 => ?_) (fun h44 => ?_)
    · have hlt : i < bs.length := by have := of_decide_eq_true h44; omega
      refine AW.skip ?_
      refine AW.seq ?_
      refine AW.block ?_
      refine AW.seq ?_
      refine AW.region ?_
      refine AWo.go (f := 0) hev (d_moveT rfl) ?_
      refine AWo.go (f := 0) hev (d_assignT rfl) ?_
      refine AWo.nil ?_
      refine AW.region ?_
      refine AWo.go (f := 0) hev (d_fieldAddr rfl fo40_2 rfl) ?_
      refine AWo.go (f := 0) hev (by first | exact d_loadT rfl (ld ty24 rfl rfl) | exact d_load rfl (ld ty24 rfl rfl)) ?_
      refine AWo.go (f := 0) hev (d_moveT rfl) ?_
      refine AWo.go (f := 0) hev (d_indexR rfl rfl ty24 rfl ty31 rfl (by decide) (by rw [List.length_map]; exact hq.symm) hlt) ?_
      refine AWo.go (f := 0) hev (d_fieldAddr rfl fo31_0 (padd rfl)) ?_
      refine AWo.go0 (f := 0) hev (d_store rfl rfl (sta ty9 rfl rfl (by show i * 5 + 0 + 1 ≤ _; rw [List.length_map, hq]; omega))) ?_
      refine AWo.nil ?_
      refine AW.region ?_
      refine AWo.go (f := 0) hev (d_add64 rfl rfl (by omega) (by omega)) ?_
      refine AWo.go (f := 0) hev (d_moveT rfl) ?_
      refine AWo.nil ?_
      exact ⟨(i + 1, setT q (i * 5 + 0) (.str [115, 112, 111, 105, 108, 116])), ⟨hlt, (set_len (by rw [hq]; omega)).trans hq⟩, Nat.sub_lt_sub_left hlt (Nat.lt_succ_self i), Re.sq [.loc [0], .loc [1], .loc [2], .loc [3], .loc [4]] ⟨rfl, rfl, rfl, rfl, rfl, rfl, trivial⟩ ⟨⟨.loc [0], _, rfl, rfl, .inl rfl⟩, ⟨.loc [1], _, rfl, rfl, .inl rfl⟩, ⟨.loc [2], _, rfl, rfl, .inl rfl⟩, ⟨.loc [3], _, rfl, rfl, .inl rfl⟩, ⟨.loc [4], _, rfl, rfl, .inl (rn_row_eq set_map)⟩, trivial⟩ (by decide) rfl rfl (by decide)⟩
    · skip
      refine AW.exit ?_
      refine AW.seq ?_
      refine AW.seq ?_
      refine AW.region ?_
      refine AWo.go (f := 0) hev (d_fieldAddr rfl fo44_3 rfl) ?_
      refine AWo.go (f := 0) hev (by first | exact d_loadT rfl (ld ty24 rfl rfl) | exact d_load rfl (ld ty24 rfl rfl)) ?_
      refine AWo.go (f := 0) hev (by first | exact d_lenT rfl ty24 rfl | exact d_lenR rfl ty24 rfl | exact d_lenN rfl ty24 rfl | exact d_lenG rfl ty24 rfl) ?_
      refine AWo.go (f := 0) hev (d_moveT rfl) ?_
      refine AWo.nil ?_
      refine AW.block ?_
      refine AW.loop (α := Unit) (fun _ => _) (fun _ => True) (fun _ => 0) () (Re.refl _) trivial (fun _ _ => ?_)
      refine AW.seq ?_
      refine AW.region ?_
      refine AWo.go (f := 0) hev (d_ltI rfl rfl) ?_
      refine AWo.nil ?_
      refine AW.seq ?_
      refine AW.cond rfl (fun h => absurd h (by decide)) (fun h => ?_)
      refine AW.exit ?_
      refine AW.seq ?_
      refine AW.region ?_
      refine AWo.go (f := 0) hev (by first | exact d_loadT rfl (ld ty36 rfl rfl) | exact d_load rfl (ld ty36 rfl rfl)) ?_
      refine AWo.go (f := 0) hev (by first | exact d_loadT rfl (ld ty36 rfl rfl) | exact d_load rfl (ld ty36 rfl rfl)) ?_
      refine AWo.go (f := 0) hev (d_callT (rh2 rfl rfl) hsame) ?_
      refine AWo.go (f := 0) hev (d_assignT rfl) ?_
      refine AWo.nil ?_
      refine AW.ret ?_
      exact .inl (fin_data rfl rfl)

theorem law_111 {m : Int} (ev : CallF) (hev : CallOk (cf m) ev) (ts cs p1 r1 ps bs ds : List Tree) (nm an bn : List UInt8) (ae be : Int) (huP : Uni false 1 ps) (hlP : ps.length ≤ 4194304) (huQ : Uni true 5 bs) (hlQ : bs.length ≤ 4194304) (huC : Uni true 5 ds) (hlC : ds.length ≤ 4194304) (hlive : ev 5 [] [] = some (.ret (.t (.bool true)) [] [])) (hcopy : ev 7 [.t (.agg [.sl ts, .sl cs])] [] = some (.ret (.t (.agg [.sl ts, .sl cs])) [] []))
    (htype : ev 8 [.t (.agg [.sl ts, .sl cs]), .t (.str nm)] [] = some (.ret (.tup [.agg [.t (.str an), .ref (.loc [12, 5]) 0 ps.length, .ref (.loc [15, 0]) 0 bs.length], .t (.int .i64 ae)]) [] [(.loc [12, 5], .arr (9, false) 1 false ((flat ps).map .t)), (.loc [15, 0], .arr (31, true) 5 false ((flat bs).map .t))])) (haction : ev 9 [.t (.agg [.sl ts, .sl cs]), .t (.str nm)] [] = some (.ret (.tup [.agg [.t (.str bn), .t (.sl p1), .t (.sl r1), .ref (.loc [18, 0]) 0 ds.length], .t (.int .i64 be)]) [] [(.loc [18, 0], .arr (31, true) 5 false ((flat ds).map .t))])) (hsame : ev 10 [.t (.agg [.sl ts, .sl cs]), .t (.agg [.sl ts, .sl cs])] [] = some (.ret (.t (.bool true)) [] [])) :
    CallRel (cf m) 4 [.t (.agg [.sl ts, .sl cs]), .t (.str nm)] [] (.ret (.t (.bool true)) [] []) := by
  refine fn_start2 67 2 Tryz.func4 rfl (by decide) rfl rfl (by decide) ?_
  refine AW.seq ?_
  refine AW.region ?_
  refine AWo.go (f := 0) hev (d_box rfl rfl) ?_
  refine AWo.go (f := 0) hev (d_assignT rfl) ?_
  refine AWo.nil ?_
  refine AW.seq ?_
  refine AW.seq ?_
  refine AW.region ?_
  refine AWo.go (f := 0) hev (d_callT (ts := []) rfl hlive) ?_
  refine AWo.go (f := 0) hev (d_not rfl) ?_
  refine AWo.nil ?_
  refine AW.cond rfl (fun h => absurd h (by decide)) (fun h => ?_)
  refine AW.skip ?_
  refine AW.seq ?_
  refine AW.region ?_
  refine AWo.go (f := 0) hev (by first | exact d_loadT rfl (ld ty36 rfl rfl) | exact d_load rfl (ld ty36 rfl rfl)) ?_
  refine AWo.go (f := 0) hev (d_callT (rh1 rfl) hcopy) ?_
  refine AWo.go (f := 0) hev (d_alloc ty36 rfl rfl) ?_
  refine AWo.go0 (f := 0) hev (d_store rfl rfl (stt ty36 rfl rfl)) ?_
  refine AWo.nil ?_
  refine AW.seq ?_
  refine AW.region ?_
  refine AWo.go (f := 0) hev (by first | exact d_loadT rfl (ld ty36 rfl rfl) | exact d_load rfl (ld ty36 rfl rfl)) ?_
  refine AWo.go (f := 0) hev (d_moveT rfl) ?_
  refine AWo.go (f := 0) hev (d_callN (v' := .tup [.agg [.t (.str an), .ref (.loc [10, 12, 5]) 0 ps.length, .ref (.loc [10, 15, 0]) 0 bs.length], .t (.int .i64 ae)]) (news' := [(.loc [10, 12, 5], .arr (9, false) 1 false ((flat ps).map .t)), (.loc [10, 15, 0], .arr (31, true) 5 false ((flat bs).map .t))]) (rh2 rfl rfl) htype rfl news_row2) ?_
  refine AWo.go (f := 0) hev (by first | exact d_moveT rfl | exact d_move rfl) ?_
  refine AWo.go (f := 0) hev (by first | exact d_extractT rfl rfl | exact d_extract rfl rfl) ?_
  refine AWo.go (f := 0) hev (by first | exact d_extractT rfl rfl | exact d_extract rfl rfl) ?_
  refine AWo.go (f := 0) hev (d_alloc ty40 rfl rfl) ?_
  refine AWo.go0 (f := 0) hev (d_store rfl rfl (stt ty40 rfl rfl)) ?_
  refine AWo.go (f := 0) hev (d_assignT rfl) ?_
  refine AWo.nil ?_
  refine AW.seq ?_
  refine AW.region ?_
  refine AWo.go (f := 0) hev (by first | exact d_loadT rfl (ld ty36 rfl rfl) | exact d_load rfl (ld ty36 rfl rfl)) ?_
  refine AWo.go (f := 0) hev (d_moveT rfl) ?_
  refine AWo.go (f := 0) hev (d_callN (v' := .tup [.agg [.t (.str bn), .t (.sl p1), .t (.sl r1), .ref (.loc [19, 18, 0]) 0 ds.length], .t (.int .i64 be)]) (news' := [(.loc [19, 18, 0], .arr (31, true) 5 false ((flat ds).map .t))]) (rh2 rfl rfl) haction rfl news_row) ?_
  refine AWo.go (f := 0) hev (by first | exact d_moveT rfl | exact d_move rfl) ?_
  refine AWo.go (f := 0) hev (by first | exact d_extractT rfl rfl | exact d_extract rfl rfl) ?_
  refine AWo.go (f := 0) hev (by first | exact d_extractT rfl rfl | exact d_extract rfl rfl) ?_
  refine AWo.go (f := 0) hev (d_alloc ty44 rfl rfl) ?_
  refine AWo.go0 (f := 0) hev (d_store rfl rfl (stt ty44 rfl rfl)) ?_
  refine AWo.go (f := 0) hev (d_assignT rfl) ?_
  refine AWo.nil ?_
  refine AW.seq ?_
  refine AW.seq ?_
  refine AW.re (st' := ⟨frm 67 [(2, .ptr (.loc [0]) 0), (5, .ptr (.loc [1]) 0), (6, .ptr (.loc [2]) 0), (8, .ptr (.loc [3]) 0)], [(.loc [0], .cells 36 [.t (.sl ts), .t (.sl cs)]), (.loc [1], .cells 36 [.t (.sl ts), .t (.sl cs)]), (.loc [2], .cells 40 [.any, .ref (.loc [4]) 0 ps.length, .ref (.loc [5]) 0 bs.length]), (.loc [3], .cells 44 [.any, .any, .any, .ref (.loc [6]) 0 ds.length]), (.loc [4], .arr (9, false) 1 false ((flat ps).map .t)), (.loc [5], .arr (31, true) 5 false ((flat bs).map .t)), (.loc [6], .arr (31, true) 5 false ((flat ds).map .t))], 7⟩) (Re.sq [.loc [0], .loc [6], .loc [14], .loc [23], .loc [10, 12, 5], .loc [10, 15, 0], .loc [19, 18, 0]] ⟨rfl, rfl, rfl, rfl, trivial⟩ ⟨⟨.loc [0], _, rfl, rfl, .inl rfl⟩, ⟨.loc [6], _, rfl, rfl, .inl rfl⟩, ⟨.loc [14], _, rfl, rfl, .inr ⟨_, _, _, rfl, rfl, ⟨.inl rfl, .inr rfl, .inr rfl, trivial⟩⟩⟩, ⟨.loc [23], _, rfl, rfl, .inr ⟨_, _, _, rfl, rfl, ⟨.inl rfl, .inl rfl, .inl rfl, .inr rfl, trivial⟩⟩⟩, ⟨.loc [10, 12, 5], _, rfl, rfl, .inl rn_row⟩, ⟨.loc [10, 15, 0], _, rfl, rfl, .inl rn_row⟩, ⟨.loc [19, 18, 0], _, rfl, rfl, .inl rn_row⟩, trivial⟩ (by decide) rfl rfl (by decide)) ?_
  refine AW.region ?_
  refine AWo.go (f := 0) hev (d_fieldAddr rfl fo40_1 rfl) ?_
  refine AWo.go (f := 0) hev (by first | exact d_loadT rfl (ld ty38 rfl rfl) | exact d_load rfl (ld ty38 rfl rfl)) ?_
  refine AWo.go (f := 0) hev (by first | exact d_lenT rfl ty38 rfl | exact d_lenR rfl ty38 rfl | exact d_lenN rfl ty38 rfl | exact d_lenG rfl ty38 rfl) ?_
  refine AWo.go (f := 0) hev (d_moveT rfl) ?_
  refine AWo.nil ?_
  refine AW.block ?_
  refine AW.loop (α := Nat × List Tree) (fun x => ⟨frm 67 [(2, .ptr (.loc [0]) 0), (5, .ptr (.loc [1]) 0), (6, .ptr (.loc [2]) 0), (8, .ptr (.loc [3]) 0), (31, .t (.int .i64 ps.length)), (32, .t (.int .i64 x.1))], [(.loc [0], .cells 36 [.t (.sl ts), .t (.sl cs)]), (.loc [1], .cells 36 [.t (.sl ts), .t (.sl cs)]), (.loc [2], .cells 40 [.any, .ref (.loc [4]) 0 ps.length, .ref (.loc [5]) 0 bs.length]), (.loc [3], .cells 44 [.any, .any, .any, .ref (.loc [6]) 0 ds.length]), (.loc [4], .arr (9, false) 1 false (x.2.map .t)), (.loc [5], .arr (31, true) 5 false ((flat bs).map .t)), (.loc [6], .arr (31, true) 5 false ((flat ds).map .t))], 7⟩) (fun x => x.1 ≤ ps.length ∧ x.2.length = ps.length * 1) (fun x => ps.length - x.1) (0, flat ps) (Re.sq [.loc [0], .loc [1], .loc [2], .loc [3], .loc [4], .loc [5], .loc [6]] ⟨rfl, rfl, rfl, rfl, rfl, rfl, trivial⟩ ⟨⟨.loc [0], _, rfl, rfl, .inl rfl⟩, ⟨.loc [1], _, rfl, rfl, .inl rfl⟩, ⟨.loc [2], _, rfl, rfl, .inr ⟨_, _, _, rfl, rfl, ⟨.inl rfl, .inr rfl, .inr rfl, trivial⟩⟩⟩, ⟨.loc [3], _, rfl, rfl, .inr ⟨_, _, _, rfl, rfl, ⟨.inl rfl, .inl rfl, .inl rfl, .inr rfl, trivial⟩⟩⟩, ⟨.loc [4], _, rfl, rfl, .inl rn_row⟩, ⟨.loc [5], _, rfl, rfl, .inl rn_row⟩, ⟨.loc [6], _, rfl, rfl, .inl rn_row⟩, trivial⟩ (by decide) rfl rfl (by decide)) ⟨Nat.zero_le _, flat_length huP.lens⟩ (fun x hx => ?_)
  obtain ⟨i, q⟩ := x
  obtain ⟨hi, hq⟩ := hx
  simp only at hi hq
  show AW _ _ ⟨frm 67 [(2, .ptr (.loc [0]) 0), (5, .ptr (.loc [1]) 0), (6, .ptr (.loc [2]) 0), (8, .ptr (.loc [3]) 0), (31, .t (.int .i64 ps.length)), (32, .t (.int .i64 i))], [(.loc [0], .cells 36 [.t (.sl ts), .t (.sl cs)]), (.loc [1], .cells 36 [.t (.sl ts), .t (.sl cs)]), (.loc [2], .cells 40 [.any, .ref (.loc [4]) 0 ps.length, .ref (.loc [5]) 0 bs.length]), (.loc [3], .cells 44 [.any, .any, .any, .ref (.loc [6]) 0 ds.length]), (.loc [4], .arr (9, false) 1 false (q.map .t)), (.loc [5], .arr (31, true) 5 false ((flat bs).map .t)), (.loc [6], .arr (31, true) 5 false ((flat ds).map .t))], 7⟩ _
  refine AW.seq ?_
  refine AW.region ?_
  refine AWo.go (f := 0) hev (d_ltI rfl rfl) ?_
  refine AWo.nil ?_
  refine AW.seq ?_
  refine AW.cond rfl (fun h33 => ?_) (fun h33 => ?_)
  · have hlt : i < ps.length := by have := of_decide_eq_true h33; omega
    refine AW.skip ?_
    refine AW.seq ?_
    refine AW.block ?_
    refine AW.seq ?_
    refine AW.region ?_
    refine AWo.go (f := 0) hev (d_moveT rfl) ?_
    refine AWo.go (f := 0) hev (d_assignT rfl) ?_
    refine AWo.nil ?_
    refine AW.region ?_
    refine AWo.go (f := 0) hev (d_fieldAddr rfl fo40_1 rfl) ?_
    refine AWo.go (f := 0) hev (by first | exact d_loadT rfl (ld ty38 rfl rfl) | exact d_load rfl (ld ty38 rfl rfl)) ?_
    refine AWo.go (f := 0) hev (d_moveT rfl) ?_
    refine AWo.go (f := 0) hev (d_indexR rfl rfl ty38 rfl ty9 rfl (by decide) (by rw [List.length_map]; exact hq.symm) hlt) ?_
    refine AWo.go0 (f := 0) hev (d_store rfl rfl (sta ty9 rfl rfl (by show i * 1 + 1 ≤ _; rw [List.length_map, hq]; omega))) ?_
    refine AWo.nil ?_
    refine AW.region ?_
    refine AWo.go (f := 0) hev (d_add64 rfl rfl (by omega) (by omega)) ?_
    refine AWo.go (f := 0) hev (d_moveT rfl) ?_
    refine AWo.nil ?_
    exact ⟨(i + 1, setT q (i * 1) (.str [115, 112, 111, 105, 108, 116])), ⟨hlt, (set_len (by rw [hq]; omega)).trans hq⟩, Nat.sub_lt_sub_left hlt (Nat.lt_succ_self i), Re.sq [.loc [0], .loc [1], .loc [2], .loc [3], .loc [4], .loc [5], .loc [6]] ⟨rfl, rfl, rfl, rfl, rfl, rfl, trivial⟩ ⟨⟨.loc [0], _, rfl, rfl, .inl rfl⟩, ⟨.loc [1], _, rfl, rfl, .inl rfl⟩, ⟨.loc [2], _, rfl, rfl, .inl rfl⟩, ⟨.loc [3], _, rfl, rfl, .inl rfl⟩, ⟨.loc [4], _, rfl, rfl, .inl (rn_row_eq set_map)⟩, ⟨.loc [5], _, rfl, rfl, .inl rn_row⟩, ⟨.loc [6], _, rfl, rfl, .inl rn_row⟩, trivial⟩ (by decide) rfl rfl (by decide)⟩
  · skip
    refine AW.exit ?_
    refine AW.seq ?_
    refine AW.seq ?_
    refine AW.region ?_
    refine AWo.go (f := 0) hev (d_fieldAddr rfl fo40_2 rfl) ?_
    refine AWo.go (f := 0) hev (by first | exact d_loadT rfl (ld ty24 rfl rfl) | exact d_load rfl (ld ty24 rfl rfl)) ?_
    refine AWo.go (f := 0) hev (by first | exact d_lenT rfl ty24 rfl | exact d_lenR rfl ty24 rfl | exact d_lenN rfl ty24 rfl | exact d_lenG rfl ty24 rfl) ?_
    refine AWo.go (f := 0) hev (d_moveT rfl) ?_
    refine AWo.nil ?_
    refine AW.block ?_
    refine AW.loop (α := Nat × List Tree) (fun x => ⟨frm 67 [(2, .ptr (.loc [0]) 0), (5, .ptr (.loc [1]) 0), (6, .ptr (.loc [2]) 0), (8, .ptr (.loc [3]) 0), (42, .t (.int .i64 bs.length)), (43, .t (.int .i64 x.1))], [(.loc [0], .cells 36 [.t (.sl ts), .t (.sl cs)]), (.loc [1], .cells 36 [.t (.sl ts), .t (.sl cs)]), (.loc [2], .cells 40 [.any, .any, .ref (.loc [4]) 0 bs.length]), (.loc [3], .cells 44 [.any, .any, .any, .ref (.loc [5]) 0 ds.length]), (.loc [4], .arr (31, true) 5 false (x.2.map .t)), (.loc [5], .arr (31, true) 5 false ((flat ds).map .t))], 6⟩) (fun x => x.1 ≤ bs.length ∧ x.2.length = bs.length * 5) (fun x => bs.length - x.1) (0, flat bs) (Re.sq [.loc [0], .loc [1], .loc [2], .loc [3], .loc [5], .loc [6]] ⟨rfl, rfl, rfl, rfl, rfl, rfl, trivial⟩ ⟨⟨.loc [0], _, rfl, rfl, .inl rfl⟩, ⟨.loc [1], _, rfl, rfl, .inl rfl⟩, ⟨.loc [2], _, rfl, rfl, .inr ⟨_, _, _, rfl, rfl, ⟨.inl rfl, .inl rfl, .inr rfl, trivial⟩⟩⟩, ⟨.loc [3], _, rfl, rfl, .inr ⟨_, _, _, rfl, rfl, ⟨.inl rfl, .inl rfl, .inl rfl, .inr rfl, trivial⟩⟩⟩, ⟨.loc [5], _, rfl, rfl, .inl rn_row⟩, ⟨.loc [6], _, rfl, rfl, .inl rn_row⟩, trivial⟩ (by decide) rfl rfl (by decide)) ⟨Nat.zero_le _, flat_length huQ.lens⟩ (fun x hx => ?_)
    obtain ⟨i, q⟩ := x
    obtain ⟨hi, hq⟩ := hx
    simp only at hi hq
    show AW _ _ ⟨frm 67 [(2, .ptr (.loc [0]) 0), (5, .ptr (.loc [1]) 0), (6, .ptr (.loc [2]) 0), (8, .ptr (.loc [3]) 0), (42, .t (.int .i64 bs.length)), (43, .t (.int .i64 i))], [(.loc [0], .cells 36 [.t (.sl ts), .t (.sl cs)]), (.loc [1], .cells 36 [.t (.sl ts), .t (.sl cs)]), (.loc [2], .cells 40 [.any, .any, .ref (.loc [4]) 0 bs.length]), (.loc [3], .cells 44 [.any, .any, .any, .ref (.loc [5]) 0 ds.length]), (.loc [4], .arr (31, true) 5 false (q.map .t)), (.loc [5], .arr (31, true) 5 false ((flat ds).map .t))], 6⟩ _
    refine AW.seq ?_
    refine AW.region ?_
    refine AWo.go (f := 0) hev (d_ltI rfl rfl) ?_
    refine AWo.nil ?_
    refine AW.seq ?_
    refine AW.cond rfl (fun h44 => ?_) (fun h44 => ?_)
    · have hlt : i < bs.length := by have := of_decide_eq_true h44; omega
      refine AW.skip ?_
      refine AW.seq ?_
      refine AW.block ?_
      refine AW.seq ?_
      refine AW.region ?_
      refine AWo.go (f := 0) hev (d_moveT rfl) ?_
      refine AWo.go (f := 0) hev (d_assignT rfl) ?_
      refine AWo.nil ?_
      refine AW.region ?_
      refine AWo.go (f := 0) hev (d_fieldAddr rfl fo40_2 rfl) ?_
      refine AWo.go (f := 0) hev (by first | exact d_loadT rfl (ld ty24 rfl rfl) | exact d_load rfl (ld ty24 rfl rfl)) ?_
      refine AWo.go (f := 0) hev (d_moveT rfl) ?_
      refine AWo.go (f := 0) hev (d_indexR rfl rfl ty24 rfl ty31 rfl (by decide) (by rw [List.length_map]; exact hq.symm) hlt) ?_
      refine AWo.go (f := 0) hev (d_fieldAddr rfl fo31_0 (padd rfl)) ?_
      refine AWo.go0 (f := 0) hev (d_store rfl rfl (sta ty9 rfl rfl (by show i * 5 + 0 + 1 ≤ _; rw [List.length_map, hq]; omega))) ?_
      refine AWo.nil ?_
      refine AW.region ?_
      refine AWo.go (f := 0) hev (d_add64 rfl rfl (by omega) (by omega)) ?_
      refine AWo.go (f := 0) hev (d_moveT rfl) ?_
      refine AWo.nil ?_
      exact ⟨(i + 1, setT q (i * 5 + 0) (.str [115, 112, 111, 105, 108, 116])), ⟨hlt, (set_len (by rw [hq]; omega)).trans hq⟩, Nat.sub_lt_sub_left hlt (Nat.lt_succ_self i), Re.sq [.loc [0], .loc [1], .loc [2], .loc [3], .loc [4], .loc [5]] ⟨rfl, rfl, rfl, rfl, rfl, rfl, trivial⟩ ⟨⟨.loc [0], _, rfl, rfl, .inl rfl⟩, ⟨.loc [1], _, rfl, rfl, .inl rfl⟩, ⟨.loc [2], _, rfl, rfl, .inl rfl⟩, ⟨.loc [3], _, rfl, rfl, .inl rfl⟩, ⟨.loc [4], _, rfl, rfl, .inl (rn_row_eq set_map)⟩, ⟨.loc [5], _, rfl, rfl, .inl rn_row⟩, trivial⟩ (by decide) rfl rfl (by decide)⟩
    · skip
      refine AW.exit ?_
      refine AW.seq ?_
      refine AW.seq ?_
      refine AW.region ?_
      refine AWo.go (f := 0) hev (d_fieldAddr rfl fo44_3 rfl) ?_
      refine AWo.go (f := 0) hev (by first | exact d_loadT rfl (ld ty24 rfl rfl) | exact d_load rfl (ld ty24 rfl rfl)) ?_
      refine AWo.go (f := 0) hev (by first | exact d_lenT rfl ty24 rfl | exact d_lenR rfl ty24 rfl | exact d_lenN rfl ty24 rfl | exact d_lenG rfl ty24 rfl) ?_
      refine AWo.go (f := 0) hev (d_moveT rfl) ?_
      refine AWo.nil ?_
      refine AW.block ?_
      refine AW.loop (α := Nat × List Tree) (fun x => ⟨frm 67 [(2, .ptr (.loc [0]) 0), (5, .ptr (.loc [1]) 0), (6, .ptr (.loc [2]) 0), (8, .ptr (.loc [3]) 0), (54, .t (.int .i64 ds.length)), (55, .t (.int .i64 x.1))], [(.loc [0], .cells 36 [.t (.sl ts), .t (.sl cs)]), (.loc [1], .cells 36 [.t (.sl ts), .t (.sl cs)]), (.loc [2], .cells 40 [.any, .any, .any]), (.loc [3], .cells 44 [.any, .any, .any, .ref (.loc [4]) 0 ds.length]), (.loc [4], .arr (31, true) 5 false (x.2.map .t))], 5⟩) (fun x => x.1 ≤ ds.length ∧ x.2.length = ds.length * 5) (fun x => ds.length - x.1) (0, flat ds) (Re.sq [.loc [0], .loc [1], .loc [2], .loc [3], .loc [5]] ⟨rfl, rfl, rfl, rfl, rfl, rfl, trivial⟩ ⟨⟨.loc [0], _, rfl, rfl, .inl rfl⟩, ⟨.loc [1], _, rfl, rfl, .inl rfl⟩, ⟨.loc [2], _, rfl, rfl, .inr ⟨_, _, _, rfl, rfl, ⟨.inl rfl, .inl rfl, .inl rfl, trivial⟩⟩⟩, ⟨.loc [3], _, rfl, rfl, .inr ⟨_, _, _, rfl, rfl, ⟨.inl rfl, .inl rfl, .inl rfl, .inr rfl, trivial⟩⟩⟩, ⟨.loc [5], _, rfl, rfl, .inl rn_row⟩, trivial⟩ (by decide) rfl rfl (by decide)) ⟨Nat.zero_le _, flat_length huC.lens⟩ (fun x hx => ?_)
      obtain ⟨i, q⟩ := x
      obtain ⟨hi, hq⟩ := hx
      simp only at hi hq
      show AW _ _ ⟨frm 67 [(2, .ptr (.loc [0]) 0), (5, .ptr (.loc [1]) 0), (6, .ptr (.loc [2]) 0), (8, .ptr (.loc [3]) 0), (54, .t (.int .i64 ds.length)), (55, .t (.int .i64 i))], [(.loc [0], .cells 36 [.t (.sl ts), .t (.sl cs)]), (.loc [1], .cells 36 [.t (.sl ts), .t (.sl cs)]), (.loc [2], .cells 40 [.any, .any, .any]), (.loc [3], .cells 44 [.any, .any, .any, .ref (.loc [4]) 0 ds.length]), (.loc [4], .arr (31, true) 5 false (q.map .t))], 5⟩ _
      refine AW.seq ?_
      refine AW.region ?_
      refine AWo.go (f := 0) hev (d_ltI rfl rfl) ?_
      refine AWo.nil ?_
      refine AW.seq ?_
      refine AW.cond rfl (fun h56 => ?_) (fun h56 => ?_)
      · have hlt : i < ds.length := by have := of_decide_eq_true h56; omega
        refine AW.skip ?_
        refine AW.seq ?_
        refine AW.block ?_
        refine AW.seq ?_
        refine AW.region ?_
        refine AWo.go (f := 0) hev (d_moveT rfl) ?_
        refine AWo.go (f := 0) hev (d_assignT rfl) ?_
        refine AWo.nil ?_
        refine AW.region ?_
        refine AWo.go (f := 0) hev (d_fieldAddr rfl fo44_3 rfl) ?_
        refine AWo.go (f := 0) hev (by first | exact d_loadT rfl (ld ty24 rfl rfl) | exact d_load rfl (ld ty24 rfl rfl)) ?_
        refine AWo.go (f := 0) hev (d_moveT rfl) ?_
        refine AWo.go (f := 0) hev (d_indexR rfl rfl ty24 rfl ty31 rfl (by decide) (by rw [List.length_map]; exact hq.symm) hlt) ?_
        refine AWo.go (f := 0) hev (d_fieldAddr rfl fo31_0 (padd rfl)) ?_
        refine AWo.go0 (f := 0) hev (d_store rfl rfl (sta ty9 rfl rfl (by show i * 5 + 0 + 1 ≤ _; rw [List.length_map, hq]; omega))) ?_
        refine AWo.nil ?_
        refine AW.region ?_
        refine AWo.go (f := 0) hev (d_add64 rfl rfl (by omega) (by omega)) ?_
        refine AWo.go (f := 0) hev (d_moveT rfl) ?_
        refine AWo.nil ?_
        exact ⟨(i + 1, setT q (i * 5 + 0) (.str [115, 112, 111, 105, 108, 116])), ⟨hlt, (set_len (by rw [hq]; omega)).trans hq⟩, Nat.sub_lt_sub_left hlt (Nat.lt_succ_self i), Re.sq [.loc [0], .loc [1], .loc [2], .loc [3], .loc [4]] ⟨rfl, rfl, rfl, rfl, rfl, rfl, trivial⟩ ⟨⟨.loc [0], _, rfl, rfl, .inl rfl⟩, ⟨.loc [1], _, rfl, rfl, .inl rfl⟩, ⟨.loc [2], _, rfl, rfl, .inl rfl⟩, ⟨.loc [3], _, rfl, rfl, .inl rfl⟩, ⟨.loc [4], _, rfl, rfl, .inl (rn_row_eq set_map)⟩, trivial⟩ (by decide) rfl rfl (by decide)⟩
      · skip
        refine AW.exit ?_
        refine AW.seq ?_
        refine AW.region ?_
        refine AWo.go (f := 0) hev (by first | exact d_loadT rfl (ld ty36 rfl rfl) | exact d_load rfl (ld ty36 rfl rfl)) ?_
        refine AWo.go (f := 0) hev (by first | exact d_loadT rfl (ld ty36 rfl rfl) | exact d_load rfl (ld ty36 rfl rfl)) ?_
        refine AWo.go (f := 0) hev (d_callT (rh2 rfl rfl) hsame) ?_
        refine AWo.go (f := 0) hev (d_assignT rfl) ?_
        refine AWo.nil ?_
        refine AW.ret ?_
        exact .inl (fin_data rfl rfl)
end
end Go.Proofs.YtbahblehihbpkaaGreatDoor.w
