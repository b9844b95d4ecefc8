/- What the law asks ahead is so. -/
import Derived.Test.YtfdnciimclnncaaGreatDoorAJ
set_option linter.unusedVariables false
set_option linter.unusedSimpArgs false
namespace Go.Proofs.YtfdnciimclnncaaGreatDoor.w.e
open Go Go.Abs
set_option maxRecDepth 100000
set_option maxHeartbeats 2000000
noncomputable section
open Go.Abs.Ty
def v1:Tree:=(aA 0 false 0 [] [] [] [])
def v2:Tree:=(aA 0 true 0 [] [] [] [])
theorem ar3:T .av v1:=.av _ _ _ _ _ _ _ (by decide) (by decide) (by decide) (λ_ h=>by cases h) (by decide) (λ_ h=>by cases h)
theorem ar4:T .av v2:=.av _ _ _ _ _ _ _ (by decide) (by decide) (by decide) (λ_ h=>by cases h) (by decide) (λ_ h=>by cases h)
theorem IF (m:Int):ai (cf m) 35 [] [] (.ret (.t oe) [] []):=mK (by kernel_rfl)
theorem apj:T .aM ex0:=(.aM _ _ _ _ _ _ (by decide) (by decide) (by decide) (by decide) (λ_ h=>by cases h) (by decide) (bx (.aM _ _ _ _ _ _ (by decide) (by decide) (by decide) (by decide) (λ_ h=>by cases h) (by decide) (λ_ h=>by cases h)) (bx (.aM _ _ _ _ _ _ (by decide) (by decide) (by decide) (by decide) (λ_ h=>by cases h) (by decide) (λ_ h=>by cases h)) (λ_ h=>by cases h))))
theorem apk (m:Int):ai (cf m) 11 [.t ex0,.t oe,.t (.sl [])] [] (.ret (.t (.cG [zeroV,.int .i64 11])) [] []):=UX m _ _ _ _ _ _ apj _ _ _ _ _ _ _ _ _ _ _ _ _ Fe [] (by decide) (λ_ h=>by cases h) (arZ m) (Ff m) (Pc m) _ (ev0 m) 11 rfl
theorem apl:T .aM ex1:=(.aM _ _ _ _ _ _ (by decide) (by decide) (by decide) (by decide) (λ_ h=>by cases h) (by decide) (bx (.aM _ _ _ _ _ _ (by decide) (by decide) (by decide) (by decide) (λ_ h=>by cases h) (by decide) (λ_ h=>by cases h)) (bx (.aM _ _ _ _ _ _ (by decide) (by decide) (by decide) (by decide) (λ_ h=>by cases h) (by decide) (bx (.aM _ _ _ _ _ _ (by decide) (by decide) (by decide) (by decide) (λ_ h=>by cases h) (by decide) (λ_ h=>by cases h)) (bx (.aM _ _ _ _ _ _ (by decide) (by decide) (by decide) (by decide) (λ_ h=>by cases h) (by decide) (λ_ h=>by cases h)) (λ_ h=>by cases h)))) (λ_ h=>by cases h))))
theorem apm (m:Int):ai (cf m) 11 [.t ex1,.t oe,.t (.sl [])] [] (.ret (.t (.cG [v1,.int .i64 0])) [] []):=UW m _ _ _ _ _ _ apl _ _ _ _ _ _ _ _ _ _ _ _ _ Fe [] (by decide) (λ_ h=>by cases h) (ar0 m) (Ff m) (Pc m) _ (ev1 m) _ _ _ _ _ _ _ rfl ar3
theorem apn:T .aM ex2:=(.aM _ _ _ _ _ _ (by decide) (by decide) (by decide) (by decide) (λ_ h=>by cases h) (by decide) (bx (.aM _ _ _ _ _ _ (by decide) (by decide) (by decide) (by decide) (λ_ h=>by cases h) (by decide) (λ_ h=>by cases h)) (bx (.aM _ _ _ _ _ _ (by decide) (by decide) (by decide) (by decide) (λ_ h=>by cases h) (by decide) (bx (.aM _ _ _ _ _ _ (by decide) (by decide) (by decide) (by decide) (λ_ h=>by cases h) (by decide) (λ_ h=>by cases h)) (bx (.aM _ _ _ _ _ _ (by decide) (by decide) (by decide) (by decide) (λ_ h=>by cases h) (by decide) (λ_ h=>by cases h)) (λ_ h=>by cases h)))) (λ_ h=>by cases h))))
theorem apo (m:Int):ai (cf m) 11 [.t ex2,.t oe,.t (.sl [])] [] (.ret (.t (.cG [v2,.int .i64 0])) [] []):=UW m _ _ _ _ _ _ apn _ _ _ _ _ _ _ _ _ _ _ _ _ Fe [] (by decide) (λ_ h=>by cases h) (ar1 m) (Ff m) (Pc m) _ (ev2 m) _ _ _ _ _ _ _ rfl ar4
theorem apq:T .aM ex3:=(.aM _ _ _ _ _ _ (by decide) (by decide) (by decide) (by decide) (λ_ h=>by cases h) (by decide) (bx (.aM _ _ _ _ _ _ (by decide) (by decide) (by decide) (by decide) (λ_ h=>by cases h) (by decide) (λ_ h=>by cases h)) (λ_ h=>by cases h)))
theorem apr (m:Int):ai (cf m) 11 [.t ex3,.t oe,.t (.sl [])] [] (.ret (.t (.cG [zeroV,.int .i64 9])) [] []):=UX m _ _ _ _ _ _ apq _ _ _ _ _ _ _ _ _ _ _ _ _ Fe [] (by decide) (λ_ h=>by cases h) (ar2 m) (Ff m) (Pc m) _ (ev3 m) 9 rfl
theorem of0 (m:Int):ai (cf m) 19 [.t (.str ts0)] [] (.ret (.t (.cG [zeroV,.int .i64 11])) [] []):=by
 obtain⟨ev,aI,U1,U2,Bc⟩:∃ev,aC (cf m) ev/\Has ev 34 (px [.t (.str ts0)] [] (.ret (.t (.cG [ex0,.int .i64 0,.int .i64 0])) [] []))/\Has ev 35 (px [] [] (.ret (.t oe) [] []))/\Has ev 11 (px [.t ex0,.t oe,.t (.sl [])] [] (.ret (.t (.cG [zeroV,.int .i64 11])) [] [])):=⟨_,(aq (fU (alg m)) (aq (fU (IF m)) (aq (fU (apk m)) aF))),au,(az rfl au),(az rfl (az rfl au))⟩;refine ai.iE ?_;refine AX.start 22 1 Tryz.func19 rfl (by decide) rfl rfl (by decide) ?_;refine AX.frames ?_;exact⟨(),kf ah [oC (jm U1),oF,oC (jm U2),oC (jm Bc)]⟩
theorem of1 (m:Int):ai (cf m) 19 [.t (.str ts1)] [] (.ret (.t (.cG [v1,.int .i64 0])) [] []):=by
 obtain⟨ev,aI,U1,U2,Bc⟩:∃ev,aC (cf m) ev/\Has ev 34 (px [.t (.str ts1)] [] (.ret (.t (.cG [ex1,.int .i64 0,.int .i64 0])) [] []))/\Has ev 35 (px [] [] (.ret (.t oe) [] []))/\Has ev 11 (px [.t ex1,.t oe,.t (.sl [])] [] (.ret (.t (.cG [v1,.int .i64 0])) [] [])):=⟨_,(aq (fU (alh m)) (aq (fU (IF m)) (aq (fU (apm m)) aF))),au,(az rfl au),(az rfl (az rfl au))⟩;refine ai.iE ?_;refine AX.start 22 1 Tryz.func19 rfl (by decide) rfl rfl (by decide) ?_;refine AX.frames ?_;exact⟨(),kf ah [oC (jm U1),oF,oC (jm U2),oC (jm Bc)]⟩
theorem of2 (m:Int):ai (cf m) 19 [.t (.str ts2)] [] (.ret (.t (.cG [v2,.int .i64 0])) [] []):=by
 obtain⟨ev,aI,U1,U2,Bc⟩:∃ev,aC (cf m) ev/\Has ev 34 (px [.t (.str ts2)] [] (.ret (.t (.cG [ex2,.int .i64 0,.int .i64 0])) [] []))/\Has ev 35 (px [] [] (.ret (.t oe) [] []))/\Has ev 11 (px [.t ex2,.t oe,.t (.sl [])] [] (.ret (.t (.cG [v2,.int .i64 0])) [] [])):=⟨_,(aq (fU (ali m)) (aq (fU (IF m)) (aq (fU (apo m)) aF))),au,(az rfl au),(az rfl (az rfl au))⟩;refine ai.iE ?_;refine AX.start 22 1 Tryz.func19 rfl (by decide) rfl rfl (by decide) ?_;refine AX.frames ?_;exact⟨(),kf ah [oC (jm U1),oF,oC (jm U2),oC (jm Bc)]⟩
theorem of3 (m:Int):ai (cf m) 19 [.t (.str ts3)] [] (.ret (.t (.cG [zeroV,.int .i64 9])) [] []):=by
 obtain⟨ev,aI,U1,U2,Bc⟩:∃ev,aC (cf m) ev/\Has ev 34 (px [.t (.str ts3)] [] (.ret (.t (.cG [ex3,.int .i64 0,.int .i64 0])) [] []))/\Has ev 35 (px [] [] (.ret (.t oe) [] []))/\Has ev 11 (px [.t ex3,.t oe,.t (.sl [])] [] (.ret (.t (.cG [zeroV,.int .i64 9])) [] [])):=⟨_,(aq (fU (alj m)) (aq (fU (IF m)) (aq (fU (apr m)) aF))),au,(az rfl au),(az rfl (az rfl au))⟩;refine ai.iE ?_;refine AX.start 22 1 Tryz.func19 rfl (by decide) rfl rfl (by decide) ?_;refine AX.frames ?_;exact⟨(),kf ah [oC (jm U1),oF,oC (jm U2),oC (jm Bc)]⟩
def adR:List (List UInt8×TV):=[(ts0,.t (.cG [zeroV,.int .i64 11])),(ts1,.t (.cG [v1,.int .i64 0])),(ts2,.t (.cG [v2,.int .i64 0])),(ts3,.t (.cG [zeroV,.int .i64 9]))]
theorem adS (m:Int):rE (live.cfg m) 19 (vJ adR):=alf λp hp=>by
 simp only[adR,List.mem_cons,List.not_mem_nil,or_false] at hp;rcases hp with rfl|rfl|rfl|rfl
 ·exact of0 m
 ·exact of1 m
 ·exact of2 m
 ·exact of3 m
def aln (m:Int):Ext:=λg=>if Nat.beq g 19 then some (vJ adR) else live.Qk m g
theorem ag4 (m:Int):GJ (live.cfg m) (aln m):=zF (by
 intro g s e;unfold aln at e;split at e
 ·rename_i h;obtain rfl:=Option.some.inj e;obtain rfl:g=19:=Nat.eq_of_beq_eq_true h;exact adS m
 ·exact live.NL m g s e)
theorem adT (m:Int):GJ (Ys m) (aln m):=zF λg s e ev aI args bq r h G w vs hw hg ha hh hv=>ag4 m g s e ev aI args bq r h G w vs hw hg ha hh hv
theorem adU (m:Int):R0 (cf m) 7 (.bool true):=K5 (adT m) (by kernel_rfl)
end
end Go.Proofs.YtfdnciimclnncaaGreatDoor.w.e
