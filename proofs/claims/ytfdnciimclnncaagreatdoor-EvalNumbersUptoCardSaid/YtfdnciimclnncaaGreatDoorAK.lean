/- What the law asks ahead is so. -/
import Derived.Test.YtfdnciimclnncaaGreatDoorAJ
set_option linter.unusedVariables false
set_option linter.unusedSimpArgs false
namespace Go.Proofs.YtfdnciimclnncaaGreatDoor.w.e
open Go Go.Abs
set_option maxRecDepth 100000
set_option maxHeartbeats 2000000
noncomputable section
open Go.Abs.Ty
def v1:Tree:=(aA 0 false 0 [] [] [] [])
def v2:Tree:=(aA 0 true 0 [] [] [] [])
theorem arJ:T .av v1:=.av _ _ _ _ _ _ _ (by decide) (by decide) (by decide) (λ_ h=>by cases h) (by decide) (λ_ h=>by cases h)
theorem arK:T .av v2:=.av _ _ _ _ _ _ _ (by decide) (by decide) (by decide) (λ_ h=>by cases h) (by decide) (λ_ h=>by cases h)
theorem Iz (m:Int):ai (cf m) 35 [] [] (.ret (.t nU) [] []):=mK (by kernel_rfl)
theorem ao3:T .aG ex0:=(.aG _ _ _ _ _ _ (by decide) (by decide) (by decide) (by decide) (λ_ h=>by cases h) (by decide) (bD (.aG _ _ _ _ _ _ (by decide) (by decide) (by decide) (by decide) (λ_ h=>by cases h) (by decide) (λ_ h=>by cases h)) (bD (.aG _ _ _ _ _ _ (by decide) (by decide) (by decide) (by decide) (λ_ h=>by cases h) (by decide) (λ_ h=>by cases h)) (λ_ h=>by cases h))))
theorem ao4 (m:Int):ai (cf m) 11 [.t ex0,.t nU,.t (.sl [])] [] (.ret (.t (.bU [zeroV,.int .i64 11])) [] []):=US m _ _ _ _ _ _ ao3 _ _ _ _ _ _ _ _ _ _ _ _ _ Ep [] (by decide) (λ_ h=>by cases h) (arF m) (Er m) (Pf m) _ (ev0 m) 11 rfl
theorem ao5:T .aG ex1:=(.aG _ _ _ _ _ _ (by decide) (by decide) (by decide) (by decide) (λ_ h=>by cases h) (by decide) (bD (.aG _ _ _ _ _ _ (by decide) (by decide) (by decide) (by decide) (λ_ h=>by cases h) (by decide) (λ_ h=>by cases h)) (bD (.aG _ _ _ _ _ _ (by decide) (by decide) (by decide) (by decide) (λ_ h=>by cases h) (by decide) (bD (.aG _ _ _ _ _ _ (by decide) (by decide) (by decide) (by decide) (λ_ h=>by cases h) (by decide) (λ_ h=>by cases h)) (bD (.aG _ _ _ _ _ _ (by decide) (by decide) (by decide) (by decide) (λ_ h=>by cases h) (by decide) (λ_ h=>by cases h)) (λ_ h=>by cases h)))) (λ_ h=>by cases h))))
theorem ao6 (m:Int):ai (cf m) 11 [.t ex1,.t nU,.t (.sl [])] [] (.ret (.t (.bU [v1,.int .i64 0])) [] []):=UR m _ _ _ _ _ _ ao5 _ _ _ _ _ _ _ _ _ _ _ _ _ Ep [] (by decide) (λ_ h=>by cases h) (arG m) (Er m) (Pf m) _ (ev1 m) _ _ _ _ _ _ _ rfl arJ
theorem ao7:T .aG ex2:=(.aG _ _ _ _ _ _ (by decide) (by decide) (by decide) (by decide) (λ_ h=>by cases h) (by decide) (bD (.aG _ _ _ _ _ _ (by decide) (by decide) (by decide) (by decide) (λ_ h=>by cases h) (by decide) (λ_ h=>by cases h)) (bD (.aG _ _ _ _ _ _ (by decide) (by decide) (by decide) (by decide) (λ_ h=>by cases h) (by decide) (bD (.aG _ _ _ _ _ _ (by decide) (by decide) (by decide) (by decide) (λ_ h=>by cases h) (by decide) (λ_ h=>by cases h)) (bD (.aG _ _ _ _ _ _ (by decide) (by decide) (by decide) (by decide) (λ_ h=>by cases h) (by decide) (λ_ h=>by cases h)) (λ_ h=>by cases h)))) (λ_ h=>by cases h))))
theorem ao8 (m:Int):ai (cf m) 11 [.t ex2,.t nU,.t (.sl [])] [] (.ret (.t (.bU [v2,.int .i64 0])) [] []):=UR m _ _ _ _ _ _ ao7 _ _ _ _ _ _ _ _ _ _ _ _ _ Ep [] (by decide) (λ_ h=>by cases h) (arH m) (Er m) (Pf m) _ (ev2 m) _ _ _ _ _ _ _ rfl arK
theorem ao9:T .aG ex3:=(.aG _ _ _ _ _ _ (by decide) (by decide) (by decide) (by decide) (λ_ h=>by cases h) (by decide) (bD (.aG _ _ _ _ _ _ (by decide) (by decide) (by decide) (by decide) (λ_ h=>by cases h) (by decide) (λ_ h=>by cases h)) (λ_ h=>by cases h)))
theorem apa (m:Int):ai (cf m) 11 [.t ex3,.t nU,.t (.sl [])] [] (.ret (.t (.bU [zeroV,.int .i64 9])) [] []):=US m _ _ _ _ _ _ ao9 _ _ _ _ _ _ _ _ _ _ _ _ _ Ep [] (by decide) (λ_ h=>by cases h) (arI m) (Er m) (Pf m) _ (ev3 m) 9 rfl
theorem of0 (m:Int):ai (cf m) 19 [.t (.str ts0)] [] (.ret (.t (.bU [zeroV,.int .i64 11])) [] []):=by
 obtain⟨ev,aK,UX,UY,AY⟩:∃ev,aD (cf m) ev/\Has ev 34 (px [.t (.str ts0)] [] (.ret (.t (.bU [ex0,.int .i64 0,.int .i64 0])) [] []))/\Has ev 35 (px [] [] (.ret (.t nU) [] []))/\Has ev 11 (px [.t ex0,.t nU,.t (.sl [])] [] (.ret (.t (.bU [zeroV,.int .i64 11])) [] [])):=⟨_,(aq (fT (akZ m)) (aq (fT (Iz m)) (aq (fT (ao4 m)) aF))),au,(az rfl au),(az rfl (az rfl au))⟩;refine ai.gO ?_;refine AX.start 22 1 Tryz.func19 rfl (by decide) rfl rfl (by decide) ?_;refine AX.frames ?_;exact⟨(),kf ah [oC (jo UX),oF,oC (jo UY),oC (jo AY)]⟩
theorem of1 (m:Int):ai (cf m) 19 [.t (.str ts1)] [] (.ret (.t (.bU [v1,.int .i64 0])) [] []):=by
 obtain⟨ev,aK,UX,UY,AY⟩:∃ev,aD (cf m) ev/\Has ev 34 (px [.t (.str ts1)] [] (.ret (.t (.bU [ex1,.int .i64 0,.int .i64 0])) [] []))/\Has ev 35 (px [] [] (.ret (.t nU) [] []))/\Has ev 11 (px [.t ex1,.t nU,.t (.sl [])] [] (.ret (.t (.bU [v1,.int .i64 0])) [] [])):=⟨_,(aq (fT (ak0 m)) (aq (fT (Iz m)) (aq (fT (ao6 m)) aF))),au,(az rfl au),(az rfl (az rfl au))⟩;refine ai.gO ?_;refine AX.start 22 1 Tryz.func19 rfl (by decide) rfl rfl (by decide) ?_;refine AX.frames ?_;exact⟨(),kf ah [oC (jo UX),oF,oC (jo UY),oC (jo AY)]⟩
theorem of2 (m:Int):ai (cf m) 19 [.t (.str ts2)] [] (.ret (.t (.bU [v2,.int .i64 0])) [] []):=by
 obtain⟨ev,aK,UX,UY,AY⟩:∃ev,aD (cf m) ev/\Has ev 34 (px [.t (.str ts2)] [] (.ret (.t (.bU [ex2,.int .i64 0,.int .i64 0])) [] []))/\Has ev 35 (px [] [] (.ret (.t nU) [] []))/\Has ev 11 (px [.t ex2,.t nU,.t (.sl [])] [] (.ret (.t (.bU [v2,.int .i64 0])) [] [])):=⟨_,(aq (fT (ak1 m)) (aq (fT (Iz m)) (aq (fT (ao8 m)) aF))),au,(az rfl au),(az rfl (az rfl au))⟩;refine ai.gO ?_;refine AX.start 22 1 Tryz.func19 rfl (by decide) rfl rfl (by decide) ?_;refine AX.frames ?_;exact⟨(),kf ah [oC (jo UX),oF,oC (jo UY),oC (jo AY)]⟩
theorem of3 (m:Int):ai (cf m) 19 [.t (.str ts3)] [] (.ret (.t (.bU [zeroV,.int .i64 9])) [] []):=by
 obtain⟨ev,aK,UX,UY,AY⟩:∃ev,aD (cf m) ev/\Has ev 34 (px [.t (.str ts3)] [] (.ret (.t (.bU [ex3,.int .i64 0,.int .i64 0])) [] []))/\Has ev 35 (px [] [] (.ret (.t nU) [] []))/\Has ev 11 (px [.t ex3,.t nU,.t (.sl [])] [] (.ret (.t (.bU [zeroV,.int .i64 9])) [] [])):=⟨_,(aq (fT (ak3 m)) (aq (fT (Iz m)) (aq (fT (apa m)) aF))),au,(az rfl au),(az rfl (az rfl au))⟩;refine ai.gO ?_;refine AX.start 22 1 Tryz.func19 rfl (by decide) rfl rfl (by decide) ?_;refine AX.frames ?_;exact⟨(),kf ah [oC (jo UX),oF,oC (jo UY),oC (jo AY)]⟩
def adO:List (List UInt8×TV):=[(ts0,.t (.bU [zeroV,.int .i64 11])),(ts1,.t (.bU [v1,.int .i64 0])),(ts2,.t (.bU [v2,.int .i64 0])),(ts3,.t (.bU [zeroV,.int .i64 9]))]
theorem adP (m:Int):rz (live.cfg m) 19 (vQ adO):=akY λp hp=>by
 simp only[adO,List.mem_cons,List.not_mem_nil,or_false] at hp;rcases hp with rfl|rfl|rfl|rfl
 ·exact of0 m
 ·exact of1 m
 ·exact of2 m
 ·exact of3 m
def ak6 (m:Int):Ext:=λg=>if Nat.beq g 19 then some (vQ adO) else live.Qn m g
theorem ag7 (m:Int):Gr (live.cfg m) (ak6 m):=zq (by
 intro g s e;unfold ak6 at e;split at e
 ·rename_i h;obtain rfl:=Option.some.inj e;obtain rfl:g=19:=Nat.eq_of_beq_eq_true h;exact adP m
 ·exact live.NW m g s e)
theorem adQ (m:Int):Gr (Yw m) (ak6 m):=zq λg s e ev aK args bu r h G w vs hw hg ha hh hv=>ag7 m g s e ev aK args bu r h G w vs hw hg ha hh hv
theorem adR (m:Int):R0 (cf m) 7 (.bool true):=Lf (adQ m) (by kernel_rfl)
end
end Go.Proofs.YtfdnciimclnncaaGreatDoor.w.e
