/- What the law asks ahead is so. -/
import Derived.Test.YtfdnciimclnncaaGreatDoorAJ
set_option linter.unusedVariables false
set_option linter.unusedSimpArgs false
namespace Go.Proofs.YtfdnciimclnncaaGreatDoor.w.e
open Go Go.Abs
set_option maxRecDepth 100000
set_option maxHeartbeats 2000000
noncomputable section
open Go.Abs.Ty
def v1:Tree:=(aA 0 false 0 [] [] [] [])
def v2:Tree:=(aA 0 true 0 [] [] [] [])
theorem arK:T .az v1:=.az _ _ _ _ _ _ _ (by decide) (by decide) (by decide) (λ_ h=>by cases h) (by decide) (λ_ h=>by cases h)
theorem arL:T .az v2:=.az _ _ _ _ _ _ _ (by decide) (by decide) (by decide) (λ_ h=>by cases h) (by decide) (λ_ h=>by cases h)
theorem Ic (m:Int):ai (cf m) 35 [] [] (.ret (.t nO) [] []):=mF (by kernel_rfl)
theorem apd:T .aD ex0:=(.aD _ _ _ _ _ _ (by decide) (by decide) (by decide) (by decide) (λ_ h=>by cases h) (by decide) (bI (.aD _ _ _ _ _ _ (by decide) (by decide) (by decide) (by decide) (λ_ h=>by cases h) (by decide) (λ_ h=>by cases h)) (bI (.aD _ _ _ _ _ _ (by decide) (by decide) (by decide) (by decide) (λ_ h=>by cases h) (by decide) (λ_ h=>by cases h)) (λ_ h=>by cases h))))
theorem ape (m:Int):ai (cf m) 11 [.t ex0,.t nO,.t (.sl [])] [] (.ret (.t (.cF [zeroV,.int .i64 11])) [] []):=UG m _ _ _ _ _ _ apd _ _ _ _ _ _ _ _ _ _ _ _ _ Ei [] (by decide) (λ_ h=>by cases h) (arG m) (Ej m) (O2 m) _ (ev0 m) 11 rfl
theorem apf:T .aD ex1:=(.aD _ _ _ _ _ _ (by decide) (by decide) (by decide) (by decide) (λ_ h=>by cases h) (by decide) (bI (.aD _ _ _ _ _ _ (by decide) (by decide) (by decide) (by decide) (λ_ h=>by cases h) (by decide) (λ_ h=>by cases h)) (bI (.aD _ _ _ _ _ _ (by decide) (by decide) (by decide) (by decide) (λ_ h=>by cases h) (by decide) (bI (.aD _ _ _ _ _ _ (by decide) (by decide) (by decide) (by decide) (λ_ h=>by cases h) (by decide) (λ_ h=>by cases h)) (bI (.aD _ _ _ _ _ _ (by decide) (by decide) (by decide) (by decide) (λ_ h=>by cases h) (by decide) (λ_ h=>by cases h)) (λ_ h=>by cases h)))) (λ_ h=>by cases h))))
theorem apg (m:Int):ai (cf m) 11 [.t ex1,.t nO,.t (.sl [])] [] (.ret (.t (.cF [v1,.int .i64 0])) [] []):=UF m _ _ _ _ _ _ apf _ _ _ _ _ _ _ _ _ _ _ _ _ Ei [] (by decide) (λ_ h=>by cases h) (arH m) (Ej m) (O2 m) _ (ev1 m) _ _ _ _ _ _ _ rfl arK
theorem aph:T .aD ex2:=(.aD _ _ _ _ _ _ (by decide) (by decide) (by decide) (by decide) (λ_ h=>by cases h) (by decide) (bI (.aD _ _ _ _ _ _ (by decide) (by decide) (by decide) (by decide) (λ_ h=>by cases h) (by decide) (λ_ h=>by cases h)) (bI (.aD _ _ _ _ _ _ (by decide) (by decide) (by decide) (by decide) (λ_ h=>by cases h) (by decide) (bI (.aD _ _ _ _ _ _ (by decide) (by decide) (by decide) (by decide) (λ_ h=>by cases h) (by decide) (λ_ h=>by cases h)) (bI (.aD _ _ _ _ _ _ (by decide) (by decide) (by decide) (by decide) (λ_ h=>by cases h) (by decide) (λ_ h=>by cases h)) (λ_ h=>by cases h)))) (λ_ h=>by cases h))))
theorem api (m:Int):ai (cf m) 11 [.t ex2,.t nO,.t (.sl [])] [] (.ret (.t (.cF [v2,.int .i64 0])) [] []):=UF m _ _ _ _ _ _ aph _ _ _ _ _ _ _ _ _ _ _ _ _ Ei [] (by decide) (λ_ h=>by cases h) (arI m) (Ej m) (O2 m) _ (ev2 m) _ _ _ _ _ _ _ rfl arL
theorem apj:T .aD ex3:=(.aD _ _ _ _ _ _ (by decide) (by decide) (by decide) (by decide) (λ_ h=>by cases h) (by decide) (bI (.aD _ _ _ _ _ _ (by decide) (by decide) (by decide) (by decide) (λ_ h=>by cases h) (by decide) (λ_ h=>by cases h)) (λ_ h=>by cases h)))
theorem apk (m:Int):ai (cf m) 11 [.t ex3,.t nO,.t (.sl [])] [] (.ret (.t (.cF [zeroV,.int .i64 9])) [] []):=UG m _ _ _ _ _ _ apj _ _ _ _ _ _ _ _ _ _ _ _ _ Ei [] (by decide) (λ_ h=>by cases h) (arJ m) (Ej m) (O2 m) _ (ev3 m) 9 rfl
theorem of0 (m:Int):ai (cf m) 19 [.t (.str ts0)] [] (.ret (.t (.cF [zeroV,.int .i64 11])) [] []):=by
 obtain⟨ev,aJ,UK,UL,AN⟩:∃ev,aC (cf m) ev/\Has ev 34 (px [.t (.str ts0)] [] (.ret (.t (.cF [ex0,.int .i64 0,.int .i64 0])) [] []))/\Has ev 35 (px [] [] (.ret (.t nO) [] []))/\Has ev 11 (px [.t ex0,.t nO,.t (.sl [])] [] (.ret (.t (.cF [zeroV,.int .i64 11])) [] [])):=⟨_,(aq (fQ (akX m)) (aq (fQ (Ic m)) (aq (fQ (ape m)) aF))),au,(av rfl au),(av rfl (av rfl au))⟩;refine ai.gO ?_;refine AX.start 22 1 Tryz.func19 rfl (by decide) rfl rfl (by decide) ?_;refine AX.frames ?_;exact⟨(),kf ah [oC (jm UK),oF,oC (jm UL),oC (jm AN)]⟩
theorem of1 (m:Int):ai (cf m) 19 [.t (.str ts1)] [] (.ret (.t (.cF [v1,.int .i64 0])) [] []):=by
 obtain⟨ev,aJ,UK,UL,AN⟩:∃ev,aC (cf m) ev/\Has ev 34 (px [.t (.str ts1)] [] (.ret (.t (.cF [ex1,.int .i64 0,.int .i64 0])) [] []))/\Has ev 35 (px [] [] (.ret (.t nO) [] []))/\Has ev 11 (px [.t ex1,.t nO,.t (.sl [])] [] (.ret (.t (.cF [v1,.int .i64 0])) [] [])):=⟨_,(aq (fQ (akY m)) (aq (fQ (Ic m)) (aq (fQ (apg m)) aF))),au,(av rfl au),(av rfl (av rfl au))⟩;refine ai.gO ?_;refine AX.start 22 1 Tryz.func19 rfl (by decide) rfl rfl (by decide) ?_;refine AX.frames ?_;exact⟨(),kf ah [oC (jm UK),oF,oC (jm UL),oC (jm AN)]⟩
theorem of2 (m:Int):ai (cf m) 19 [.t (.str ts2)] [] (.ret (.t (.cF [v2,.int .i64 0])) [] []):=by
 obtain⟨ev,aJ,UK,UL,AN⟩:∃ev,aC (cf m) ev/\Has ev 34 (px [.t (.str ts2)] [] (.ret (.t (.cF [ex2,.int .i64 0,.int .i64 0])) [] []))/\Has ev 35 (px [] [] (.ret (.t nO) [] []))/\Has ev 11 (px [.t ex2,.t nO,.t (.sl [])] [] (.ret (.t (.cF [v2,.int .i64 0])) [] [])):=⟨_,(aq (fQ (akZ m)) (aq (fQ (Ic m)) (aq (fQ (api m)) aF))),au,(av rfl au),(av rfl (av rfl au))⟩;refine ai.gO ?_;refine AX.start 22 1 Tryz.func19 rfl (by decide) rfl rfl (by decide) ?_;refine AX.frames ?_;exact⟨(),kf ah [oC (jm UK),oF,oC (jm UL),oC (jm AN)]⟩
theorem of3 (m:Int):ai (cf m) 19 [.t (.str ts3)] [] (.ret (.t (.cF [zeroV,.int .i64 9])) [] []):=by
 obtain⟨ev,aJ,UK,UL,AN⟩:∃ev,aC (cf m) ev/\Has ev 34 (px [.t (.str ts3)] [] (.ret (.t (.cF [ex3,.int .i64 0,.int .i64 0])) [] []))/\Has ev 35 (px [] [] (.ret (.t nO) [] []))/\Has ev 11 (px [.t ex3,.t nO,.t (.sl [])] [] (.ret (.t (.cF [zeroV,.int .i64 9])) [] [])):=⟨_,(aq (fQ (ak0 m)) (aq (fQ (Ic m)) (aq (fQ (apk m)) aF))),au,(av rfl au),(av rfl (av rfl au))⟩;refine ai.gO ?_;refine AX.start 22 1 Tryz.func19 rfl (by decide) rfl rfl (by decide) ?_;refine AX.frames ?_;exact⟨(),kf ah [oC (jm UK),oF,oC (jm UL),oC (jm AN)]⟩
def adA:List (List UInt8×TV):=[(ts0,.t (.cF [zeroV,.int .i64 11])),(ts1,.t (.cF [v1,.int .i64 0])),(ts2,.t (.cF [v2,.int .i64 0])),(ts3,.t (.cF [zeroV,.int .i64 9]))]
theorem adB (m:Int):q3 (live.cfg m) 19 (vF adA):=akW λp hp=>by
 simp only[adA,List.mem_cons,List.not_mem_nil,or_false] at hp;rcases hp with rfl|rfl|rfl|rfl
 ·exact of0 m
 ·exact of1 m
 ·exact of2 m
 ·exact of3 m
def ak4 (m:Int):Ext:=λg=>if Nat.beq g 19 then some (vF adA) else live.P8 m g
theorem agT (m:Int):Ge (live.cfg m) (ak4 m):=zi (by
 intro g s e;unfold ak4 at e;split at e
 ·rename_i h;obtain rfl:=Option.some.inj e;obtain rfl:g=19:=Nat.eq_of_beq_eq_true h;exact adB m
 ·exact live.NF m g s e)
theorem adC (m:Int):Ge (Yk m) (ak4 m):=zi λg s e ev aJ args bu r h G w vs hw hg ha hh hv=>agT m g s e ev aJ args bu r h G w vs hw hg ha hh hv
theorem adD (m:Int):R0 (cf m) 7 (.bool true):=KZ (adC m) (by kernel_rfl)
end
end Go.Proofs.YtfdnciimclnncaaGreatDoor.w.e
