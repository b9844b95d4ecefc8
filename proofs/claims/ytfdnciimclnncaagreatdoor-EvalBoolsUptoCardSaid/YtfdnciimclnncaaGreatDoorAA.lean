/- Who is above. -/
import Derived.Test.YtfdnciimclnncaaGreatDoorZ
set_option linter.unusedVariables false
set_option linter.unusedSimpArgs false
namespace Go.Proofs.YtfdnciimclnncaaGreatDoor.w.e
open Go Go.Abs
set_option maxRecDepth 100000
set_option maxHeartbeats 2000000
noncomputable section
theorem Mq {U:List Tree}{f:_->List Tree×Nat×List (TV×TV×Nat)×Nat}{g:_->List Tree×Nat×List (TV×TV×Nat)×Nat}:∀x o r,iP sN (sP U) (λx=>DC x (g x)) x o=some r->iP xY (tR U) (λx=>JY x (f x)) x o=none:=Mg 3 2 (λ_=>rfl) (λ_=>rfl) (by decide)
theorem aqH (m:Int)(l sm U:List Tree)(hl:l.length<=4194304)(hl2:∀y∈l,T .bQ y)(hs:sm.length<=4194304)(hs2:∀y∈sm,T .aH y)(hne:sm≠ [])(hU1:∀y∈sm,y∈U)(hU2:∀e∈l,∀y∈vK e,y∈U)(hU3:U.length<69000000):∃r:{r:List Tree //(∀y∈r,T .aH y)/\r.length<=U.length},ai (cf m) 48 [.t (.sl l),.t (.sl sm)] [] (.ret (.t (.sl r.1)) [] []):=by
 obtain⟨eu,B4⟩:=Rb m U;obtain⟨gU,DD⟩:=Mm m U;obtain⟨xW,mQ⟩:=zG m;obtain⟨B5,B6⟩:=Q9 m;obtain⟨DE,J8⟩:=Ri m;obtain⟨ev,aJ,J9,k4,xZ,DF⟩:∃ev,aC (cf m) ev/\Has ev 89 (JX (iP xY (tR U) (λx=>JY x (eu x))) (iP sN (sP U) (λx=>DC x (gU x))))/\Has ev 90 (iP tP (mP) (λx=>B0 x (xW x)))/\Has ev 91 (iP zJ (vL) (λx=>rU x (B5 x)))/\Has ev 92 (rN (λx y=>T .aS x/\T .aH y) (λx y=>.cF [.int .i64 (DE x y).1,.bool (DE x y).2])):=⟨_,(aq (Ds (dF (λ⟨L,n,es,mc,row,l⟩ hx=>(B4 L n es mc row l hx).1)) (dF (λ⟨row,l⟩ hx=>(DD row l hx).1))) (aq (dF (λ⟨L,n⟩ hx=>(mQ L n hx).1)) (aq (dF (λ⟨L,n,es,mc,row⟩ hx=>(B6 L n es mc row hx).1)) (aq (dL (λx y h=>(J8 x y h).1)) aF)))),au,(av rfl au),(av rfl (av rfl au)),(av rfl (av rfl (av rfl au)))⟩;refine AX.start 48 2 Tryz.func48 rfl (by decide) rfl rfl (by decide) ?_;refine AX.frames ?_;have wM:sP U (l,sm):=⟨hne,List.length_pos_iff.2 hne,hs2,hU1,cm,hU3⟩;have hq1:=DD l sm wM;have mq2:=hq1.2;refine kl (α:=List Tree×Nat×List (TV×TV×Nat)×Nat×List Tree) ah 140737761116160 [] 48 3 [.loc [4],.loc [8,0],.loc [1]] [.loc [4],.loc [8,0],.loc [1]] [0,5,6] (λx=>(match x.2.2.2.2 with| []=>⟨eC 48 [(0,.t (.sl l)),(5,.ptr (.loc [0]) 0),(6,.bX)],[(.loc [0],.cells 120 [.ref (.loc [1]) 0 x.2.1,.map (.loc [2]),.t (.sl l)]),(.loc [1],.arr (28,true) 2 false ((flat x.1).map .t)),(.loc [2],.map x.2.2.1 x.2.2.2.1)],3⟩|_::_=>⟨eC 48 [(0,.t (.sl l)),(5,.ptr (.loc [0]) 0),(6,.ref (.loc [3]) 0 x.2.2.2.2.length)],[(.loc [0],.cells 120 [.ref (.loc [1]) 0 x.2.1,.map (.loc [2]),.t (.sl l)]),(.loc [1],.arr (28,true) 2 false ((flat x.1).map .t)),(.loc [2],.map x.2.2.1 x.2.2.2.1),(.loc [3],.arr (28,true) 2 false ((flat x.2.2.2.2).map .t))],4⟩)) (λx=>(x.2.1=x.1.length)/\(∀y∈x.1,T .aH y)/\(∀y∈x.1,y∈U)/\(∀y∈x.2.2.2.2,T .aH y)/\(x.2.2.2.2.length+(Mt x.2.2.1 U+x.1.length)<=U.length)/\(KM bC x.2.2.1/\KB x.2.2.1 x.2.2.2.1)) (λx=>2*Mt x.2.2.1 U+x.1.length) (⟨(gU (l,sm)).1,(gU (l,sm)).2.1,(gU (l,sm)).2.2.1,(gU (l,sm)).2.2.2,[]⟩) (j4 (Tryz.f48.body.getD .skip) 4) [iG bC [] 0 KM.nil,oC (fF (Dt J9 Mq) Ml (l,sm) wM rfl rfl),iG bC ((gU (l,sm)).2.2.1) ((gU (l,sm)).2.2.2) hq1.2.2.2.2.2.1,dc 28 2 ((gU (l,sm)).1),dc 28 2 ((gU (l,sm)).1),iG bC ((gU (l,sm)).2.2.1) ((gU (l,sm)).2.2.2) hq1.2.2.2.2.2.1] ⟨hq1.2.1,hq1.2.2.1,hq1.2.2.2.1,λy hy=>(by cases hy),(by have h7:=hq1.2.2.2.2.1;simp only[List.length_nil,Nat.zero_add];exact h7),hq1.2.2.2.2.2.1,hq1.2.2.2.2.2.2.1⟩ (λx hok=> ?_);obtain⟨gC,fV,bT,cv,Ka⟩:=x;replace hok:(fV=gC.length)/\(∀y∈gC,T .aH y)/\(∀y∈gC,y∈U)/\(∀y∈Ka,T .aH y)/\(Ka.length+(Mt bT U+gC.length)<=U.length)/\(KM bC bT/\KB bT cv):=hok;obtain⟨gq,fP,k5,nx,pU,b9⟩:=hok;rcases Ka with _|⟨tV,tW⟩
 ·have nM:mP (gC,fV):=⟨(by first|(dsimp only;omega)|omega),fP,gq⟩;have K2:=mQ gC fV nM;rcases aL (decide (((fV:Nat):Int)>0)) with jl|jl
  ·have BT:=of_decide_eq_true jl;have xU:vL (gC,fV,bT,cv,l):=⟨(by first|(dsimp only;omega)|omega),fP,gq,b9.1,b9.2,(by first|(dsimp only;omega)|omega)⟩;have Lm:=B6 gC fV bT cv l xU;obtain⟨rW,rX,jO,Kb,amV,amW⟩:∃a b L2,(B5 (gC,fV,bT,cv,l))=(.agg [.str a,.str b],L2)/\a.length<=4194304/\b.length<=4194304:=by
    obtain⟨a,b,e,ha,hb⟩:=T.cr (fP _ (Lm.2.mem_iff.1 List.mem_cons_self));exact⟨a,b,_,Prod.ext e rfl,ha,hb⟩
   have Oj:=Lm.2;rw[Kb] at Oj;have Ol:jO.length+1=gC.length:=Oj.length_eq;have Dj:∀y∈jO,T .aH y:=λy hy=>fP y (Oj.mem_iff.1 (List.mem_cons_of_mem _ hy))
   have abp:∀y∈jO,y∈U:=λy hy=>k5 y (Oj.mem_iff.1 (List.mem_cons_of_mem _ hy))
   have abq:fV - 1=jO.length:=by have:=gq;omega
   obtain⟨k_8,b_8,abr,ai6⟩:∃(k:Nat) (b:Bool),DE (.sl l) (.agg [.str rW,.str rX])=((k:Int),b)/\(b=true->k<l.length):=by
    obtain⟨k,e,h⟩:=(J8 (.sl l) (.agg [.str rW,.str rX]) ⟨(.aS _ cm hl2),(.aH _ _ cm cm)⟩).2;exact⟨k,_,Prod.ext e rfl,h⟩
   rcases aL (b_8) with p8|p8
   ·have ae1:=ai6 p8;obtain⟨e10,uG⟩:=dw l k_8;have zD:=(hl2 e10 (fU uG));obtain⟨Rj,XH,cK,Ln,TY,T3,T4,T5,Kc,Lp,rfl,HQ,HS,Om,DG,On,Oo,ae2,ae3,ae4,ae5⟩:=T.dH zD;have GC:tR U (jO,(fV - 1),bT,cv,l,cK):=⟨(by first|(dsimp only;omega)|omega),Dj,abq,b9.1,b9.2,DG,(λy hy=>hU2 _ (fU uG) y hy),abp,cm,hU3,(by dsimp only;omega)⟩;have qI:=B4 jO (fV - 1) bT cv l cK GC;have aqI:=qI.2;exact⟨.inl ⟨⟨(eu (jO,(fV - 1),bT,cv,l,cK)).1,(eu (jO,(fV - 1),bT,cv,l,cK)).2.1,(eu (jO,(fV - 1),bT,cv,l,cK)).2.2.1,(eu (jO,(fV - 1),bT,cv,l,cK)).2.2.2,([.agg [.str rW,.str rX]]:List Tree)⟩,⟨⟨qI.2.1,qI.2.2.1,qI.2.2.2.1,(λy hy=>by rw[List.mem_singleton.1 hy];exact .aH _ _ (by assumption) (by assumption)),(by have h7:=qI.2.2.2.2.2.1;have h5:=pU;have h6:=Ol;(try dsimp only at h5 ⊢);(try simp only[List.length_append,List.length_cons,List.length_nil] at h5 ⊢);omega),⟨qI.2.2.2.2.2.2.1,qI.2.2.2.2.2.2.2⟩⟩,(by have h7:=qI.2.2.2.2.2.1;have h8:=qI.2.2.2.2.1;have h6:=Ol;(try dsimp only);omega)⟩⟩,vH ah 140737761116160 [] 48 4 [.loc [0],.loc [13,12,22],.loc [2],.loc [20]] [.loc [0],.loc [13,12,22],.loc [2],.loc [20]] [0,5,6] [dc 28 2 gC,oC (fF k4 jC (gC,fV) nM rfl rfl),dc 28 2 gC,oB jl,dc 28 2 gC,iG bC bT cv b9.1,oC (fF xZ ru (gC,fV,bT,cv,l) xU rfl (congrArg (rU (gC,fV,bT,cv,l)) Kb)),iG bC bT cv b9.1,dc 28 2 jO,oU true 2 ([.agg [.str rW,.str rX]]:List Tree) (eP.cons ⟨rfl,rfl,rfl⟩ eP.nil) (by simp),oA (([.agg [.str rW,.str rX]]:List Tree).length*32) cU,vR 92 [.t (.sl l),.t (.agg [.str rW,.str rX])] (.cF [.int .i64 ((k_8:Nat):Int),.bool b_8]) ((eH DF ⟨(.aS _ cm hl2),(.aH _ _ cm cm)⟩).trans (by rw[abr])),oB p8,oE uG,dc 28 2 jO,iG bC bT cv b9.1,oC (fF (u6 J9) Dz (jO,(fV - 1),bT,cv,l,cK) GC rfl rfl),dc 28 2 ((eu (jO,(fV - 1),bT,cv,l,cK)).1),iG bC ((eu (jO,(fV - 1),bT,cv,l,cK)).2.2.1) ((eu (jO,(fV - 1),bT,cv,l,cK)).2.2.2) qI.2.2.2.2.2.2.1,dc 28 2 ((eu (jO,(fV - 1),bT,cv,l,cK)).1),iG bC ((eu (jO,(fV - 1),bT,cv,l,cK)).2.2.1) ((eu (jO,(fV - 1),bT,cv,l,cK)).2.2.2) qI.2.2.2.2.2.2.1,dc 28 2 ([.agg [.str rW,.str rX]]:List Tree)]⟩
   ·exact⟨.inl ⟨⟨jO,(fV - 1),bT,cv,([.agg [.str rW,.str rX]]:List Tree)⟩,⟨⟨abq,Dj,abp,(λy hy=>by rw[List.mem_singleton.1 hy];exact .aH _ _ (by assumption) (by assumption)),(by have h5:=pU;have h6:=Ol;(try dsimp only at h5 ⊢);(try simp only[List.length_append,List.length_cons,List.length_nil] at h5 ⊢);omega),⟨b9.1,b9.2⟩⟩,(by have h6:=Ol;(try dsimp only);omega)⟩⟩,vH ah 140737761116160 [] 48 4 [.loc [0],.loc [13,12,22],.loc [2],.loc [20]] [.loc [0],.loc [13,12,22],.loc [2],.loc [20]] [0,5,6] [dc 28 2 gC,oC (fF k4 jC (gC,fV) nM rfl rfl),dc 28 2 gC,oB jl,dc 28 2 gC,iG bC bT cv b9.1,oC (fF xZ ru (gC,fV,bT,cv,l) xU rfl (congrArg (rU (gC,fV,bT,cv,l)) Kb)),iG bC bT cv b9.1,dc 28 2 jO,oU true 2 ([.agg [.str rW,.str rX]]:List Tree) (eP.cons ⟨rfl,rfl,rfl⟩ eP.nil) (by simp),oA (([.agg [.str rW,.str rX]]:List Tree).length*32) cU,vR 92 [.t (.sl l),.t (.agg [.str rW,.str rX])] (.cF [.int .i64 ((k_8:Nat):Int),.bool b_8]) ((eH DF ⟨(.aS _ cm hl2),(.aH _ _ cm cm)⟩).trans (by rw[abr])),oB p8,dc 28 2 jO,iG bC bT cv b9.1,dc 28 2 ([.agg [.str rW,.str rX]]:List Tree)]⟩
  ·have BT:=of_decide_eq_false jl;refine E8 ah 140737761116160 [] [dc 28 2 gC,oC (fF k4 jC (gC,fV) nM rfl rfl),dc 28 2 gC,oB jl] ?_;refine⟨⟨[],λy hy=>(by cases hy),Nat.zero_le _⟩,qQ ah 140737761116160 [] []⟩
 ·have yo:mP (gC,fV):=⟨(by first|(dsimp only;omega)|omega),fP,gq⟩;have amI:=mQ gC fV yo;rcases aL (decide (((fV:Nat):Int)>0)) with ez|ez
  ·have DH:=of_decide_eq_true ez;have Ba:vL (gC,fV,bT,cv,l):=⟨(by first|(dsimp only;omega)|omega),fP,gq,b9.1,b9.2,(by first|(dsimp only;omega)|omega)⟩;have N7:=B6 gC fV bT cv l Ba;obtain⟨lq,lu,fN,Ke,ai7,ai8⟩:∃a b L2,(B5 (gC,fV,bT,cv,l))=(.agg [.str a,.str b],L2)/\a.length<=4194304/\b.length<=4194304:=by
    obtain⟨a,b,e,ha,hb⟩:=T.cr (fP _ (N7.2.mem_iff.1 List.mem_cons_self));exact⟨a,b,_,Prod.ext e rfl,ha,hb⟩
   have DI:=N7.2;rw[Ke] at DI;have DJ:fN.length+1=gC.length:=DI.length_eq;have DK:∀y∈fN,T .aH y:=λy hy=>fP y (DI.mem_iff.1 (List.mem_cons_of_mem _ hy))
   have Rk:∀y∈fN,y∈U:=λy hy=>k5 y (DI.mem_iff.1 (List.mem_cons_of_mem _ hy))
   have Rl:fV - 1=fN.length:=by have:=gq;omega
   obtain⟨T6,T7,Rm,abt⟩:∃(k:Nat) (b:Bool),DE (.sl l) (.agg [.str lq,.str lu])=((k:Int),b)/\(b=true->k<l.length):=by
    obtain⟨k,e,h⟩:=(J8 (.sl l) (.agg [.str lq,.str lu]) ⟨(.aS _ cm hl2),(.aH _ _ cm cm)⟩).2;exact⟨k,_,Prod.ext e rfl,h⟩
   rcases aL (T7) with jt|jt
   ·have abu:=abt jt;obtain⟨e20,T8⟩:=dw l T6;have abv:=(hl2 e20 (fU T8));obtain⟨Rn,XI,cL,Lr,T9,Ua,Ub,Uc,Kf,Ls,rfl,ae6,ae7,ae8,Oq,ae9,afa,afb,afc,afd,afe⟩:=T.dH abv;have Ro:tR U (fN,(fV - 1),bT,cv,l,cL):=⟨(by first|(dsimp only;omega)|omega),DK,Rl,b9.1,b9.2,Oq,(λy hy=>hU2 _ (fU T8) y hy),Rk,cm,hU3,(by dsimp only;omega)⟩;have tX:=B4 fN (fV - 1) bT cv l cL Ro;have aqJ:=tX.2;exact⟨.inl ⟨⟨(eu (fN,(fV - 1),bT,cv,l,cL)).1,(eu (fN,(fV - 1),bT,cv,l,cL)).2.1,(eu (fN,(fV - 1),bT,cv,l,cL)).2.2.1,(eu (fN,(fV - 1),bT,cv,l,cL)).2.2.2,(tV::tW)++([.agg [.str lq,.str lu]]:List Tree)⟩,⟨⟨tX.2.1,tX.2.2.1,tX.2.2.2.1,(λy hy=>(List.mem_append.1 hy).elim (nx y) (λh=>by rw[List.mem_singleton.1 h];exact .aH _ _ (by assumption) (by assumption))),(by have h7:=tX.2.2.2.2.2.1;have h5:=pU;have h6:=DJ;(try dsimp only at h5 ⊢);(try simp only[List.length_append,List.length_cons,List.length_nil] at h5 ⊢);omega),⟨tX.2.2.2.2.2.2.1,tX.2.2.2.2.2.2.2⟩⟩,(by have h7:=tX.2.2.2.2.2.1;have h8:=tX.2.2.2.2.1;have h6:=DJ;(try dsimp only);omega)⟩⟩,vH ah 140737761116160 [] 48 4 [.loc [0],.loc [14,12,22],.loc [2],.loc [3]] [.loc [0],.loc [14,12,22],.loc [2],.loc [3]] [0,5,6] [dc 28 2 gC,oC (fF k4 jC (gC,fV) yo rfl rfl),dc 28 2 gC,oB ez,dc 28 2 gC,iG bC bT cv b9.1,oC (fF xZ ru (gC,fV,bT,cv,l) Ba rfl (congrArg (rU (gC,fV,bT,cv,l)) Ke)),iG bC bT cv b9.1,dc 28 2 fN,oU true 2 ([.agg [.str lq,.str lu]]:List Tree) (eP.cons ⟨rfl,rfl,rfl⟩ eP.nil) (by simp),oW true 2 (tV::tW) (bk nx),oA (((tV::tW).length+([.agg [.str lq,.str lu]]:List Tree).length) *32) cU,vR 92 [.t (.sl l),.t (.agg [.str lq,.str lu])] (.cF [.int .i64 ((T6:Nat):Int),.bool T7]) ((eH DF ⟨(.aS _ cm hl2),(.aH _ _ cm cm)⟩).trans (by rw[Rm])),oB jt,oE T8,dc 28 2 fN,iG bC bT cv b9.1,oC (fF (u6 J9) Dz (fN,(fV - 1),bT,cv,l,cL) Ro rfl rfl),dc 28 2 ((eu (fN,(fV - 1),bT,cv,l,cL)).1),iG bC ((eu (fN,(fV - 1),bT,cv,l,cL)).2.2.1) ((eu (fN,(fV - 1),bT,cv,l,cL)).2.2.2) tX.2.2.2.2.2.2.1,dc 28 2 ((eu (fN,(fV - 1),bT,cv,l,cL)).1),iG bC ((eu (fN,(fV - 1),bT,cv,l,cL)).2.2.1) ((eu (fN,(fV - 1),bT,cv,l,cL)).2.2.2) tX.2.2.2.2.2.2.1,dc 28 2 ((tV::tW)++([.agg [.str lq,.str lu]]:List Tree))]⟩
   ·exact⟨.inl ⟨⟨fN,(fV - 1),bT,cv,(tV::tW)++([.agg [.str lq,.str lu]]:List Tree)⟩,⟨⟨Rl,DK,Rk,(λy hy=>(List.mem_append.1 hy).elim (nx y) (λh=>by rw[List.mem_singleton.1 h];exact .aH _ _ (by assumption) (by assumption))),(by have h5:=pU;have h6:=DJ;(try dsimp only at h5 ⊢);(try simp only[List.length_append,List.length_cons,List.length_nil] at h5 ⊢);omega),⟨b9.1,b9.2⟩⟩,(by have h6:=DJ;(try dsimp only);omega)⟩⟩,vH ah 140737761116160 [] 48 4 [.loc [0],.loc [14,12,22],.loc [2],.loc [3]] [.loc [0],.loc [14,12,22],.loc [2],.loc [3]] [0,5,6] [dc 28 2 gC,oC (fF k4 jC (gC,fV) yo rfl rfl),dc 28 2 gC,oB ez,dc 28 2 gC,iG bC bT cv b9.1,oC (fF xZ ru (gC,fV,bT,cv,l) Ba rfl (congrArg (rU (gC,fV,bT,cv,l)) Ke)),iG bC bT cv b9.1,dc 28 2 fN,oU true 2 ([.agg [.str lq,.str lu]]:List Tree) (eP.cons ⟨rfl,rfl,rfl⟩ eP.nil) (by simp),oW true 2 (tV::tW) (bk nx),oA (((tV::tW).length+([.agg [.str lq,.str lu]]:List Tree).length) *32) cU,vR 92 [.t (.sl l),.t (.agg [.str lq,.str lu])] (.cF [.int .i64 ((T6:Nat):Int),.bool T7]) ((eH DF ⟨(.aS _ cm hl2),(.aH _ _ cm cm)⟩).trans (by rw[Rm])),oB jt,dc 28 2 fN,iG bC bT cv b9.1,dc 28 2 ((tV::tW)++([.agg [.str lq,.str lu]]:List Tree))]⟩
  ·have DH:=of_decide_eq_false ez;refine E8 ah 140737761116160 [] [dc 28 2 gC,oC (fF k4 jC (gC,fV) yo rfl rfl),dc 28 2 gC,oB ez] ?_;refine⟨⟨(tV::tW),nx,(by have h5:=pU;(try dsimp only at h5 ⊢);(try simp only[List.length_cons] at h5 ⊢);omega)⟩,qQ ah 140737761116160 [] [oW true 2 (tV::tW) (bk nx)]⟩
theorem ai9 (m:Int)(row:List Tree):ai (cf m) 89 [.ptr (.arg 0) 0,.t (.sl [])] [.cells 120 [.bX,.map (.arg 1),.t (.sl row)],.map [] 0] (.ret (.t (.cF [])) [.cells 120 [.bX,.map (.arg 1),.t (.sl row)],.map [] 0] []):=by
 obtain⟨ev,aJ⟩:∃ev,aC (cf m) ev:=⟨_,aF⟩;refine ai.gO ?_;refine AX.start 36 2 Tryz.func89 rfl (by decide) rfl rfl (by decide) ?_;refine AX.frames ?_;exact⟨(),qQ ah 0 [1] [oF,iG bC [] 0 KM.nil,iG bC [] 0 KM.nil]⟩
theorem aja (m:Int):ai (cf m) 90 [.t (.sl [])] [] (.ret (.t (.int .i64 0)) [] []):=by
 obtain⟨ev,aJ⟩:∃ev,aC (cf m) ev:=⟨_,aF⟩;refine ai.gO ?_;refine AX.start 5 1 Tryz.func90 rfl (by decide) rfl rfl (by decide) ?_;refine AX.frames ?_;exact⟨(),kf ah []⟩
theorem aqK (m:Int)(l:List Tree):ai (cf m) 48 [.t (.sl l),.t (.sl [])] [] (.ret (.t (.sl [])) [] []):=by
 obtain⟨ev,aJ,aqL,aqM⟩:∃ev,aC (cf m) ev/\Has ev 89 (px [.ptr (.arg 0) 0,.t (.sl [])] [.cells 120 [.bX,.map (.arg 1),.t (.sl l)],.map [] 0] (.ret (.t (.cF [])) [.cells 120 [.bX,.map (.arg 1),.t (.sl l)],.map [] 0] []))/\Has ev 90 (px [.t (.sl [])] [] (.ret (.t (.int .i64 0)) [] [])):=⟨_,(aq (fQ (ai9 m l)) (aq (fQ (aja m)) aF)),au,(av rfl au)⟩;refine ai.gO ?_;refine AX.start 48 2 Tryz.func48 rfl (by decide) rfl rfl (by decide) ?_;refine AX.frames ?_;exact⟨(),qQ ah 131072 [4] [iG bC [] 0 KM.nil,oC (jm aqL),iG bC [] 0 KM.nil,oC (jm aqM),oF]⟩
def DL (x:Tree):Prop:=(tO x).length<=64/\∀e∈tO x,(vK e).length<=16
theorem Rp {l:List Tree}{n:Nat}(h:∀e∈l,(vK e).length<=n):(l.flatMap vK).length<=l.length*n:=by
 induction l with
 |nil=>simp
 |cons a r ih=>
  have h1:=h a List.mem_cons_self
  have h2:=ih λe he=>h e (List.mem_cons_of_mem _ he)
  rw[List.flatMap_cons,List.length_append,List.length_cons,Nat.succ_mul]
  omega
theorem aff (m:Int):∃F:Tree->Tree->List Tree,∀x y,((T .aS x/\DL x)/\(T .fe y/\(tO y).length<=16))->R2 (cf m) 48 x y (.sl (F x y))/\((∀u∈F x y,T .aH u)/\(F x y).length<=1040):=by
 refine tD (P:=λx y=>(T .aS x/\DL x)/\(T .fe y/\(tO y).length<=16)) (mk:=λ(r:List Tree)=>.sl r) (Post:=λx y r=>(∀u∈r,T .aH u)/\r.length<=1040) λx y h=> ?_
 obtain⟨⟨hx,hr⟩,hy,hs⟩:=h;obtain⟨l,rfl,hl,hl2⟩:=T.fB hx;obtain⟨sm,rfl,F5,hs2⟩:=T.uX hy;have aqN:l.length<=64:=hr.1;have aqO:sm.length<=16:=hs;by_cases hne:sm=[]
 ·subst hne;exact⟨⟨[],λ_ h=>(by cases h),Nat.zero_le _⟩,aqK m l⟩
 ·have hU:(sm++l.flatMap vK).length<=1040:=by
   have:=Rp (l:=l) hr.2;rw[List.length_append];omega
  obtain⟨⟨r,h1,h2⟩,h3⟩:=aqH m l sm (sm++l.flatMap vK) hl hl2 F5 hs2 hne (λy hy=>List.mem_append_left _ hy) (λe he y hy=>List.mem_append_right _ (List.mem_flatMap.2 ⟨e,he,hy⟩)) (by omega);exact⟨⟨r,h1,by omega⟩,h3⟩
theorem Fk (m:Int):∃F:Tree->Int,∀x,(T .aS x)->R1 (cf m) 24 x (.int .i64 (F x))/\((F x)=0->DL x):=by
 refine BF (P:=λx=>T .aS x) (mk:=λ(r:Int)=>.int .i64 r) (Post:=λx r=>r=0->DL x) λx hx=> ?_
 show ∃r:{r:Int // r=0->DL x},ai (cf m) 24 [.t x] [] (.ret (.t (.int .i64 r.1)) [] []);have bw:=hx;obtain⟨v_1,rfl,cI,cH⟩:=T.fB bw;obtain⟨ajb,amX⟩:=aeK m;obtain⟨ahs,amY⟩:=abo m;obtain⟨afg,amZ⟩:=aff m;obtain⟨Gx,QW⟩:=JS m;obtain⟨ev,aJ,aqP,aht,am0,Dr⟩:∃ev,aC (cf m) ev/\Has ev 43 (mL (λx=>T .bQ x) (λx=>.int .i64 (ajb x)))/\Has ev 44 (rN (λx y=>T .aS x/\y=.fn (.func 45)) (λx y=>.bool (ahs x y)))/\Has ev 48 (rN (λx y=>(T .aS x/\DL x)/\(T .fe y/\(tO y).length<=16)) (λx y=>.sl (afg x y)))/\Has ev 47 (rN (λx y=>T .fe x/\T .aH y) (λx y=>.bool (Gx x y))):=⟨_,(aq (bR (λx h=>(amX x h).1)) (aq (dL (λx y h=>(amY x y h))) (aq (dL (λx y h=>(amZ x y h).1)) (aq (dL (λx y h=>(QW x y h).1)) aF)))),au,(av rfl au),(av rfl (av rfl au)),(av rfl (av rfl (av rfl au)))⟩;refine AX.start 54 1 Tryz.func24 rfl (by decide) rfl rfl (by decide) ?_;refine AX.frames ?_;rcases aL (decide (((v_1.length:Nat):Int)>64)) with cq|cq
 ·have jN:=of_decide_eq_true cq;refine⟨⟨2, ?_⟩,kf ah [oB cq]⟩;intro h;first|exact absurd h (by decide)|exact absurd h (by assumption)|exact hrow
 ·have jN:=of_decide_eq_false cq;refine kl (α:=Nat×List (TV×TV×Nat)×Nat) ah 0 [] 54 1 [.loc [4]] [.loc [4]] [0,3,13,14,15] (λx=>⟨eC 54 [(0,.t (.sl v_1)),(3,.map (.loc [0])),(13,.t (.sl v_1)),(14,.t (.int .i64 ((v_1.length:Nat):Int))),(15,.t (.int .i64 ((x.1:Nat):Int)))],[(.loc [0],.map x.2.1 x.2.2)],1⟩) (λx=>(x.1<=v_1.length)/\(∀e∈v_1.take x.1,(vK e).length<=16)/\(KM bC x.2.1/\KB x.2.1 x.2.2)) (λx=>v_1.length - x.1) (⟨0,[],0⟩) (j4 (Tryz.f24.body.getD .skip) 5) [oB cq,iG bC [] 0 KM.nil] ⟨Nat.zero_le _,λe he=>(by cases he),KM.nil,KB.nil⟩ (λx hok=> ?_);obtain⟨wJ,bT,cv⟩:=x;replace hok:(wJ<=v_1.length)/\(∀e∈v_1.take wJ,(vK e).length<=16)/\(KM bC bT/\KB bT cv):=hok;obtain⟨gq,fP,k5⟩:=hok;rcases aL (decide (((wJ:Nat):Int)<((v_1.length:Nat):Int))) with gP|gP
  ·have tI:=of_decide_eq_true gP;obtain⟨e5,ku⟩:=dw v_1 wJ;have k9:=(cH e5 (fU ku));obtain⟨dO,fD,kG,eF,ia,ic,ig,ij,dU,eG,rfl,pJ,rR,tJ,tK,tL,pK,TW,Oa,TX,Oc⟩:=T.dH k9;have hp7:=(amX (.agg [.str dO,.str fD,.sl kG,.int .u8 eF,.bool ia,.int .i64 ic,.str ig,.str ij,.sl dU,.sl eG]) k9).2;have am1:=bS aqP (x:=.agg [.str dO,.str fD,.sl kG,.int .u8 eF,.bool ia,.int .i64 ic,.str ig,.str ij,.sl dU,.sl eG]) k9;rcases aL (((ajb (.agg [.str dO,.str fD,.sl kG,.int .u8 eF,.bool ia,.int .i64 ic,.str ig,.str ij,.sl dU,.sl eG])) != 0)) with jq|jq
   ·have BS:=cG jq;refine kx ah [oB gP,oE ku,oC am1,oB jq] ?_;refine⟨⟨(ajb (.agg [.str dO,.str fD,.sl kG,.int .u8 eF,.bool ia,.int .i64 ic,.str ig,.str ij,.sl dU,.sl eG])), ?_⟩,kf ah []⟩;intro h;first|exact absurd h (by decide)|exact absurd h (by assumption)|exact hrow
   ·have BS:=bE jq;exact⟨.inl ⟨⟨wJ+1,(nI bT cv (.agg [.str dO,.str fD]) (IntKind.wrap .i64 ((kX bT (.agg [.str dO,.str fD]))+1))),(uz bT cv (.agg [.str dO,.str fD]))⟩,⟨⟨(by show(wJ+1)<=v_1.length;omega),(λy hy=>by rw[E1 ku] at hy;exact(List.mem_append.1 hy).elim (fP y) (λh=>by rw[List.mem_singleton.1 h];exact hp7 (bE jq))),⟨(iU k5.1 ⟨_,_,rfl⟩ _ _),(KB.up k5.2 k5.1 _ _)⟩⟩,(by show(v_1.length - (wJ+1))<(v_1.length - wJ);omega)⟩⟩,kr ah 54 1 [.loc [0]] [0,3,13,14,15] [oB gP,oE ku,oC am1,oB jq,oO (wC (P:=(cf m).P) (es:=bT) (x:=(.agg [.str dO,.str fD])) B3 rfl B2 TQ rfl tQ k5.1 ⟨_,_,rfl⟩),oZ,oJ (C2 (P:=(cf m).P) (es:=bT) (x:=(.agg [.str dO,.str fD])) B3 rfl B2 TQ rfl tQ k5.1 ⟨_,_,rfl⟩ cv),oM (C3 (x:=(.agg [.str dO,.str fD])) k5.1 k5.2 (kX bT (.agg [.str dO,.str fD])) (IntKind.wrap .i64 ((kX bT (.agg [.str dO,.str fD]))+1))),oP (wD (P:=(cf m).P) (es:=bT) (x:=(.agg [.str dO,.str fD])) B3 rfl B2 TQ rfl tQ k5.1 ⟨_,_,rfl⟩ cv),oI (wJ) (by omega),iG bC (nI bT cv (.agg [.str dO,.str fD]) (IntKind.wrap .i64 ((kX bT (.agg [.str dO,.str fD]))+1))) (uz bT cv (.agg [.str dO,.str fD])) (iU k5.1 ⟨_,_,rfl⟩ _ _)]⟩
  ·have tI:=of_decide_eq_false gP;refine kx ah [oB gP] ?_;rcases aL (decide (((bT.length:Nat):Int)<((v_1.length:Nat):Int))) with p8|p8
   ·have Fe:=of_decide_eq_true p8;refine⟨⟨10, ?_⟩,kf ah [oB p8]⟩;intro h;first|exact absurd h (by decide)|exact absurd h (by assumption)|exact hrow
   ·have Fe:=of_decide_eq_false p8;rcases aL ((!(ahs (.sl v_1) (.fn (.func 45))))) with k3|k3
    ·refine⟨⟨5, ?_⟩,kf ah [oB p8,oC (eH aht (x:=.sl v_1) (y:=.fn (.func 45)) ⟨bw,rfl⟩),oB k3]⟩;intro h;first|exact absurd h (by decide)|exact absurd h (by assumption)|exact hrow
    ·have hrow:DL (.sl v_1):=⟨by show List.length v_1<=64;omega,λe he=>fP e (by rw[List.take_of_length_le (by omega)];exact he)⟩;refine kl (α:=Nat) ah 0 [] 54 0 [] [] [0,40,41,42] (λx=>⟨eC 54 [(0,.t (.sl v_1)),(40,.t (.sl v_1)),(41,.t (.int .i64 ((v_1.length:Nat):Int))),(42,.t (.int .i64 ((x:Nat):Int)))],[],0⟩) (λx=>(x<=v_1.length)) (λx=>v_1.length - x) 0 (j4 (Tryz.f24.body.getD .skip) 17) [oB p8,oC (eH aht (x:=.sl v_1) (y:=.fn (.func 45)) ⟨bw,rfl⟩),oB k3] (by show(0<=v_1.length);first|trivial|omega|(refine⟨?_, ?_⟩<;>first|omega|exact SM.nil)|simp) (λx hok=> ?_);obtain⟨rA,zq⟩:∃y,y=x:=⟨x,rfl⟩;subst zq;replace hok:(rA<=v_1.length):=hok;have JM:=hok;rcases aL (decide (((rA:Nat):Int)<((v_1.length:Nat):Int))) with zM|zM
     ·have abw:=of_decide_eq_true zM;obtain⟨e13,tY⟩:=dw v_1 rA;have Mr:=(cH e13 (fU tY));obtain⟨zN,Fl,qJ,adG,ajc,ajd,aje,ajf,abx,adH,rfl,VE,VF,VG,DM,VH,VI,afh,apF,apG,apH⟩:=T.dH Mr;have ajg:=(amZ (.sl v_1) (.sl qJ) ⟨⟨bw,hrow⟩,⟨(.fe _ cm DM),hrow.2 _ (fU tY)⟩⟩).2;have as3:=ajg.2;rcases aL ((Gx (.sl (afg (.sl v_1) (.sl qJ))) (.agg [.str zN,.str Fl]))) with oe|oe
      ·refine kx ah [oB zM,oE tY,oC (eH am0 (x:=.sl v_1) (y:=.sl qJ) ⟨⟨bw,hrow⟩,⟨(.fe _ cm DM),hrow.2 _ (fU tY)⟩⟩),oC (eH Dr (x:=.sl (afg (.sl v_1) (.sl qJ))) (y:=.agg [.str zN,.str Fl]) ⟨(.fe _ cm ajg.1),(.aH _ _ cm cm)⟩),oB oe] ?_;refine⟨⟨12, ?_⟩,kf ah []⟩;intro h;first|exact absurd h (by decide)|exact absurd h (by assumption)|exact hrow
      ·exact⟨.inl ⟨rA+1,⟨(by show(rA+1)<=v_1.length;omega),(by show(v_1.length - (rA+1))<(v_1.length - rA);omega)⟩⟩,kr ah 54 0 [] [0,40,41,42] [oB zM,oE tY,oC (eH am0 (x:=.sl v_1) (y:=.sl qJ) ⟨⟨bw,hrow⟩,⟨(.fe _ cm DM),hrow.2 _ (fU tY)⟩⟩),oC (eH Dr (x:=.sl (afg (.sl v_1) (.sl qJ))) (y:=.agg [.str zN,.str Fl]) ⟨(.fe _ cm ajg.1),(.aH _ _ cm cm)⟩),oB oe,oI (rA) (by omega)]⟩
     ·have abw:=of_decide_eq_false zM;refine kx ah [oB zM] ?_;refine⟨⟨0, ?_⟩,kf ah []⟩;intro h;first|exact absurd h (by decide)|exact absurd h (by assumption)|exact hrow
def aM (r:Tree ⊕ Int)(os:List aO):br:=match r with
 |.inl x=>.ret (.t x) os []
 |.inr w=>.panic (.t (.iface 60 (.agg [.int .i64 w]))) (os.map some)
def Kg:List TV->List aO->Option br:=λargs os=>match args,os with
 | [.t (.bool b),.t (.int .i64 w)],[]=>some (aM (cond b (.inl (.cF [])) (.inr w)) [])
 |_,_=>none
def sw:List TV->List aO->Option br:=λargs os=>match args,os with
 | [.t (.agg [.int .u8 k,.bool b,.int .i64 n,.str s,.str t,.sl ns,.sl l]),.t (.int .u8 k2)],[]=>some (aM (cond (k==k2) (.inl (aA k b n s t ns l)) (.inr 7)) [])
 |_,_=>none
theorem ajh (m:Int)(w:Int):ai (cf m) 93 [.t (.bool true),.t (.int .i64 w)] [] (aM (.inl (.cF [])) []):=by
 obtain⟨ev,aJ⟩:∃ev,aC (cf m) ev:=⟨_,aF⟩;refine ai.gO ?_;refine AX.start 9 2 Tryz.func93 rfl (by decide) rfl rfl (by decide) ?_;refine AX.frames ?_;exact⟨(),kf ah [oF]⟩
theorem aji (m:Int)(w:Int):ai (cf m) 93 [.t (.bool false),.t (.int .i64 w)] [] (aM (.inr w) []):=by
 obtain⟨ev,aJ⟩:∃ev,aC (cf m) ev:=⟨_,aF⟩;refine ai.gO ?_;refine AX.start 9 2 Tryz.func93 rfl (by decide) rfl rfl (by decide) ?_;refine AX.frames ?_;exact⟨(),kf ah [oT]⟩
theorem zO (m:Int):kN (cf m) 93 Kg:=λargs os r h=>by
 unfold Kg at h;split at h
 ·rename_i b w;cases h;cases b with
  |true=>exact ajh m w
  |false=>exact aji m w
 ·cases h
theorem ajj (m:Int)(k:Int)(b:Bool)(n:Int)(s t:List UInt8)(ns l:List Tree):ai (cf m) 52 [.t (aA k b n s t ns l),.t (.int .u8 k)] [] (aM (.inl (aA k b n s t ns l)) []):=by
 obtain⟨ev,aJ,rY⟩:∃ev,aC (cf m) ev/\Has ev 93 Kg:=⟨_,(aq (zO m) aF),au⟩;refine ai.gO ?_;refine AX.start 11 2 Tryz.func52 rfl (by decide) rfl rfl (by decide) ?_;refine AX.frames ?_;exact⟨(),kf ah [oC (show ev 93 [.t (.bool (k==k)),.t (.int .i64 7)] []=some (aM (.inl (.cF [])) []) from rY _ _ _ (by show some (aM (cond ((k==k)) _ _) [])=_;rw[(beq_self_eq_true k)];rfl))]⟩
theorem ajk (m:Int)(k k2:Int)(hk:(k==k2)=false)(b:Bool)(n:Int)(s t:List UInt8)(ns l:List Tree):ai (cf m) 52 [.t (aA k b n s t ns l),.t (.int .u8 k2)] [] (aM (.inr 7) []):=by
 obtain⟨ev,aJ,rY⟩:∃ev,aC (cf m) ev/\Has ev 93 Kg:=⟨_,(aq (zO m) aF),au⟩;refine ai.gO ?_;refine AX.start 11 2 Tryz.func52 rfl (by decide) rfl rfl (by decide) ?_;refine AX.frames ?_;exact⟨(),kf ah [oC (show ev 93 [.t (.bool (k==k2)),.t (.int .i64 7)] []=some (aM (.inr (7)) []) from rY _ _ _ (by show some (aM (cond ((k==k2)) _ _) [])=_;rw[hk];rfl))]⟩
theorem jX (m:Int):kN (cf m) 52 sw:=λargs os r h=>by
 unfold sw at h;split at h
 ·rename_i k b n s t ns l k2;cases h;cases hk:(k==k2) with
  |true=>obtain rfl:=eq_of_beq hk;exact ajj m k b n s t ns l
  |false=>exact ajk m k k2 hk b n s t ns l
 ·cases h
def ajl:br->Option (Int×Int)
 |.ret (.t (.cF [.int .u64 a,.int .u64 b])) [] []=>some (a,b)
 |_=>none
theorem afi:∀r b,ajl r=some b->r=.ret (.t (.cF [.int .u64 b.1,.int .u64 b.2])) [] []:=λr b h=>by
 unfold ajl at h;split at h
 ·cases h;rfl
 ·cases h
theorem aby (m:Int)(x y:Int):∃r:Int×Int,ai (cf m) 220 [.t (.int .u64 x),.t (.int .u64 y)] [] (.ret (.t (.cF [.int .u64 r.1,.int .u64 r.2])) [] []):=by
 obtain⟨ev,aJ⟩:∃ev,aC (cf m) ev:=⟨_,aF⟩;refine AX.start 51 2 Tryz.func220 rfl (by decide) rfl rfl (by decide) ?_;refine AX.frames ?_;exact alS (f:=0) (n:=3000) (once:=[]) ah aJ ajl (λr=>.ret (.t (.cF [.int .u64 r.1,.int .u64 r.2])) [] []) afi (rq 14 oZ ([])) (by kernel_rfl) (by kernel_rfl)
theorem Ud (m:Int):∃F:Tree->Tree->Int×Int,∀x y,(∃k:Int,x=.int .u64 k)/\(∃k:Int,y=.int .u64 k)->R2 (cf m) 220 x y (.cF [.int .u64 (F x y).1,.int .u64 (F x y).2]):=zo (λr:Int×Int=>.cF [.int .u64 r.1,.int .u64 r.2]) λx y h=>by
 obtain⟨⟨a,rfl⟩,⟨b,rfl⟩⟩:=h;exact aby m a b
theorem XJ (m:Int):∃F:Tree->Tree->Bool,∀x y,(T .int64 x/\T .int64 y)->R2 (cf m) 190 x y (.bool (F x y))/\(True):=by
 refine tD (P:=λx y=>T .int64 x/\T .int64 y) (mk:=λ(r:Bool)=>.bool r) (Post:=λx y r=>True) λx y hx=> ?_
 obtain⟨hx,hy⟩:=hx;show ∃r:{r:Bool // True},ai (cf m) 190 [.t x,.t y] [] (.ret (.t (.bool r.1)) [] []);have bw:=hx;obtain⟨v_1,rfl⟩:=T.nV bw;have dB:=hy;obtain⟨v_2,rfl⟩:=T.nV dB;obtain⟨zP,am2⟩:=aaG m;obtain⟨Ms,am3⟩:=Ud m;obtain⟨ev,aJ,ahu,am4⟩:∃ev,aC (cf m) ev/\Has ev 219 (mL (λx=>T .int64 x) (λx=>.int .u64 (zP x)))/\Has ev 220 (rN (λx y=>(∃k:Int,x=.int .u64 k)/\(∃k:Int,y=.int .u64 k)) (λx y=>.cF [.int .u64 (Ms x y).1,.int .u64 (Ms x y).2])):=⟨_,(aq (bR (λx h=>(am2 x h).1)) (aq (dL (λx y h=>(am3 x y h))) aF)),au,(av rfl au)⟩;refine AX.start 33 2 Tryz.func190 rfl (by decide) rfl rfl (by decide) ?_;refine AX.frames ?_;have afj:=eH am4 (x:=.int .u64 (zP (.int .i64 v_1))) (y:=.int .u64 (zP (.int .i64 v_2))) ⟨⟨_,rfl⟩,⟨_,rfl⟩⟩;have afk:=bS ahu (x:=.int .i64 v_1) bw;have afl:=bS ahu (x:=.int .i64 v_2) dB;rcases aL ((!(decide (v_1<0)==decide (v_2<0)))) with bL|bL
 ·have mC:=ne_of_beq_false (wq bL);rcases aL (decide ((Ms (.int .u64 (zP (.int .i64 v_1))) (.int .u64 (zP (.int .i64 v_2)))).1>0)) with hg4|hg4
  ·have Ot:=of_decide_eq_true hg4;refine⟨⟨true, ?_⟩,kf ah ([oC afk,oC afl,oC afj,oB bL,oZ]++rq 4 (oB hg4) ([]))⟩;trivial
  ·have Ot:=of_decide_eq_false hg4;refine⟨⟨decide ((Ms (.int .u64 (zP (.int .i64 v_1))) (.int .u64 (zP (.int .i64 v_2)))).2>(IntKind.wrap .u64 (9223372036854775807+1))), ?_⟩,kf ah ([oC afk,oC afl,oC afj,oB bL,oZ]++rq 4 (oB hg4) ([]))⟩;trivial
 ·have mC:=eq_of_beq (pH bL);rcases aL (decide ((Ms (.int .u64 (zP (.int .i64 v_1))) (.int .u64 (zP (.int .i64 v_2)))).1>0)) with nJ|nJ
  ·have JK:=of_decide_eq_true nJ;refine⟨⟨true, ?_⟩,kf ah ([oC afk,oC afl,oC afj,oB bL]++rq 4 (oB nJ) ([]))⟩;trivial
  ·have JK:=of_decide_eq_false nJ;refine⟨⟨decide ((Ms (.int .u64 (zP (.int .i64 v_1))) (.int .u64 (zP (.int .i64 v_2)))).2>9223372036854775807), ?_⟩,kf ah ([oC afk,oC afl,oC afj,oB bL]++rq 4 (oB nJ) ([]))⟩;trivial
def intOf:Tree->Int
 |.int _ n=>n
 |_=>0
theorem XK (m:Int):∃F:Tree->Tree->Tree->Int×Int,∀x y z,((∃k:Int,x=.int .u8 k)/\T .int64 y/\T .int64 z)->R3 (cf m) 150 x y z (.cF [.int .i64 (F x y z).1,.int .i64 (F x y z).2])/\((x=.int .u8 43->(F x y z).2=0->(F x y z).1=IntKind.wrap .i64 (intOf y+intOf z))/\(x=.int .u8 45->(F x y z).2=0->(F x y z).1=IntKind.wrap .i64 (intOf y - intOf z))):=by
 refine alM (P:=λx y z=>(∃k:Int,x=.int .u8 k)/\T .int64 y/\T .int64 z) (mk:=λ(r:Int×Int)=>.cF [.int .i64 r.1,.int .i64 r.2]) (Post:=λx y z r=>(x=.int .u8 43->r.2=0->r.1=IntKind.wrap .i64 (intOf y+intOf z))/\(x=.int .u8 45->r.2=0->r.1=IntKind.wrap .i64 (intOf y - intOf z))) λx y z hx=> ?_
 obtain⟨hx,hy,hz⟩:=hx;show ∃r:{r:Int×Int //(x=.int .u8 43->r.2=0->r.1=IntKind.wrap .i64 (intOf y+intOf z))/\(x=.int .u8 45->r.2=0->r.1=IntKind.wrap .i64 (intOf y - intOf z))},ai (cf m) 150 [.t x,.t y,.t z] [] (.ret (.t (.cF [.int .i64 r.1.1,.int .i64 r.1.2])) [] []);obtain⟨op,rfl⟩:=hx;have bw:=hy;obtain⟨v_1,rfl⟩:=T.nV bw;have dB:=hz;obtain⟨v_2,rfl⟩:=T.nV dB;obtain⟨abz,ajm⟩:=XJ m;obtain⟨ev,aJ,ajn⟩:∃ev,aC (cf m) ev/\Has ev 190 (rN (λx y=>T .int64 x/\T .int64 y) (λx y=>.bool (abz x y))):=⟨_,(aq (dL (λx y h=>(ajm x y h).1)) aF),au⟩;refine AX.start 67 3 Tryz.func150 rfl (by decide) rfl rfl (by decide) ?_;refine AX.frames ?_;rcases aL ((op==43)) with bL|bL
 ·have mC:=eq_of_beq bL;rcases aL (decide (v_2>0)) with hg4|hg4
  ·have Ot:=of_decide_eq_true hg4;rcases aL (decide (v_1>(IntKind.wrap .i64 (9223372036854775807 - v_2)))) with nJ|nJ
   ·have JK:=of_decide_eq_true nJ;refine⟨⟨(0,11), ?_⟩,kf ah ([oB bL,oZ,oB hg4,oB hg4,oB hg4,oZ,oB hg4,oB hg4]++rq 5 (oB nJ) ([oT]))⟩;refine⟨λh h0=> ?_,λh h0=> ?_⟩<;>first|rfl|exact absurd h0 (by decide)|(exfalso;have h:=(Tree.int.inj h).2;omega)
   ·have JK:=of_decide_eq_false nJ;rcases aL (decide (v_2<0)) with qE|qE
    ·have ajo:=of_decide_eq_true qE;rcases aL (decide (v_1<(IntKind.wrap .i64 (-9223372036854775808 - v_2)))) with gh|gh
     ·have mN:=of_decide_eq_true gh;refine⟨⟨(0,11), ?_⟩,kf ah [oB bL,oZ,oB hg4,oB hg4,oB hg4,oZ,oB hg4,oB hg4,oB nJ,oB nJ,oB nJ,oB qE,oB qE,oB qE,oZ,oB qE,oB nJ,oB qE,oB nJ,oB gh]⟩;refine⟨λh h0=> ?_,λh h0=> ?_⟩<;>first|rfl|exact absurd h0 (by decide)|(exfalso;have h:=(Tree.int.inj h).2;omega)
     ·have mN:=of_decide_eq_false gh;refine⟨⟨((IntKind.wrap .i64 (v_1+v_2)),0), ?_⟩,kf ah [oB bL,oZ,oB hg4,oB hg4,oB hg4,oZ,oB hg4,oB hg4,oB nJ,oB nJ,oB nJ,oB qE,oB qE,oB qE,oZ,oB qE,oB nJ,oB qE,oB nJ,oB gh]⟩;refine⟨λh h0=> ?_,λh h0=> ?_⟩<;>first|rfl|exact absurd h0 (by decide)|(exfalso;have h:=(Tree.int.inj h).2;omega)
    ·have ajo:=of_decide_eq_false qE;refine⟨⟨((IntKind.wrap .i64 (v_1+v_2)),0), ?_⟩,kf ah ([oB bL,oZ,oB hg4,oB hg4,oB hg4,oZ,oB hg4,oB hg4,oB nJ,oB nJ,oB nJ]++rq 4 (oB qE) ([oB nJ,oB qE,oB nJ,oF]))⟩;refine⟨λh h0=> ?_,λh h0=> ?_⟩<;>first|rfl|exact absurd h0 (by decide)|(exfalso;have h:=(Tree.int.inj h).2;omega)
  ·have Ot:=of_decide_eq_false hg4;rcases aL (decide (v_2<0)) with lp|lp
   ·have abn:=of_decide_eq_true lp;rcases aL (decide (v_1<(IntKind.wrap .i64 (-9223372036854775808 - v_2)))) with p8|p8
    ·have Fe:=of_decide_eq_true p8;refine⟨⟨(0,11), ?_⟩,kf ah ([oB bL,oZ]++rq 5 (oB hg4) ([oF,oF,oF,oB lp,oB lp,oB lp,oZ,oB lp,oF,oB lp,oF,oB p8]))⟩;refine⟨λh h0=> ?_,λh h0=> ?_⟩<;>first|rfl|exact absurd h0 (by decide)|(exfalso;have h:=(Tree.int.inj h).2;omega)
    ·have Fe:=of_decide_eq_false p8;refine⟨⟨((IntKind.wrap .i64 (v_1+v_2)),0), ?_⟩,kf ah ([oB bL,oZ]++rq 5 (oB hg4) ([oF,oF,oF,oB lp,oB lp,oB lp,oZ,oB lp,oF,oB lp,oF,oB p8]))⟩;refine⟨λh h0=> ?_,λh h0=> ?_⟩<;>first|rfl|exact absurd h0 (by decide)|(exfalso;have h:=(Tree.int.inj h).2;omega)
   ·have abn:=of_decide_eq_false lp;refine⟨⟨((IntKind.wrap .i64 (v_1+v_2)),0), ?_⟩,kf ah ([oB bL,oZ]++rq 5 (oB hg4) ([oF,oF,oF]++rq 4 (oB lp) ([oF,oB lp,oF,oF])))⟩;refine⟨λh h0=> ?_,λh h0=> ?_⟩<;>first|rfl|exact absurd h0 (by decide)|(exfalso;have h:=(Tree.int.inj h).2;omega)
 ·have mC:=ne_of_beq_false bL;rcases aL ((op==45)) with k3|k3
  ·have JI:=eq_of_beq k3;rcases aL (decide (v_2<0)) with jV|jV
   ·have abA:=of_decide_eq_true jV;rcases aL (decide (v_1>(IntKind.wrap .i64 (9223372036854775807+v_2)))) with cC|cC
    ·have Kh:=of_decide_eq_true cC;refine⟨⟨(0,11), ?_⟩,kf ah ([oB bL,oB k3,oZ,oB jV,oB jV,oB jV,oZ,oB jV,oB jV]++rq 5 (oB cC) ([oT]))⟩;refine⟨λh h0=> ?_,λh h0=> ?_⟩<;>first|rfl|exact absurd h0 (by decide)|(exfalso;have h:=(Tree.int.inj h).2;omega)
    ·have Kh:=of_decide_eq_false cC;rcases aL (decide (v_2>0)) with eS|eS
     ·have Dq:=of_decide_eq_true eS;rcases aL (decide (v_1<(IntKind.wrap .i64 (-9223372036854775808+v_2)))) with JV|JV
      ·have aaU:=of_decide_eq_true JV;refine⟨⟨(0,11), ?_⟩,kf ah [oB bL,oB k3,oZ,oB jV,oB jV,oB jV,oZ,oB jV,oB jV,oB cC,oB cC,oB cC,oB eS,oB eS,oB eS,oZ,oB eS,oB cC,oB eS,oB cC,oB JV]⟩;refine⟨λh h0=> ?_,λh h0=> ?_⟩<;>first|rfl|exact absurd h0 (by decide)|(exfalso;have h:=(Tree.int.inj h).2;omega)
      ·have aaU:=of_decide_eq_false JV;refine⟨⟨((IntKind.wrap .i64 (v_1 - v_2)),0), ?_⟩,kf ah [oB bL,oB k3,oZ,oB jV,oB jV,oB jV,oZ,oB jV,oB jV,oB cC,oB cC,oB cC,oB eS,oB eS,oB eS,oZ,oB eS,oB cC,oB eS,oB cC,oB JV]⟩;refine⟨λh h0=> ?_,λh h0=> ?_⟩<;>first|rfl|exact absurd h0 (by decide)|(exfalso;have h:=(Tree.int.inj h).2;omega)
     ·have Dq:=of_decide_eq_false eS;refine⟨⟨((IntKind.wrap .i64 (v_1 - v_2)),0), ?_⟩,kf ah ([oB bL,oB k3,oZ,oB jV,oB jV,oB jV,oZ,oB jV,oB jV,oB cC,oB cC,oB cC]++rq 4 (oB eS) ([oB cC,oB eS,oB cC,oF]))⟩;refine⟨λh h0=> ?_,λh h0=> ?_⟩<;>first|rfl|exact absurd h0 (by decide)|(exfalso;have h:=(Tree.int.inj h).2;omega)
   ·have abA:=of_decide_eq_false jV;rcases aL (decide (v_2>0)) with kg|kg
    ·have QT:=of_decide_eq_true kg;rcases aL (decide (v_1<(IntKind.wrap .i64 (-9223372036854775808+v_2)))) with hc16|hc16
     ·have aaV:=of_decide_eq_true hc16;refine⟨⟨(0,11), ?_⟩,kf ah ([oB bL,oB k3,oZ]++rq 5 (oB jV) ([oF,oF,oF,oB kg,oB kg,oB kg,oZ,oB kg,oF,oB kg,oF,oB hc16]))⟩;refine⟨λh h0=> ?_,λh h0=> ?_⟩<;>first|rfl|exact absurd h0 (by decide)|(exfalso;have h:=(Tree.int.inj h).2;omega)
     ·have aaV:=of_decide_eq_false hc16;refine⟨⟨((IntKind.wrap .i64 (v_1 - v_2)),0), ?_⟩,kf ah ([oB bL,oB k3,oZ]++rq 5 (oB jV) ([oF,oF,oF,oB kg,oB kg,oB kg,oZ,oB kg,oF,oB kg,oF,oB hc16]))⟩;refine⟨λh h0=> ?_,λh h0=> ?_⟩<;>first|rfl|exact absurd h0 (by decide)|(exfalso;have h:=(Tree.int.inj h).2;omega)
    ·have QT:=of_decide_eq_false kg;refine⟨⟨((IntKind.wrap .i64 (v_1 - v_2)),0), ?_⟩,kf ah ([oB bL,oB k3,oZ]++rq 5 (oB jV) ([oF,oF,oF]++rq 4 (oB kg) ([oF,oB kg,oF,oF])))⟩;refine⟨λh h0=> ?_,λh h0=> ?_⟩<;>first|rfl|exact absurd h0 (by decide)|(exfalso;have h:=(Tree.int.inj h).2;omega)
  ·have JI:=ne_of_beq_false k3;rcases aL ((op==42)) with oe|oe
   ·have JW:=eq_of_beq oe;have am5:=eH ajn (x:=.int .i64 v_1) (y:=.int .i64 v_2) ⟨bw,dB⟩;rcases aL ((abz (.int .i64 v_1) (.int .i64 v_2))) with ajp|ajp
    ·refine⟨⟨(0,11), ?_⟩,kf ah [oB bL,oB k3,oB oe,oZ,oC am5,oB ajp]⟩;refine⟨λh h0=> ?_,λh h0=> ?_⟩<;>first|rfl|exact absurd h0 (by decide)|(exfalso;have h:=(Tree.int.inj h).2;omega)
    ·refine⟨⟨((IntKind.wrap .i64 (v_1*v_2)),0), ?_⟩,kf ah [oB bL,oB k3,oB oe,oZ,oC am5,oB ajp]⟩;refine⟨λh h0=> ?_,λh h0=> ?_⟩<;>first|rfl|exact absurd h0 (by decide)|(exfalso;have h:=(Tree.int.inj h).2;omega)
   ·have JW:=ne_of_beq_false oe;refine⟨⟨(0,1), ?_⟩,kf ah [oB bL,oB k3,oB oe]⟩;refine⟨λh h0=> ?_,λh h0=> ?_⟩<;>first|rfl|exact absurd h0 (by decide)|(exfalso;have h:=(Tree.int.inj h).2;omega)
structure Sc where
 p1:List UInt8
 p2:List UInt8
 a1:List UInt8
 a2:List UInt8
 r1:List UInt8
 r2:List UInt8
 k:Int
 b:Bool
 n:Int
 s:List UInt8
 t:List UInt8
 ns:List Tree
 l:List Tree
 row:List Tree
abbrev aU (q:Sc):List TV:=[.t (.str q.p1),.t (.str q.p2),.t (.str q.a1),.t (.str q.a2),.t (.str q.r1),.t (.str q.r2),.t (.int .u8 q.k),.t (.bool q.b),.t (.int .i64 q.n),.t (.str q.s),.t (.str q.t),.t (.sl q.ns),.t (.sl q.l),.t (.sl q.row)]
instance :Inhabited (Tree ⊕ Int):=⟨.inr 0⟩
def yu (n:Int):Tree:=(aA 1 false n [] [] [] [])
def Rq (q:Sc):Prop:=(T .az (aA q.k q.b q.n q.s q.t q.ns q.l)/\q.p1.length<=4194304/\q.p2.length<=4194304/\q.a1.length<=4194304/\q.a2.length<=4194304/\q.r1.length<=4194304/\q.r2.length<=4194304)/\q.row.length<=4194304/\∀y∈q.row,T .bQ y
def boolT (b:Bool):Tree:=(aA 0 b 0 [] [] [] [])
theorem HV (n:Int):T .az (yu n):=.az _ _ _ _ _ _ _ (by simp) (by simp) (by simp) (λ_ h=>by cases h) (by simp) (λ_ h=>by cases h)
theorem iQ (b:Bool):T .az (boolT b):=.az _ _ _ _ _ _ _ (by simp) (by simp) (by simp) (λ_ h=>by cases h) (by simp) (λ_ h=>by cases h)
def iJ:Tree->Int
 |.agg (.int _ k::_)=>k
 |_=>-1
def GF:Tree->Int
 |.agg (_::_:: .int _ n::_)=>n
 |_=>0
def k6:Tree->Bool
 |.agg (_:: .bool b::_)=>b
 |_=>false
def pS (i:Nat)(o:List aO):List UInt8:=match o with
 |.cells _ c::_=>(match c[i]? with
  |some (.t (.str s))=>s
  |_=>[])
 |_=>[]
def pN (i:Nat)(o:List aO):Int:=match o with
 |.cells _ c::_=>(match c[i]? with
  |some (.t (.int _ s))=>s
  |_=>0)
 |_=>0
def pB (i:Nat)(o:List aO):Bool:=match o with
 |.cells _ c::_=>(match c[i]? with
  |some (.t (.bool s))=>s
  |_=>false)
 |_=>false
def pL (i:Nat)(o:List aO):List Tree:=match o with
 |.cells _ c::_=>(match c[i]? with
  |some (.t (.sl s))=>s
  |_=>[])
 |_=>[]
def pT0 (k:Nat)(p:List TV×List aO):Tree:=match p.1[k]? with
 |some (.t x)=>x
 |_=>.cT
def pSc (p:List TV×List aO):Sc:=⟨pS 0 p.2,pS 1 p.2,pS 2 p.2,pS 3 p.2,pS 4 p.2,pS 5 p.2,pN 6 p.2,pB 7 p.2,pN 8 p.2,pS 9 p.2,pS 10 p.2,pL 11 p.2,pL 12 p.2,pL 13 p.2⟩
def fq:Tree->Int
 |.agg (.int _ k::_)=>k
 |_=>-1
def Bd:Tree->Tree
 |.bool b=>boolT b
 |x=>x
def afm:Tree->Tree
 |.agg [.str t,.str s]=>(aA 3 false 0 s t [] [])
 |x=>x
def afn:Tree->Tree
 |.agg [_,_,_,.str s,.str t,_,_]=>.agg [.str t,.str s]
 |x=>x
def jP (l:List Tree)(i:Nat):Tree:=(l[i]?).getD .cT
theorem fM {l:List Tree}{i:Nat}{e:Tree}(h:l[i]?=some e):jP l i=e:=by unfold jP;rw[h];rfl
def DN (a b:Int):Int:=if a<b then -1 else if a>b then 1 else 0
def abB (v:Tree):Tree ⊕ Int:=cond (iJ v==0) (.inl (boolT (!(k6 v)))) (.inr 7)
def eqS (op c:Int):Tree ⊕ Int:=.inl (boolT ((c==0)==(op==17)))
theorem eA {α:Type}[BEq α][LawfulBEq α]{a x y:α}(h:(a==x)=true)(hne:x≠y):(a==y)=false:=by
 rw[eq_of_beq h];exact beq_eq_false_iff_ne.mpr hne
def Ou (op c:Int):Bool:=cond (op==19) (decide (c<0)) (cond (op==20) (decide (c<=0)) (cond (op==21) (decide (c>0)) (cond (op==22) (decide (c>=0)) false)))
theorem qT (m:Int)(b:Bool):R1 (cf m) 94 (.bool b) (boolT b):=by
 obtain⟨ev,aJ⟩:∃ev,aC (cf m) ev:=⟨_,aF⟩;refine ai.gO ?_;refine AX.start 5 1 Tryz.func94 rfl (by decide) rfl rfl (by decide) ?_;refine AX.frames ?_;exact⟨(),kf ah []⟩
theorem VJ (m:Int)(t s:List UInt8):R1 (cf m) 95 (.agg [.str t,.str s]) (afm (.agg [.str t,.str s])):=by
 obtain⟨ev,aJ⟩:∃ev,aC (cf m) ev:=⟨_,aF⟩;refine ai.gO ?_;refine AX.start 8 1 Tryz.func95 rfl (by decide) rfl rfl (by decide) ?_;refine AX.frames ?_;exact⟨(),kf ah []⟩
theorem Ue (m:Int)(k:Int)(b:Bool)(n:Int)(s t:List UInt8)(ns l:List Tree):R1 (cf m) 104 (aA k b n s t ns l) (afn (aA k b n s t ns l)):=by
 obtain⟨ev,aJ⟩:∃ev,aC (cf m) ev:=⟨_,aF⟩;refine ai.gO ?_;refine AX.start 8 1 Tryz.func104 rfl (by decide) rfl rfl (by decide) ?_;refine AX.frames ?_;exact⟨(),kf ah []⟩
theorem Ov (t s:List UInt8)(ht:t.length<=4194304)(hs:s.length<=4194304):T .az (afm (.agg [.str t,.str s])):=.az _ _ _ _ _ _ _ hs ht (by simp) (λ_ h=>by cases h) (by simp) (λ_ h=>by cases h)
theorem ajq (m:Int)(a:Int):R1 (cf m) 181 (.int .i64 a) (.bool false):=by
 obtain⟨ev,aJ⟩:∃ev,aC (cf m) ev:=⟨_,aF⟩;refine ai.gO ?_;refine AX.start 6 1 Tryz.func181 rfl (by decide) rfl rfl (by decide) ?_;refine AX.frames ?_;refine kAt (f:=0) (n:=3000) (once:=[]) (k:=6) (T:=0) (S:=[]) (ks:=[]) (live:=[0,2]) ah aJ (Tryz.f181.body.getD .skip) 1 rfl (⟨eC 6 [(0,.t (.int .i64 a)),(2,.t (.bool false))],[],0⟩) [] (by kernel_rfl) ?_;refine AX.region ?_;refine aN.go (f:=0) aJ (aI rfl) ?_;refine aN.go (f:=0) aJ (aI rfl) ?_;refine aN.go (f:=0) aJ (Nv rfl rfl) ?_;refine aN.go (f:=0) aJ (aK rfl) ?_;refine aN.nil ?_;have hres:false=false:=by simp
 rw[hres];exact⟨(),kf ah []⟩
theorem ajr (m:Int)(a c:Int):R2 (cf m) 134 (.int .i64 a) (.int .i64 c) (.int .i64 (DN a c)):=by
 obtain⟨ev,aJ,Qy⟩:∃ev,aC (cf m) ev/\Has ev 181 (mL (λx=>∃a,x=.int .i64 a) λ_=>.bool false):=⟨_,(aq (bR λx h=>by obtain⟨a,rfl⟩:=h;exact ajq m a) aF),au⟩;refine ai.gO ?_;refine AX.start 20 2 Tryz.func134 rfl (by decide) rfl rfl (by decide) ?_;refine AX.frames ?_;have ajs:=bS Qy (x:=.int .i64 a) ⟨_,rfl⟩;have ajt:=bS Qy (x:=.int .i64 c) ⟨_,rfl⟩;rcases aL (decide (a<c)) with hc1|hc1
 ·have aju:=of_decide_eq_true hc1;have hres:DN a c=-1:=by unfold DN;(repeat' split)<;>first|rfl|omega
  show ∃_:Unit,KE (cf m) (uD (cf m) _ 0 (.ret (.t (.int .i64 (DN a c))) [] [])) _ _ _;rw[hres];exact⟨(),kf ah [oC ajs,oC ajt,oF,oF,oB hc1]⟩
 ·have aju:=of_decide_eq_false hc1;rcases aL (decide (a>c)) with cq|cq
  ·have jN:=of_decide_eq_true cq;have hres:DN a c=1:=by unfold DN;(repeat' split)<;>first|rfl|omega
   show ∃_:Unit,KE (cf m) (uD (cf m) _ 0 (.ret (.t (.int .i64 (DN a c))) [] [])) _ _ _;rw[hres];exact⟨(),kf ah [oC ajs,oC ajt,oF,oF,oB hc1,oB cq]⟩
  ·have jN:=of_decide_eq_false cq;have hres:DN a c=0:=by unfold DN;(repeat' split)<;>first|rfl|omega
   show ∃_:Unit,KE (cf m) (uD (cf m) _ 0 (.ret (.t (.int .i64 (DN a c))) [] [])) _ _ _;rw[hres];exact⟨(),kf ah [oC ajs,oC ajt,oF,oF,oB hc1,oB cq]⟩
theorem abC (m:Int)(b1:Bool)(n1:Int)(s1 t1:List UInt8)(N1 L1:List Tree)(b2:Bool)(n2:Int)(s2 t2:List UInt8)(N2 L2:List Tree):R2 (cf m) 84 (aA 1 b1 n1 s1 t1 N1 L1) (aA 1 b2 n2 s2 t2 N2 L2) (.int .i64 (DN n1 n2)):=by
 obtain⟨ev,aJ,am6⟩:∃ev,aC (cf m) ev/\Has ev 134 (rN (λx y=>(∃a,x=.int .i64 a)/\∃a,y=.int .i64 a) λx y=>.int .i64 (DN (intOf x) (intOf y))):=⟨_,(aq (dL λx y h=>by obtain⟨⟨a,rfl⟩,⟨c,rfl⟩⟩:=h;exact ajr m a c) aF),au⟩;refine ai.gO ?_;refine AX.start 67 2 Tryz.func84 rfl (by decide) rfl rfl (by decide) ?_;refine AX.frames ?_;exact⟨(),kf ah [oF,oF,oT,oC (eH am6 (x:=.int .i64 n1) (y:=.int .i64 n2) ⟨⟨_,rfl⟩,⟨_,rfl⟩⟩)]⟩
theorem Mu (m:Int):∃F:Tree->Tree->Int,∀x y,T .az x/\T .az y->R2 (cf m) 84 x y (.int .i64 (F x y))/\(iJ x=1->iJ y=1->F x y=DN (GF x) (GF y)):=by
 obtain⟨G,hG⟩:=QN m;refine⟨λx y=>if iJ x=1/\iJ y=1 then DN (GF x) (GF y) else G x y,λx y h=> ?_⟩;by_cases hk:iJ x=1/\iJ y=1
 ·simp only[if_pos hk];refine⟨?_,λ_ _=>trivial⟩;obtain⟨k1,b1,n1,s1,t1,N1,L1,rfl,_⟩:=T.aB h.1;obtain⟨k2,b2,n2,s2,t2,N2,L2,rfl,_⟩:=T.aB h.2;obtain⟨rfl,rfl⟩:k1=1/\k2=1:=hk;exact abC m b1 n1 s1 t1 N1 L1 b2 n2 s2 t2 N2 L2
 ·simp only[if_neg hk];exact⟨hG x y h,λh1 h2=>absurd ⟨h1,h2⟩ hk⟩
noncomputable def Ki (m:Int):Tree->Tree->Int:=(Mu m).choose
theorem Kj (m:Int):∀x y,T .az x/\T .az y->R2 (cf m) 84 x y (.int .i64 (Ki m x y)):=λx y h=>((Mu m).choose_spec x y h).1
theorem afo (m:Int)(op:Int)(a:Int)(c:Int)(h0:True):∃r:{r:Tree ⊕ Int //(∀v,r=.inl v->∃n,v=yu n/\(op=43->n=IntKind.wrap .i64 (a+c))/\(op=45->n=IntKind.wrap .i64 (a - c)))/\∀w,r=.inr w->w≠0},ai (cf m) 103 [.t (.int .u8 op),.t (.int .i64 a),.t (.int .i64 c)] [] (aM (r.1) []):=by
 obtain⟨qK,abD⟩:=XK m;obtain⟨ev,aJ,ajv,rY⟩:∃ev,aC (cf m) ev/\Has ev 150 (pc3 (λx y z=>(∃k:Int,x=.int .u8 k)/\T .int64 y/\T .int64 z) (λx y z=>.cF [.int .i64 (qK x y z).1,.int .i64 (qK x y z).2]))/\Has ev 93 Kg:=⟨_,(aq (Jk (λx y z h=>(abD x y z h).1)) (aq (zO m) aF)),au,(av rfl au)⟩;refine AX.start 22 3 Tryz.func103 rfl (by decide) rfl rfl (by decide) ?_;refine AX.frames ?_;have hp1:=(abD (.int .u8 op) (.int .i64 a) (.int .i64 c) ⟨⟨_,rfl⟩,(.int64 _),(.int64 _)⟩).2;have am7:=mZ ajv (x:=.int .u8 op) (y:=.int .i64 a) (z:=.int .i64 c) ⟨⟨_,rfl⟩,(.int64 _),(.int64 _)⟩;rcases aL (((qK (.int .u8 op) (.int .i64 a) (.int .i64 c)).2==0)) with hk2|hk2
 ·have Uf:=eq_of_beq hk2;refine⟨⟨.inl (aA 1 false ((qK (.int .u8 op) (.int .i64 a) (.int .i64 c)).1) [] [] [] []),⟨(λv hv=>⟨_,(Sum.inl.inj hv).symm,λh=>hp1.1 (by rw[h]) (eq_of_beq hk2),λh=>hp1.2 (by rw[h]) (eq_of_beq hk2)⟩),λw hw=>(by cases hw)⟩⟩,kf ah [oC am7,oC (show ev 93 [.t (.bool ((qK (.int .u8 op) (.int .i64 a) (.int .i64 c)).2==0)),.t (.int .i64 ((qK (.int .u8 op) (.int .i64 a) (.int .i64 c)).2))] []=some (aM (.inl (.cF [])) []) from rY _ _ _ (by show some (aM (cond (((qK (.int .u8 op) (.int .i64 a) (.int .i64 c)).2==0)) _ _) [])=_;rw[hk2];rfl))]⟩
 ·have Uf:=ne_of_beq_false hk2;refine⟨⟨.inr ((qK (.int .u8 op) (.int .i64 a) (.int .i64 c)).2),⟨(λv hv=>by cases hv),λw hw=>Sum.inr.inj hw▸(show((qK (.int .u8 op) (.int .i64 a) (.int .i64 c)).2:Int)≠0 by intro h0;have hz:=hk2;rw[h0] at hz;exact absurd hz (by decide))⟩⟩,kf ah [oC am7,oC (show ev 93 [.t (.bool ((qK (.int .u8 op) (.int .i64 a) (.int .i64 c)).2==0)),.t (.int .i64 ((qK (.int .u8 op) (.int .i64 a) (.int .i64 c)).2))] []=some (aM (.inr ((qK (.int .u8 op) (.int .i64 a) (.int .i64 c)).2)) []) from rY _ _ _ (by show some (aM (cond (((qK (.int .u8 op) (.int .i64 a) (.int .i64 c)).2==0)) _ _) [])=_;rw[hk2];rfl))]⟩
def vM (x:Int×Int×Int):List TV×List aO:=([.t (.int .u8 x.1),.t (.int .i64 x.2.1),.t (.int .i64 x.2.2)],[])
def rZ (x:Int×Int×Int):Prop:=(True)
def Fm (x:Int×Int×Int)(r:Tree ⊕ Int):br:=(aM (r) [])
theorem rC:∀x y,rZ x->rZ y->vM x=vM y->x=y:=by
 rintro ⟨op1,a1,c1⟩ ⟨op2,a2,c2⟩ h1 h2 h;have aqQ:op1=op2:=congrArg (Ll 0) h;have e_a:a1=a2:=congrArg (Ll 1) h;have e_c:c1=c2:=congrArg (Ll 2) h;rw[aqQ,e_a,e_c]
theorem DO (m:Int):∃F:(Int×Int×Int)->Tree ⊕ Int,∀op a c,rZ (op,a,c)->ai (cf m) 103 (vM (op,a,c)).1 (vM (op,a,c)).2 (Fm (op,a,c) (F (op,a,c)))/\((∀v,(F (op,a,c))=.inl v->∃n,v=yu n/\(op=43->n=IntKind.wrap .i64 (a+c))/\(op=45->n=IntKind.wrap .i64 (a - c)))/\∀w,(F (op,a,c))=.inr w->w≠0):=by
 obtain⟨F,hF⟩:=bK (α:=Int×Int×Int) (P:=rZ) (Q:=λx (r:Tree ⊕ Int)=>ai (cf m) 103 (vM x).1 (vM x).2 (Fm x r)/\((∀v,r=.inl v->∃n,v=yu n/\(x.1=43->n=IntKind.wrap .i64 (x.2.1+x.2.2))/\(x.1=45->n=IntKind.wrap .i64 (x.2.1 - x.2.2)))/\∀w,r=.inr w->w≠0)) λx hx=>by
  obtain⟨op,a,c⟩:=x;have h0:=hx;obtain⟨⟨r,hr⟩,h⟩:=afo m op a c h0;exact⟨r,h,hr⟩
 exact⟨F,λop a c hx=>hF (op,a,c) hx⟩
theorem afp (m:Int)(q:Sc)(e:Tree)(l:List Tree)(h0:T .aD e)(h1:l.length<=4194304)(h2:∀y∈l,T .az y)(h3:1<=l.length):∃r:{r:Tree ⊕ Int //((∀v,r=.inl v->T .az v)/\r=abB (jP l 0))/\∀w,r=.inr w->w≠0},ai (cf m) 61 [.ptr (.arg 0) 0,.t e,.t (.sl l)] [.cells 63 (aU q)] (aM (r.1) [.cells 63 (aU q)]):=by
 have bw:=h0;obtain⟨bW,n_1,s_1,dD,aT,bO,rfl,cI,cH,fK,dS,eW,eM,jc⟩:=T.bz bw;obtain⟨ev,aJ,bD,lW⟩:∃ev,aC (cf m) ev/\Has ev 52 sw/\Has ev 94 (mL (λx=>∃b,x=.bool b) Bd):=⟨_,(aq (jX m) (aq (bR λx h=>by obtain⟨b,rfl⟩:=h;exact qT m b) aF)),au,(av rfl au)⟩;refine AX.start 14 3 Tryz.func61 rfl (by decide) rfl rfl (by decide) ?_;refine AX.frames ?_;obtain⟨e2,l7⟩:=dw l 0;have jd:=(h2 e2 (fU l7));obtain⟨aZ,eR,jv,iu,dr,bp,bH,rfl,r5,r6,tZ,ua,uf,ug⟩:=T.aB jd;rcases aL ((aZ==0)) with nN|nN
 ·have B7:=eq_of_beq nN;refine⟨⟨.inl (aA 0 (!eR) 0 [] [] [] []),⟨(⟨(λv hv=>by cases hv;exact(iQ _)),(by rw[fM l7];simp only[abB,iJ,k6,nN,cond_true,cond_false];try rfl)⟩),λw hw=>(by cases hw)⟩⟩,kf ah [oE l7,oC (show ev 52 [.t (aA aZ eR jv iu dr bp bH),.t (.int .u8 0)] []=some (aM (.inl (aA aZ eR jv iu dr bp bH)) []) from bD _ _ _ (by show some (aM (cond ((aZ==0)) _ _) [])=_;rw[nN];rfl)),vR 94 [.t (.bool (!eR))] (aA 0 (!eR) 0 [] [] [] []) (bS lW (x:=.bool (!eR)) ⟨_,rfl⟩)]⟩
 ·have B7:=ne_of_beq_false nN;refine⟨⟨.inr (7),⟨(⟨(λv hv=>by cases hv),(by rw[fM l7];simp only[abB,iJ,k6,nN,cond_true,cond_false];try rfl)⟩),λw hw=>Sum.inr.inj hw▸(show(7:Int)≠0 by decide)⟩⟩,kf ah [oE l7,oC (show ev 52 [.t (aA aZ eR jv iu dr bp bH),.t (.int .u8 0)] []=some (aM (.inr (7)) []) from bD _ _ _ (by show some (aM (cond ((aZ==0)) _ _) [])=_;rw[nN];rfl))]⟩
theorem afq (m:Int)(q:Sc)(e:Tree)(l:List Tree)(h0:T .aD e)(h1:l.length<=4194304)(h2:∀y∈l,T .az y)(h3:1<=l.length):∃r:{r:Tree ⊕ Int //((∀v,r=.inl v->iJ (jP l 0)=1/\v=yu (IntKind.wrap .i64 (0 - GF (jP l 0)))))/\∀w,r=.inr w->w≠0},ai (cf m) 62 [.ptr (.arg 0) 0,.t e,.t (.sl l)] [.cells 63 (aU q)] (aM (r.1) [.cells 63 (aU q)]):=by
 have bw:=h0;obtain⟨bW,n_1,s_1,dD,aT,bO,rfl,cI,cH,fK,dS,eW,eM,jc⟩:=T.bz bw;obtain⟨uh,uk⟩:=DO m;obtain⟨ev,aJ,bD,um⟩:∃ev,aC (cf m) ev/\Has ev 52 sw/\Has ev 103 (iP vM (rZ) (λx=>Fm x (uh x))):=⟨_,(aq (jX m) (aq (dF (λ⟨op,a,c⟩ hx=>(uk op a c hx).1)) aF)),au,(av rfl au)⟩;refine AX.start 13 3 Tryz.func62 rfl (by decide) rfl rfl (by decide) ?_;refine AX.frames ?_;obtain⟨e2,l7⟩:=dw l 0;have jd:=(h2 e2 (fU l7));obtain⟨aZ,eR,jv,iu,dr,bp,bH,rfl,r5,r6,tZ,ua,uf,ug⟩:=T.aB jd;rcases aL ((aZ==1)) with nN|nN
 ·have B7:=eq_of_beq nN;have Xx:rZ (45,0,jv):=trivial;have hq5:=uk 45 0 jv Xx;rcases AL:(uh (45,0,jv)) with v_6|w_6
  ·obtain⟨qh,rfl,aqR⟩:=hq5.2.1 _ AL;refine⟨⟨.inl (aA 1 false qh [] [] [] []),⟨((λv hv=>by cases hv;rw[fM l7];exact⟨eq_of_beq nN,by rw[aqR.2 rfl];rfl⟩)),λw hw=>(by cases hw)⟩⟩,kf ah [oE l7,oC (show ev 52 [.t (aA aZ eR jv iu dr bp bH),.t (.int .u8 1)] []=some (aM (.inl (aA aZ eR jv iu dr bp bH)) []) from bD _ _ _ (by show some (aM (cond ((aZ==1)) _ _) [])=_;rw[nN];rfl)),oC (show ev 103 [.t (.int .u8 45),.t (.int .i64 0),.t (.int .i64 jv)] []=some (aM (.inl (aA 1 false qh [] [] [] [])) []) from((fF um rC (45,0,jv) Xx rfl rfl):ev 103 _ _=some _).trans (congrArg (λz=>some (aM z [])) AL))]⟩
  ·have aqS:=beq_eq_false_iff_ne.mpr (hq5.2.2 _ AL);refine⟨⟨.inr (w_6),⟨((λv hv=>by cases hv)),λw hw=>Sum.inr.inj hw▸(show(w_6:Int)≠0 by intro h0;have hz:=aqS;rw[h0] at hz;exact absurd hz (by decide))⟩⟩,kf ah [oE l7,oC (show ev 52 [.t (aA aZ eR jv iu dr bp bH),.t (.int .u8 1)] []=some (aM (.inl (aA aZ eR jv iu dr bp bH)) []) from bD _ _ _ (by show some (aM (cond ((aZ==1)) _ _) [])=_;rw[nN];rfl)),oC (show ev 103 [.t (.int .u8 45),.t (.int .i64 0),.t (.int .i64 jv)] []=some (aM (.inr w_6) []) from((fF um rC (45,0,jv) Xx rfl rfl):ev 103 _ _=some _).trans (congrArg (λz=>some (aM z [])) AL))]⟩
 ·have B7:=ne_of_beq_false nN;refine⟨⟨.inr (7),⟨((λv hv=>by cases hv)),λw hw=>Sum.inr.inj hw▸(show(7:Int)≠0 by decide)⟩⟩,kf ah [oE l7,oC (show ev 52 [.t (aA aZ eR jv iu dr bp bH),.t (.int .u8 1)] []=some (aM (.inr (7)) []) from bD _ _ _ (by show some (aM (cond ((aZ==1)) _ _) [])=_;rw[nN];rfl))]⟩
theorem Mv (m:Int)(q:Sc)(e:Tree)(l:List Tree)(h0:T .aD e)(h1:l.length<=4194304)(h2:∀y∈l,T .az y)(h3:2<=l.length):∃r:{r:Tree ⊕ Int //((∀v,r=.inl v->T .az v)/\r=eqS (fq e) (Ki m (jP l 0) (jP l 1)))/\∀w,r=.inr w->w≠0},ai (cf m) 63 [.ptr (.arg 0) 0,.t e,.t (.sl l)] [.cells 63 (aU q)] (aM (r.1) [.cells 63 (aU q)]):=by
 have bw:=h0;obtain⟨bW,n_1,s_1,dD,aT,bO,rfl,cI,cH,fK,dS,eW,eM,jc⟩:=T.bz bw;obtain⟨ev,aJ,JJ,lW⟩:∃ev,aC (cf m) ev/\Has ev 84 (rN (λx y=>T .az x/\T .az y) (λx y=>.int .i64 (Ki m x y)))/\Has ev 94 (mL (λx=>∃b,x=.bool b) Bd):=⟨_,(aq (dL (λx y h=>Kj m x y h)) (aq (bR λx h=>by obtain⟨b,rfl⟩:=h;exact qT m b) aF)),au,(av rfl au)⟩;refine AX.start 20 3 Tryz.func63 rfl (by decide) rfl rfl (by decide) ?_;refine AX.frames ?_;obtain⟨e2,l7⟩:=dw l 0;have jd:=(h2 e2 (fU l7));obtain⟨aZ,eR,jv,iu,dr,bp,bH,rfl,r5,r6,tZ,ua,uf,ug⟩:=T.aB jd;obtain⟨e4,uE⟩:=dw l 1;have p7:=(h2 e4 (fU uE));obtain⟨eB,og,rD,Be,pV,fh,gW,rfl,xM,BX,Kk,Kl,Km,Kn⟩:=T.aB p7;refine⟨⟨.inl (aA 0 (((Ki m (aA aZ eR jv iu dr bp bH) (aA eB og rD Be pV fh gW))==0)==(bW==17)) 0 [] [] [] []),⟨(⟨(λv hv=>by cases hv;exact(iQ _)),(by rw[fM l7,fM uE];rfl)⟩),λw hw=>(by cases hw)⟩⟩,kf ah [oE l7,oE uE,oC (eH JJ (x:=(aA aZ eR jv iu dr bp bH)) (y:=(aA eB og rD Be pV fh gW)) ⟨jd,p7⟩),vR 94 [.t (.bool (((Ki m (aA aZ eR jv iu dr bp bH) (aA eB og rD Be pV fh gW))==0)==(bW==17)))] (aA 0 (((Ki m (aA aZ eR jv iu dr bp bH) (aA eB og rD Be pV fh gW))==0)==(bW==17)) 0 [] [] [] []) (bS lW (x:=.bool (((Ki m (aA aZ eR jv iu dr bp bH) (aA eB og rD Be pV fh gW))==0)==(bW==17))) ⟨_,rfl⟩)]⟩
abbrev aqT:TI:={size:=1,bytes:=24,agg:=false,zero:=some (.bX),desc:=.slice 32}
theorem Ko {m:Int}:(cf m).P.ty 30=some aqT:=by kernel_rfl
abbrev am8:TI:={size:=7,bytes:=96,agg:=true,zero:=some (.agg [.t (.int .u8 0),.t (.bool false),.t (.int .i64 0),.t (.str []),.t (.str []),.bX,.bX]),desc:=descOf 32}
theorem ajw {m:Int}:(cf m).P.ty 32=some am8:=by kernel_rfl
def p9 (m:Int)(op:Int)(v w:Tree):Tree ⊕ Int:=cond (iJ v==1) (cond (iJ w==1) (.inl (boolT (Ou op (Ki m v w)))) (.inr 7)) (.inr 7)
theorem HW (m:Int)(q:Sc)(e:Tree)(l:List Tree)(h0:T .aD e)(h1:l.length<=4194304)(h2:∀y∈l,T .az y)(h3:2<=l.length):∃r:{r:Tree ⊕ Int //((∀v,r=.inl v->T .az v)/\r=p9 m (fq e) (jP l 0) (jP l 1))/\∀w,r=.inr w->w≠0},ai (cf m) 64 [.ptr (.arg 0) 0,.t e,.t (.sl l)] [.cells 63 (aU q)] (aM (r.1) [.cells 63 (aU q)]):=by
 have bw:=h0;obtain⟨bW,n_1,s_1,dD,aT,bO,rfl,cI,cH,fK,dS,eW,eM,jc⟩:=T.bz bw;obtain⟨ev,aJ,bD,JJ,lW⟩:∃ev,aC (cf m) ev/\Has ev 52 sw/\Has ev 84 (rN (λx y=>T .az x/\T .az y) (λx y=>.int .i64 (Ki m x y)))/\Has ev 94 (mL (λx=>∃b,x=.bool b) Bd):=⟨_,(aq (jX m) (aq (dL (λx y h=>Kj m x y h)) (aq (bR λx h=>by obtain⟨b,rfl⟩:=h;exact qT m b) aF))),au,(av rfl au),(av rfl (av rfl au))⟩;refine AX.start 52 3 Tryz.func64 rfl (by decide) rfl rfl (by decide) ?_;refine AX.frames ?_;obtain⟨e2,l7⟩:=dw l 0;have jd:=(h2 e2 (fU l7));obtain⟨aZ,eR,jv,iu,dr,bp,bH,rfl,r5,r6,tZ,ua,uf,ug⟩:=T.aB jd;rcases aL ((aZ==1)) with nN|nN
 ·have B7:=eq_of_beq nN;obtain⟨e5,ku⟩:=dw l 1;have k9:=(h2 e5 (fU ku));obtain⟨dM,kC,qh,q8,kD,dh,bG,rfl,pJ,rR,tJ,tK,tL,pK⟩:=T.aB k9;have Ow:=show ev 52 [.t (aA aZ eR jv iu dr bp bH),.t (.int .u8 1)] []=some (aM (.inl (aA aZ eR jv iu dr bp bH)) []) from bD _ _ _ (by show some (aM (cond ((aZ==1)) _ _) [])=_;rw[nN];rfl);rcases aL ((dM==1)) with Bf|Bf
  ·have abE:=eq_of_beq Bf;have Rr:=show ev 52 [.t (aA dM kC qh q8 kD dh bG),.t (.int .u8 1)] []=some (aM (.inl (aA dM kC qh q8 kD dh bG)) []) from bD _ _ _ (by show some (aM (cond ((dM==1)) _ _) [])=_;rw[Bf];rfl);have Rs:=eH JJ (x:=(aA aZ eR jv iu dr bp bH)) (y:=(aA dM kC qh q8 kD dh bG)) ⟨jd,k9⟩;have afr:=show ev 94 [.t (.bool false)] []=some (br.ret (.t (aA 0 false 0 [] [] [] [])) [] []) from(bS lW (x:=.bool false) ⟨_,rfl⟩);have ajx:=show ev 94 [.t (.bool true)] []=some (br.ret (.t (aA 0 true 0 [] [] [] [])) [] []) from(bS lW (x:=.bool true) ⟨_,rfl⟩);rcases aL ((bW==19)) with lp|lp
   ·have abn:=eq_of_beq lp;rcases aL (decide ((Ki m (aA aZ eR jv iu dr bp bH) (aA dM kC qh q8 kD dh bG))<0)) with Sn|Sn
    ·have ajy:=of_decide_eq_true Sn;refine⟨⟨.inl (aA 0 true 0 [] [] [] []),⟨(⟨(λv hv=>by cases hv;exact(iQ _)),(by rw[fM l7,fM ku];simp only[p9,iJ,fq,Ou,nN,Bf,lp,Sn,eA lp (show(19:Int)≠20 by decide),eA lp (show(19:Int)≠21 by decide),eA lp (show(19:Int)≠22 by decide),cond_true,cond_false];try rfl)⟩),λw hw=>(by cases hw)⟩⟩,kf ah ([oE l7,oC Ow,oE ku,oC Rr,oC Rs,oB lp,oB lp,oB lp]++rq 6 (oB Sn) (rq 12 oT ([oC ajx])))⟩
    ·have ajy:=of_decide_eq_false Sn;refine⟨⟨.inl (aA 0 false 0 [] [] [] []),⟨(⟨(λv hv=>by cases hv;exact(iQ _)),(by rw[fM l7,fM ku];simp only[p9,iJ,fq,Ou,nN,Bf,lp,Sn,eA lp (show(19:Int)≠20 by decide),eA lp (show(19:Int)≠21 by decide),eA lp (show(19:Int)≠22 by decide),cond_true,cond_false];try rfl)⟩),λw hw=>(by cases hw)⟩⟩,kf ah ([oE l7,oC Ow,oE ku,oC Rr,oC Rs,oB lp,oB lp,oB lp]++rq 4 (oB Sn) ([oB (eA (y:=20) lp (by decide)),oB (eA (y:=20) lp (by decide)),oB Sn,oB (eA (y:=20) lp (by decide)),oB Sn]++rq 4 oF ([oB (eA (y:=21) lp (by decide)),oB (eA (y:=21) lp (by decide)),oF,oB (eA (y:=21) lp (by decide))]++rq 5 oF ([oB (eA (y:=22) lp (by decide)),oB (eA (y:=22) lp (by decide)),oF,oB (eA (y:=22) lp (by decide)),oF,oC afr]))))⟩
   ·have abn:=ne_of_beq_false lp;rcases aL ((bW==20)) with gQ|gQ
    ·have QS:=eq_of_beq gQ;rcases aL (decide ((Ki m (aA aZ eR jv iu dr bp bH) (aA dM kC qh q8 kD dh bG))<=0)) with jV|jV
     ·have abA:=of_decide_eq_true jV;refine⟨⟨.inl (aA 0 true 0 [] [] [] []),⟨(⟨(λv hv=>by cases hv;exact(iQ _)),(by rw[fM l7,fM ku];simp only[p9,iJ,fq,Ou,nN,Bf,lp,gQ,jV,eA gQ (show(20:Int)≠19 by decide),eA gQ (show(20:Int)≠21 by decide),eA gQ (show(20:Int)≠22 by decide),cond_true,cond_false];try rfl)⟩),λw hw=>(by cases hw)⟩⟩,kf ah ([oE l7,oC Ow,oE ku,oC Rr,oC Rs,oB lp,oB lp,oB lp]++rq 4 oF ([oB gQ,oB gQ,oF,oB gQ,oF]++rq 6 (oB jV) (rq 6 oT ([oC ajx]))))⟩
     ·have abA:=of_decide_eq_false jV;refine⟨⟨.inl (aA 0 false 0 [] [] [] []),⟨(⟨(λv hv=>by cases hv;exact(iQ _)),(by rw[fM l7,fM ku];simp only[p9,iJ,fq,Ou,nN,Bf,lp,gQ,jV,eA gQ (show(20:Int)≠19 by decide),eA gQ (show(20:Int)≠21 by decide),eA gQ (show(20:Int)≠22 by decide),cond_true,cond_false];try rfl)⟩),λw hw=>(by cases hw)⟩⟩,kf ah ([oE l7,oC Ow,oE ku,oC Rr,oC Rs,oB lp,oB lp,oB lp]++rq 4 oF ([oB gQ,oB gQ,oF,oB gQ,oF]++rq 4 (oB jV) ([oB (eA (y:=21) gQ (by decide)),oB (eA (y:=21) gQ (by decide)),oB jV,oB (eA (y:=21) gQ (by decide)),oB jV]++rq 4 oF ([oB (eA (y:=22) gQ (by decide)),oB (eA (y:=22) gQ (by decide)),oF,oB (eA (y:=22) gQ (by decide)),oF,oC afr]))))⟩
    ·have QS:=ne_of_beq_false gQ;rcases aL ((bW==21)) with cC|cC
     ·have Kh:=eq_of_beq cC;rcases aL (decide ((Ki m (aA aZ eR jv iu dr bp bH) (aA dM kC qh q8 kD dh bG))>0)) with eS|eS
      ·have Dq:=of_decide_eq_true eS;refine⟨⟨.inl (aA 0 true 0 [] [] [] []),⟨(⟨(λv hv=>by cases hv;exact(iQ _)),(by rw[fM l7,fM ku];simp only[p9,iJ,fq,Ou,nN,Bf,lp,gQ,cC,eS,eA cC (show(21:Int)≠19 by decide),eA cC (show(21:Int)≠20 by decide),eA cC (show(21:Int)≠22 by decide),cond_true,cond_false];try rfl)⟩),λw hw=>(by cases hw)⟩⟩,kf ah ([oE l7,oC Ow,oE ku,oC Rr,oC Rs,oB lp,oB lp,oB lp]++rq 4 oF ([oB gQ,oB gQ,oF,oB gQ]++rq 5 oF ([oB cC,oB cC,oF,oB cC,oF]++rq 6 (oB eS) ([oC ajx]))))⟩
      ·have Dq:=of_decide_eq_false eS;refine⟨⟨.inl (aA 0 false 0 [] [] [] []),⟨(⟨(λv hv=>by cases hv;exact(iQ _)),(by rw[fM l7,fM ku];simp only[p9,iJ,fq,Ou,nN,Bf,lp,gQ,cC,eS,eA cC (show(21:Int)≠19 by decide),eA cC (show(21:Int)≠20 by decide),eA cC (show(21:Int)≠22 by decide),cond_true,cond_false];try rfl)⟩),λw hw=>(by cases hw)⟩⟩,kf ah ([oE l7,oC Ow,oE ku,oC Rr,oC Rs,oB lp,oB lp,oB lp]++rq 4 oF ([oB gQ,oB gQ,oF,oB gQ]++rq 5 oF ([oB cC,oB cC,oF,oB cC,oF]++rq 4 (oB eS) ([oB (eA (y:=22) cC (by decide)),oB (eA (y:=22) cC (by decide)),oB eS,oB (eA (y:=22) cC (by decide)),oB eS,oC afr]))))⟩
     ·have Kh:=ne_of_beq_false cC;rcases aL ((bW==22)) with lg|lg
      ·have JL:=eq_of_beq lg;refine⟨⟨.inl (aA 0 (decide ((Ki m (aA aZ eR jv iu dr bp bH) (aA dM kC qh q8 kD dh bG))>=0)) 0 [] [] [] []),⟨(⟨(λv hv=>by cases hv;exact(iQ _)),(by rw[fM l7,fM ku];simp only[p9,iJ,fq,Ou,nN,Bf,lp,gQ,cC,lg,eA lg (show(22:Int)≠19 by decide),eA lg (show(22:Int)≠20 by decide),eA lg (show(22:Int)≠21 by decide),cond_true,cond_false];try rfl)⟩),λw hw=>(by cases hw)⟩⟩,kf ah ([oE l7,oC Ow,oE ku,oC Rr,oC Rs,oB lp,oB lp,oB lp]++rq 4 oF ([oB gQ,oB gQ,oF,oB gQ]++rq 5 oF ([oB cC,oB cC,oF,oB cC]++rq 5 oF ([oB lg,oB lg,oF,oB lg,oF,vR 94 [.t (.bool (decide ((Ki m (aA aZ eR jv iu dr bp bH) (aA dM kC qh q8 kD dh bG))>=0)))] (aA 0 (decide ((Ki m (aA aZ eR jv iu dr bp bH) (aA dM kC qh q8 kD dh bG))>=0)) 0 [] [] [] []) (bS lW (x:=.bool (decide ((Ki m (aA aZ eR jv iu dr bp bH) (aA dM kC qh q8 kD dh bG))>=0))) ⟨_,rfl⟩)]))))⟩
      ·have JL:=ne_of_beq_false lg;refine⟨⟨.inl (aA 0 false 0 [] [] [] []),⟨(⟨(λv hv=>by cases hv;exact(iQ _)),(by rw[fM l7,fM ku];simp only[p9,iJ,fq,Ou,nN,Bf,lp,gQ,cC,lg,cond_true,cond_false];try rfl)⟩),λw hw=>(by cases hw)⟩⟩,kf ah ([oE l7,oC Ow,oE ku,oC Rr,oC Rs,oB lp,oB lp,oB lp]++rq 4 oF ([oB gQ,oB gQ,oF,oB gQ]++rq 5 oF ([oB cC,oB cC,oF,oB cC]++rq 5 oF ([oB lg,oB lg,oF,oB lg,oF,oC afr]))))⟩
  ·have abE:=ne_of_beq_false Bf;refine⟨⟨.inr (7),⟨(⟨(λv hv=>by cases hv),(by rw[fM l7,fM ku];simp only[p9,iJ,nN,Bf,cond_true,cond_false])⟩),λw hw=>Sum.inr.inj hw▸(show(7:Int)≠0 by decide)⟩⟩,kf ah [oE l7,oC Ow,oE ku,oC (show ev 52 [.t (aA dM kC qh q8 kD dh bG),.t (.int .u8 1)] []=some (aM (.inr (7)) []) from bD _ _ _ (by show some (aM (cond ((dM==1)) _ _) [])=_;rw[Bf];rfl))]⟩
 ·have B7:=ne_of_beq_false nN;obtain⟨e15,am9⟩:=dw l 1;have ana:=(h2 e15 (fU am9));obtain⟨apI,asL,as4,as5,asM,anb,apJ,rfl,apK,apL,apM,apN,apO,apP⟩:=T.aB ana;refine⟨⟨.inr (7),⟨(⟨(λv hv=>by cases hv),(by rw[fM l7];simp only[p9,iJ,nN,cond_true,cond_false])⟩),λw hw=>Sum.inr.inj hw▸(show(7:Int)≠0 by decide)⟩⟩,kf ah [oE l7,oC (show ev 52 [.t (aA aZ eR jv iu dr bp bH),.t (.int .u8 1)] []=some (aM (.inr (7)) []) from bD _ _ _ (by show some (aM (cond ((aZ==1)) _ _) [])=_;rw[nN];rfl)),oE am9]⟩
theorem XL (m:Int)(q:Sc)(n:Int)(s t:List UInt8)(ns ks l:List Tree)(h1:l.length<=4194304)(h2:∀y∈l,T .az y)(h3:2<=l.length):∃r:{r:Tree ⊕ Int //(∀v,r=.inl v->iJ (jP l 0)=1/\iJ (jP l 1)=1/\∃n,v=yu n/\((24:Int)=24->n=IntKind.wrap .i64 (GF (jP l 0)+GF (jP l 1)))/\((24:Int)=25->n=IntKind.wrap .i64 (GF (jP l 0) - GF (jP l 1))))/\∀w,r=.inr w->w≠0},ai (cf m) 66 [.ptr (.arg 0) 0,.t (aY 24 n s t ns ks),.t (.sl l)] [.cells 63 (aU q)] (aM (r.1) [.cells 63 (aU q)]):=by
 obtain⟨uh,uk⟩:=DO m;obtain⟨ev,aJ,bD,um⟩:∃ev,aC (cf m) ev/\Has ev 52 sw/\Has ev 103 (iP vM (rZ) (λx=>Fm x (uh x))):=⟨_,(aq (jX m) (aq (dF (λ⟨op,a,c⟩ hx=>(uk op a c hx).1)) aF)),au,(av rfl au)⟩;refine AX.start 22 3 Tryz.func66 rfl (by decide) rfl rfl (by decide) ?_;refine AX.frames ?_;obtain⟨e1,rJ⟩:=dw l 0;have dB:=(h2 e1 (fU rJ));obtain⟨ck,j6,n_2,s_2,iX,b8,eo,rfl,gx,kB,tM,rS,tN,qG⟩:=T.aB dB;rcases aL ((ck==1)) with El|El
 ·have abF:=eq_of_beq El;obtain⟨e4,uE⟩:=dw l 1;have p7:=(h2 e4 (fU uE));obtain⟨eB,og,rD,Be,pV,fh,gW,rfl,xM,BX,Kk,Kl,Km,Kn⟩:=T.aB p7;rcases aL ((eB==1)) with Kq|Kq
  ·have abG:=eq_of_beq Kq;have DP:rZ (43,n_2,rD):=trivial;have hq7:=uk 43 n_2 rD DP;rcases DQ:(uh (43,n_2,rD)) with v_8|VK
   ·obtain⟨Lt,rfl,afs⟩:=hq7.2.1 _ DQ;refine⟨⟨.inl (aA 1 false Lt [] [] [] []),⟨((λv hv=>by cases hv;rw[fM rJ,fM uE];exact⟨eq_of_beq El,eq_of_beq Kq,_,rfl,λh=>afs.1 rfl,λh=>absurd h (by decide)⟩)),λw hw=>(by cases hw)⟩⟩,kf ah [oZ,oY (show([43,45,42]:List UInt8)[0]?=some 43 from rfl),oE rJ,oC (show ev 52 [.t (aA ck j6 n_2 s_2 iX b8 eo),.t (.int .u8 1)] []=some (aM (.inl (aA ck j6 n_2 s_2 iX b8 eo)) []) from bD _ _ _ (by show some (aM (cond ((ck==1)) _ _) [])=_;rw[El];rfl)),oE uE,oC (show ev 52 [.t (aA eB og rD Be pV fh gW),.t (.int .u8 1)] []=some (aM (.inl (aA eB og rD Be pV fh gW)) []) from bD _ _ _ (by show some (aM (cond ((eB==1)) _ _) [])=_;rw[Kq];rfl)),oC (show ev 103 [.t (.int .u8 43),.t (.int .i64 n_2),.t (.int .i64 rD)] []=some (aM (.inl (aA 1 false Lt [] [] [] [])) []) from((fF um rC (43,n_2,rD) DP rfl rfl):ev 103 _ _=some _).trans (congrArg (λz=>some (aM z [])) DQ))]⟩
   ·have abH:=beq_eq_false_iff_ne.mpr (hq7.2.2 _ DQ);refine⟨⟨.inr (VK),⟨((λv hv=>by cases hv)),λw hw=>Sum.inr.inj hw▸(show(VK:Int)≠0 by intro h0;have hz:=abH;rw[h0] at hz;exact absurd hz (by decide))⟩⟩,kf ah [oZ,oY (show([43,45,42]:List UInt8)[0]?=some 43 from rfl),oE rJ,oC (show ev 52 [.t (aA ck j6 n_2 s_2 iX b8 eo),.t (.int .u8 1)] []=some (aM (.inl (aA ck j6 n_2 s_2 iX b8 eo)) []) from bD _ _ _ (by show some (aM (cond ((ck==1)) _ _) [])=_;rw[El];rfl)),oE uE,oC (show ev 52 [.t (aA eB og rD Be pV fh gW),.t (.int .u8 1)] []=some (aM (.inl (aA eB og rD Be pV fh gW)) []) from bD _ _ _ (by show some (aM (cond ((eB==1)) _ _) [])=_;rw[Kq];rfl)),oC (show ev 103 [.t (.int .u8 43),.t (.int .i64 n_2),.t (.int .i64 rD)] []=some (aM (.inr VK) []) from((fF um rC (43,n_2,rD) DP rfl rfl):ev 103 _ _=some _).trans (congrArg (λz=>some (aM z [])) DQ))]⟩
  ·have abG:=ne_of_beq_false Kq;refine⟨⟨.inr (7),⟨((λv hv=>by cases hv)),λw hw=>Sum.inr.inj hw▸(show(7:Int)≠0 by decide)⟩⟩,kf ah [oZ,oY (show([43,45,42]:List UInt8)[0]?=some 43 from rfl),oE rJ,oC (show ev 52 [.t (aA ck j6 n_2 s_2 iX b8 eo),.t (.int .u8 1)] []=some (aM (.inl (aA ck j6 n_2 s_2 iX b8 eo)) []) from bD _ _ _ (by show some (aM (cond ((ck==1)) _ _) [])=_;rw[El];rfl)),oE uE,oC (show ev 52 [.t (aA eB og rD Be pV fh gW),.t (.int .u8 1)] []=some (aM (.inr (7)) []) from bD _ _ _ (by show some (aM (cond ((eB==1)) _ _) [])=_;rw[Kq];rfl))]⟩
 ·have abF:=ne_of_beq_false El;obtain⟨e9,Mn⟩:=dw l 1;have yq:=(h2 e9 (fU Mn));obtain⟨VL,ahv,anc,ane,ahw,Ru,VM,rfl,HU,Od,Oe,Og,Oh,Oi⟩:=T.aB yq;refine⟨⟨.inr (7),⟨((λv hv=>by cases hv)),λw hw=>Sum.inr.inj hw▸(show(7:Int)≠0 by decide)⟩⟩,kf ah [oZ,oY (show([43,45,42]:List UInt8)[0]?=some 43 from rfl),oE rJ,oC (show ev 52 [.t (aA ck j6 n_2 s_2 iX b8 eo),.t (.int .u8 1)] []=some (aM (.inr (7)) []) from bD _ _ _ (by show some (aM (cond ((ck==1)) _ _) [])=_;rw[El];rfl)),oE Mn]⟩
theorem XM (m:Int)(q:Sc)(n:Int)(s t:List UInt8)(ns ks l:List Tree)(h1:l.length<=4194304)(h2:∀y∈l,T .az y)(h3:2<=l.length):∃r:{r:Tree ⊕ Int //(∀v,r=.inl v->iJ (jP l 0)=1/\iJ (jP l 1)=1/\∃n,v=yu n/\((25:Int)=24->n=IntKind.wrap .i64 (GF (jP l 0)+GF (jP l 1)))/\((25:Int)=25->n=IntKind.wrap .i64 (GF (jP l 0) - GF (jP l 1))))/\∀w,r=.inr w->w≠0},ai (cf m) 66 [.ptr (.arg 0) 0,.t (aY 25 n s t ns ks),.t (.sl l)] [.cells 63 (aU q)] (aM (r.1) [.cells 63 (aU q)]):=by
 obtain⟨uh,uk⟩:=DO m;obtain⟨ev,aJ,bD,um⟩:∃ev,aC (cf m) ev/\Has ev 52 sw/\Has ev 103 (iP vM (rZ) (λx=>Fm x (uh x))):=⟨_,(aq (jX m) (aq (dF (λ⟨op,a,c⟩ hx=>(uk op a c hx).1)) aF)),au,(av rfl au)⟩;refine AX.start 22 3 Tryz.func66 rfl (by decide) rfl rfl (by decide) ?_;refine AX.frames ?_;obtain⟨e1,rJ⟩:=dw l 0;have dB:=(h2 e1 (fU rJ));obtain⟨ck,j6,n_2,s_2,iX,b8,eo,rfl,gx,kB,tM,rS,tN,qG⟩:=T.aB dB;rcases aL ((ck==1)) with El|El
 ·have abF:=eq_of_beq El;obtain⟨e4,uE⟩:=dw l 1;have p7:=(h2 e4 (fU uE));obtain⟨eB,og,rD,Be,pV,fh,gW,rfl,xM,BX,Kk,Kl,Km,Kn⟩:=T.aB p7;rcases aL ((eB==1)) with Kq|Kq
  ·have abG:=eq_of_beq Kq;have DP:rZ (45,n_2,rD):=trivial;have hq7:=uk 45 n_2 rD DP;rcases DQ:(uh (45,n_2,rD)) with v_8|VK
   ·obtain⟨Lt,rfl,afs⟩:=hq7.2.1 _ DQ;refine⟨⟨.inl (aA 1 false Lt [] [] [] []),⟨((λv hv=>by cases hv;rw[fM rJ,fM uE];exact⟨eq_of_beq El,eq_of_beq Kq,_,rfl,λh=>absurd h (by decide),λh=>afs.2 rfl⟩)),λw hw=>(by cases hw)⟩⟩,kf ah [oZ,oY (show([43,45,42]:List UInt8)[1]?=some 45 from rfl),oE rJ,oC (show ev 52 [.t (aA ck j6 n_2 s_2 iX b8 eo),.t (.int .u8 1)] []=some (aM (.inl (aA ck j6 n_2 s_2 iX b8 eo)) []) from bD _ _ _ (by show some (aM (cond ((ck==1)) _ _) [])=_;rw[El];rfl)),oE uE,oC (show ev 52 [.t (aA eB og rD Be pV fh gW),.t (.int .u8 1)] []=some (aM (.inl (aA eB og rD Be pV fh gW)) []) from bD _ _ _ (by show some (aM (cond ((eB==1)) _ _) [])=_;rw[Kq];rfl)),oC (show ev 103 [.t (.int .u8 45),.t (.int .i64 n_2),.t (.int .i64 rD)] []=some (aM (.inl (aA 1 false Lt [] [] [] [])) []) from((fF um rC (45,n_2,rD) DP rfl rfl):ev 103 _ _=some _).trans (congrArg (λz=>some (aM z [])) DQ))]⟩
   ·have abH:=beq_eq_false_iff_ne.mpr (hq7.2.2 _ DQ);refine⟨⟨.inr (VK),⟨((λv hv=>by cases hv)),λw hw=>Sum.inr.inj hw▸(show(VK:Int)≠0 by intro h0;have hz:=abH;rw[h0] at hz;exact absurd hz (by decide))⟩⟩,kf ah [oZ,oY (show([43,45,42]:List UInt8)[1]?=some 45 from rfl),oE rJ,oC (show ev 52 [.t (aA ck j6 n_2 s_2 iX b8 eo),.t (.int .u8 1)] []=some (aM (.inl (aA ck j6 n_2 s_2 iX b8 eo)) []) from bD _ _ _ (by show some (aM (cond ((ck==1)) _ _) [])=_;rw[El];rfl)),oE uE,oC (show ev 52 [.t (aA eB og rD Be pV fh gW),.t (.int .u8 1)] []=some (aM (.inl (aA eB og rD Be pV fh gW)) []) from bD _ _ _ (by show some (aM (cond ((eB==1)) _ _) [])=_;rw[Kq];rfl)),oC (show ev 103 [.t (.int .u8 45),.t (.int .i64 n_2),.t (.int .i64 rD)] []=some (aM (.inr VK) []) from((fF um rC (45,n_2,rD) DP rfl rfl):ev 103 _ _=some _).trans (congrArg (λz=>some (aM z [])) DQ))]⟩
  ·have abG:=ne_of_beq_false Kq;refine⟨⟨.inr (7),⟨((λv hv=>by cases hv)),λw hw=>Sum.inr.inj hw▸(show(7:Int)≠0 by decide)⟩⟩,kf ah [oZ,oY (show([43,45,42]:List UInt8)[1]?=some 45 from rfl),oE rJ,oC (show ev 52 [.t (aA ck j6 n_2 s_2 iX b8 eo),.t (.int .u8 1)] []=some (aM (.inl (aA ck j6 n_2 s_2 iX b8 eo)) []) from bD _ _ _ (by show some (aM (cond ((ck==1)) _ _) [])=_;rw[El];rfl)),oE uE,oC (show ev 52 [.t (aA eB og rD Be pV fh gW),.t (.int .u8 1)] []=some (aM (.inr (7)) []) from bD _ _ _ (by show some (aM (cond ((eB==1)) _ _) [])=_;rw[Kq];rfl))]⟩
 ·have abF:=ne_of_beq_false El;obtain⟨e9,Mn⟩:=dw l 1;have yq:=(h2 e9 (fU Mn));obtain⟨VL,ahv,anc,ane,ahw,Ru,VM,rfl,HU,Od,Oe,Og,Oh,Oi⟩:=T.aB yq;refine⟨⟨.inr (7),⟨((λv hv=>by cases hv)),λw hw=>Sum.inr.inj hw▸(show(7:Int)≠0 by decide)⟩⟩,kf ah [oZ,oY (show([43,45,42]:List UInt8)[1]?=some 45 from rfl),oE rJ,oC (show ev 52 [.t (aA ck j6 n_2 s_2 iX b8 eo),.t (.int .u8 1)] []=some (aM (.inr (7)) []) from bD _ _ _ (by show some (aM (cond ((ck==1)) _ _) [])=_;rw[El];rfl)),oE Mn]⟩
theorem XN (m:Int)(q:Sc)(n:Int)(s t:List UInt8)(ns ks l:List Tree)(h1:l.length<=4194304)(h2:∀y∈l,T .az y)(h3:2<=l.length):∃r:{r:Tree ⊕ Int //(∀v,r=.inl v->iJ (jP l 0)=1/\iJ (jP l 1)=1/\∃n,v=yu n/\((26:Int)=24->n=IntKind.wrap .i64 (GF (jP l 0)+GF (jP l 1)))/\((26:Int)=25->n=IntKind.wrap .i64 (GF (jP l 0) - GF (jP l 1))))/\∀w,r=.inr w->w≠0},ai (cf m) 66 [.ptr (.arg 0) 0,.t (aY 26 n s t ns ks),.t (.sl l)] [.cells 63 (aU q)] (aM (r.1) [.cells 63 (aU q)]):=by
 obtain⟨uh,uk⟩:=DO m;obtain⟨ev,aJ,bD,um⟩:∃ev,aC (cf m) ev/\Has ev 52 sw/\Has ev 103 (iP vM (rZ) (λx=>Fm x (uh x))):=⟨_,(aq (jX m) (aq (dF (λ⟨op,a,c⟩ hx=>(uk op a c hx).1)) aF)),au,(av rfl au)⟩;refine AX.start 22 3 Tryz.func66 rfl (by decide) rfl rfl (by decide) ?_;refine AX.frames ?_;obtain⟨e1,rJ⟩:=dw l 0;have dB:=(h2 e1 (fU rJ));obtain⟨ck,j6,n_2,s_2,iX,b8,eo,rfl,gx,kB,tM,rS,tN,qG⟩:=T.aB dB;rcases aL ((ck==1)) with El|El
 ·have abF:=eq_of_beq El;obtain⟨e4,uE⟩:=dw l 1;have p7:=(h2 e4 (fU uE));obtain⟨eB,og,rD,Be,pV,fh,gW,rfl,xM,BX,Kk,Kl,Km,Kn⟩:=T.aB p7;rcases aL ((eB==1)) with Kq|Kq
  ·have abG:=eq_of_beq Kq;have DP:rZ (42,n_2,rD):=trivial;have hq7:=uk 42 n_2 rD DP;rcases DQ:(uh (42,n_2,rD)) with v_8|VK
   ·obtain⟨Lt,rfl,afs⟩:=hq7.2.1 _ DQ;refine⟨⟨.inl (aA 1 false Lt [] [] [] []),⟨((λv hv=>by cases hv;rw[fM rJ,fM uE];exact⟨eq_of_beq El,eq_of_beq Kq,_,rfl,λh=>absurd h (by decide),λh=>absurd h (by decide)⟩)),λw hw=>(by cases hw)⟩⟩,kf ah [oZ,oY (show([43,45,42]:List UInt8)[2]?=some 42 from rfl),oE rJ,oC (show ev 52 [.t (aA ck j6 n_2 s_2 iX b8 eo),.t (.int .u8 1)] []=some (aM (.inl (aA ck j6 n_2 s_2 iX b8 eo)) []) from bD _ _ _ (by show some (aM (cond ((ck==1)) _ _) [])=_;rw[El];rfl)),oE uE,oC (show ev 52 [.t (aA eB og rD Be pV fh gW),.t (.int .u8 1)] []=some (aM (.inl (aA eB og rD Be pV fh gW)) []) from bD _ _ _ (by show some (aM (cond ((eB==1)) _ _) [])=_;rw[Kq];rfl)),oC (show ev 103 [.t (.int .u8 42),.t (.int .i64 n_2),.t (.int .i64 rD)] []=some (aM (.inl (aA 1 false Lt [] [] [] [])) []) from((fF um rC (42,n_2,rD) DP rfl rfl):ev 103 _ _=some _).trans (congrArg (λz=>some (aM z [])) DQ))]⟩
   ·have abH:=beq_eq_false_iff_ne.mpr (hq7.2.2 _ DQ);refine⟨⟨.inr (VK),⟨((λv hv=>by cases hv)),λw hw=>Sum.inr.inj hw▸(show(VK:Int)≠0 by intro h0;have hz:=abH;rw[h0] at hz;exact absurd hz (by decide))⟩⟩,kf ah [oZ,oY (show([43,45,42]:List UInt8)[2]?=some 42 from rfl),oE rJ,oC (show ev 52 [.t (aA ck j6 n_2 s_2 iX b8 eo),.t (.int .u8 1)] []=some (aM (.inl (aA ck j6 n_2 s_2 iX b8 eo)) []) from bD _ _ _ (by show some (aM (cond ((ck==1)) _ _) [])=_;rw[El];rfl)),oE uE,oC (show ev 52 [.t (aA eB og rD Be pV fh gW),.t (.int .u8 1)] []=some (aM (.inl (aA eB og rD Be pV fh gW)) []) from bD _ _ _ (by show some (aM (cond ((eB==1)) _ _) [])=_;rw[Kq];rfl)),oC (show ev 103 [.t (.int .u8 42),.t (.int .i64 n_2),.t (.int .i64 rD)] []=some (aM (.inr VK) []) from((fF um rC (42,n_2,rD) DP rfl rfl):ev 103 _ _=some _).trans (congrArg (λz=>some (aM z [])) DQ))]⟩
  ·have abG:=ne_of_beq_false Kq;refine⟨⟨.inr (7),⟨((λv hv=>by cases hv)),λw hw=>Sum.inr.inj hw▸(show(7:Int)≠0 by decide)⟩⟩,kf ah [oZ,oY (show([43,45,42]:List UInt8)[2]?=some 42 from rfl),oE rJ,oC (show ev 52 [.t (aA ck j6 n_2 s_2 iX b8 eo),.t (.int .u8 1)] []=some (aM (.inl (aA ck j6 n_2 s_2 iX b8 eo)) []) from bD _ _ _ (by show some (aM (cond ((ck==1)) _ _) [])=_;rw[El];rfl)),oE uE,oC (show ev 52 [.t (aA eB og rD Be pV fh gW),.t (.int .u8 1)] []=some (aM (.inr (7)) []) from bD _ _ _ (by show some (aM (cond ((eB==1)) _ _) [])=_;rw[Kq];rfl))]⟩
 ·have abF:=ne_of_beq_false El;obtain⟨e9,Mn⟩:=dw l 1;have yq:=(h2 e9 (fU Mn));obtain⟨VL,ahv,anc,ane,ahw,Ru,VM,rfl,HU,Od,Oe,Og,Oh,Oi⟩:=T.aB yq;refine⟨⟨.inr (7),⟨((λv hv=>by cases hv)),λw hw=>Sum.inr.inj hw▸(show(7:Int)≠0 by decide)⟩⟩,kf ah [oZ,oY (show([43,45,42]:List UInt8)[2]?=some 42 from rfl),oE rJ,oC (show ev 52 [.t (aA ck j6 n_2 s_2 iX b8 eo),.t (.int .u8 1)] []=some (aM (.inr (7)) []) from bD _ _ _ (by show some (aM (cond ((ck==1)) _ _) [])=_;rw[El];rfl)),oE Mn]⟩
theorem Ox (m:Int)(q:Sc)(e:Tree)(l:List Tree)(h0:T .aD e)(h1:l.length<=4194304)(h2:∀y∈l,T .az y)(h3:2<=l.length)(h4:fq e=24\/fq e=25\/fq e=26):∃r:{r:Tree ⊕ Int //(∀v,r=.inl v->iJ (jP l 0)=1/\iJ (jP l 1)=1/\∃n,v=yu n/\(fq e=24->n=IntKind.wrap .i64 (GF (jP l 0)+GF (jP l 1)))/\(fq e=25->n=IntKind.wrap .i64 (GF (jP l 0) - GF (jP l 1))))/\∀w,r=.inr w->w≠0},ai (cf m) 66 [.ptr (.arg 0) 0,.t e,.t (.sl l)] [.cells 63 (aU q)] (aM (r.1) [.cells 63 (aU q)]):=by
 obtain⟨op,n,s,t,ns,ks,rfl,_⟩:=T.bz h0;rcases h4 with h|h|h
 ·obtain rfl:op=24:=h;exact XL m q n s t ns ks l h1 h2 h3
 ·obtain rfl:op=25:=h;exact XM m q n s t ns ks l h1 h2 h3
 ·obtain rfl:op=26:=h;exact XN m q n s t ns ks l h1 h2 h3
theorem ajz (m:Int)(q:Sc)(e:Tree)(l:List Tree)(h0:T .aD e)(h1:l.length<=4194304)(h2:∀y∈l,T .az y)(h3:1<=l.length):∃r:{r:Tree ⊕ Int //((∀v,r=.inl v->T .az v))/\∀w,r=.inr w->w≠0},ai (cf m) 59 [.ptr (.arg 0) 0,.t e,.t (.sl l)] [.cells 63 (aU q)] (aM (r.1) [.cells 63 (aU q)]):=by
 have bw:=h0;obtain⟨bW,n_1,s_1,dD,aT,bO,rfl,cI,cH,fK,dS,eW,eM,jc⟩:=T.bz bw;obtain⟨ev,aJ,bD,lW⟩:∃ev,aC (cf m) ev/\Has ev 52 sw/\Has ev 94 (mL (λx=>∃b,x=.bool b) Bd):=⟨_,(aq (jX m) (aq (bR λx h=>by obtain⟨b,rfl⟩:=h;exact qT m b) aF)),au,(av rfl au)⟩;refine AX.start 16 3 Tryz.func59 rfl (by decide) rfl rfl (by decide) ?_;refine AX.frames ?_;obtain⟨e2,l7⟩:=dw l 0;have jd:=(h2 e2 (fU l7));obtain⟨aZ,eR,jv,iu,dr,bp,bH,rfl,r5,r6,tZ,ua,uf,ug⟩:=T.aB jd;rcases aL ((aZ==3)) with nN|nN
 ·have B7:=eq_of_beq nN;refine⟨⟨.inl (aA 0 (dr==dD) 0 [] [] [] []),⟨((λv hv=>by cases hv;exact(iQ _))),λw hw=>(by cases hw)⟩⟩,kf ah [oE l7,oC (show ev 52 [.t (aA aZ eR jv iu dr bp bH),.t (.int .u8 3)] []=some (aM (.inl (aA aZ eR jv iu dr bp bH)) []) from bD _ _ _ (by show some (aM (cond ((aZ==3)) _ _) [])=_;rw[nN];rfl)),vR 94 [.t (.bool (dr==dD))] (aA 0 (dr==dD) 0 [] [] [] []) (bS lW (x:=.bool (dr==dD)) ⟨_,rfl⟩)]⟩
 ·have B7:=ne_of_beq_false nN;refine⟨⟨.inr (7),⟨((λv hv=>by cases hv)),λw hw=>Sum.inr.inj hw▸(show(7:Int)≠0 by decide)⟩⟩,kf ah [oE l7,oC (show ev 52 [.t (aA aZ eR jv iu dr bp bH),.t (.int .u8 3)] []=some (aM (.inr (7)) []) from bD _ _ _ (by show some (aM (cond ((aZ==3)) _ _) [])=_;rw[nN];rfl))]⟩
theorem DR (m:Int)(q:Sc)(e:Tree)(l:List Tree)(h0:T .aD e)(h1:l.length<=4194304)(h2:∀y∈l,T .az y):∃r:{r:Tree ⊕ Int //((∀v,r=.inl v->T .az v))/\∀w,r=.inr w->w≠0},ai (cf m) 53 [.ptr (.arg 0) 0,.t e,.t (.sl l)] [.cells 63 (aU q)] (aM (r.1) [.cells 63 (aU q)]):=by
 have bw:=h0;obtain⟨bW,n_1,s_1,dD,aT,bO,rfl,cI,cH,fK,dS,eW,eM,jc⟩:=T.bz bw;obtain⟨ev,aJ,lW,Rv⟩:∃ev,aC (cf m) ev/\Has ev 94 (mL (λx=>∃b,x=.bool b) Bd)/\Has ev 95 (mL (λx=>∃t s,x=.agg [.str t,.str s]) afm):=⟨_,(aq (bR λx h=>by obtain⟨b,rfl⟩:=h;exact qT m b) (aq (bR λx h=>by obtain⟨t,s,rfl⟩:=h;exact VJ m t s) aF)),au,(av rfl au)⟩;refine AX.start 31 3 Tryz.func53 rfl (by decide) rfl rfl (by decide) ?_;refine AX.frames ?_;rcases aL ((bW==1)) with cq|cq
 ·have jN:=eq_of_beq cq;refine⟨⟨.inl (aA 0 (n_1==1) 0 [] [] [] []),⟨((λv hv=>by cases hv;exact(iQ _))),λw hw=>(by cases hw)⟩⟩,kf ah [oB cq,vR 94 [.t (.bool (n_1==1))] (aA 0 (n_1==1) 0 [] [] [] []) (bS lW (x:=.bool (n_1==1)) ⟨_,rfl⟩)]⟩
 ·have jN:=ne_of_beq_false cq;rcases aL ((bW==2)) with bL|bL
  ·have mC:=eq_of_beq bL;refine⟨⟨.inl (aA 1 false n_1 [] [] [] []),⟨((λv hv=>by cases hv;exact .az _ _ _ _ _ _ _ (by first|assumption|(simp;done)) (by first|assumption|(simp;done)) (by simp) (λ_ h=>by cases h) (by simp) (λ_ h=>by cases h))),λw hw=>(by cases hw)⟩⟩,kf ah [oB cq,oB bL]⟩
  ·have mC:=ne_of_beq_false bL;rcases aL ((bW==3)) with gP|gP
   ·have tI:=eq_of_beq gP;refine⟨⟨.inl (aA 2 false 0 s_1 [] [] []),⟨((λv hv=>by cases hv;exact .az _ _ _ _ _ _ _ (by first|assumption|(simp;done)) (by first|assumption|(simp;done)) (by simp) (λ_ h=>by cases h) (by simp) (λ_ h=>by cases h))),λw hw=>(by cases hw)⟩⟩,kf ah [oB cq,oB bL,oB gP]⟩
   ·have tI:=ne_of_beq_false gP;refine⟨⟨.inl (aA 3 false 0 s_1 dD [] []),⟨((λv hv=>by cases hv;exact(Ov _ _ (by assumption) (by assumption)))),λw hw=>(by cases hw)⟩⟩,kf ah [oB cq,oB bL,oB gP,vR 95 [.t (.agg [.str dD,.str s_1])] (aA 3 false 0 s_1 dD [] []) (bS Rv (x:=.agg [.str dD,.str s_1]) ⟨_,_,rfl⟩)]⟩
theorem aft (m:Int)(q:Sc)(e:Tree)(l:List Tree)(h0:T .aD e)(h1:l.length<=4194304)(h2:∀y∈l,T .az y)(h3:Rq q):∃r:{r:Tree ⊕ Int //((∀v,r=.inl v->T .az v))/\∀w,r=.inr w->w≠0},ai (cf m) 54 [.ptr (.arg 0) 0,.t e,.t (.sl l)] [.cells 63 (aU q)] (aM (r.1) [.cells 63 (aU q)]):=by
 obtain⟨_,hq1,hq2,hq3,K2,hq5,Lm⟩:=h3.1;have bw:=h0;obtain⟨bW,n_1,s_1,dD,aT,bO,rfl,cI,cH,fK,dS,eW,eM,jc⟩:=T.bz bw;obtain⟨ev,aJ,Rv⟩:∃ev,aC (cf m) ev/\Has ev 95 (mL (λx=>∃t s,x=.agg [.str t,.str s]) afm):=⟨_,(aq (bR λx h=>by obtain⟨t,s,rfl⟩:=h;exact VJ m t s) aF),au⟩;refine AX.start 38 3 Tryz.func54 rfl (by decide) rfl rfl (by decide) ?_;refine AX.frames ?_;rcases aL ((s_1==[112,114,105,110,99,105,112,97,108])) with cq|cq
 ·have jN:=eq_of_beq cq;refine⟨⟨.inl (aA 3 false 0 q.p2 q.p1 [] []),⟨((λv hv=>by cases hv;exact(Ov _ _ (by assumption) (by assumption)))),λw hw=>(by cases hw)⟩⟩,kf ah [oB cq,vR 95 [.t (.agg [.str q.p1,.str q.p2])] (aA 3 false 0 q.p2 q.p1 [] []) (bS Rv (x:=.agg [.str q.p1,.str q.p2]) ⟨_,_,rfl⟩)]⟩
 ·have jN:=ne_of_beq_false cq;rcases aL ((s_1==[97,99,116,105,111,110])) with bL|bL
  ·have mC:=eq_of_beq bL;refine⟨⟨.inl (aA 3 false 0 q.a2 q.a1 [] []),⟨((λv hv=>by cases hv;exact(Ov _ _ (by assumption) (by assumption)))),λw hw=>(by cases hw)⟩⟩,kf ah [oB cq,oB bL,vR 95 [.t (.agg [.str q.a1,.str q.a2])] (aA 3 false 0 q.a2 q.a1 [] []) (bS Rv (x:=.agg [.str q.a1,.str q.a2]) ⟨_,_,rfl⟩)]⟩
  ·have mC:=ne_of_beq_false bL;rcases aL ((s_1==[114,101,115,111,117,114,99,101])) with gP|gP
   ·have tI:=eq_of_beq gP;refine⟨⟨.inl (aA 3 false 0 q.r2 q.r1 [] []),⟨((λv hv=>by cases hv;exact(Ov _ _ (by assumption) (by assumption)))),λw hw=>(by cases hw)⟩⟩,kf ah [oB cq,oB bL,oB gP,vR 95 [.t (.agg [.str q.r1,.str q.r2])] (aA 3 false 0 q.r2 q.r1 [] []) (bS Rv (x:=.agg [.str q.r1,.str q.r2]) ⟨_,_,rfl⟩)]⟩
   ·have tI:=ne_of_beq_false gP;refine⟨⟨.inl (aA q.k q.b q.n q.s q.t q.ns q.l),⟨((λv hv=>by cases hv;exact h3.1.1)),λw hw=>(by cases hw)⟩⟩,kf ah [oB cq,oB bL,oB gP]⟩
theorem ahx {m:Int}:L6 (cf m).P 30 32 am8:=⟨⟨_,Ko,rfl⟩,ajw,_,rfl,by decide,rfl,by decide⟩
theorem Fo {m:Int}:pn (cf m).P 32 5=some 5:=by kernel_rfl
theorem Fp {m:Int}:pn (cf m).P 32 6=some 6:=by kernel_rfl
theorem j7 {l:List Tree}(h:∀y∈l,T .string y):eP false 1 l:=λy hy=>by
 obtain⟨v,rfl,_⟩:=T.bF (h y hy);exact⟨rfl,rfl,rfl⟩
theorem aG {l:List Tree}(h:∀y∈l,T .az y):eP true 7 l:=λy hy=>by
 obtain⟨kind,b_,n,s,t_,names,list,rfl,_,_,_,_,_,_⟩:=T.aB (h y hy);exact⟨rfl,rfl,rfl⟩
theorem afu {m:Int}{ev:bt}(aJ:aC (cf m) ev):ai (cf m) 49 [.t (.sl [])] [] (.ret (.t (.sl [])) [] []):=by
 refine qw 8 1 Tryz.func49 rfl (by decide) rfl rfl (by decide) ?_;refine AW.seq ?_;refine AW.region ?_;refine iM.go (f:=0) aJ (by first|exact iI rfl|exact aK rfl) ?_;refine iM.nil ?_;refine AW.seq ?_;refine AW.seq ?_;refine AW.region ?_;refine iM.go (f:=0) aJ (by first|exact nt rfl|exact aI rfl) ?_;refine iM.WZ rfl rfl p5 rfl (λb hb=> ?_);refine iM.nil ?_;refine AW.cond rfl (λh4=> ?_) (λh4=> ?_)
 ·refine AW.seq ?_;refine AW.region ?_;refine iM.go (f:=0) aJ (by first|exact iI rfl|exact aK rfl) ?_;refine iM.nil ?_;refine AW.ret ?_;exact .inl rfl
 ·refine AW.skip ?_;refine AW.seq ?_;refine AW.region ?_;refine iM.go (f:=0) aJ (E0 rfl p5 rfl qP rfl rfl) ?_;refine iM.go (f:=0) aJ (by first|exact nt rfl|exact aI rfl) ?_;refine iM.go (f:=0) aJ (S4 U5 rfl rfl (.inl (.inl rfl)) (.inr (.inr ⟨_,rfl⟩))) ?_;refine iM.go (f:=0) aJ (by first|exact iI rfl|exact aK rfl) ?_;refine iM.nil ?_;refine AW.ret ?_;exact .inl rfl
theorem afv {m:Int}{ev:bt}(aJ:aC (cf m) ev)(es:List Tree)(hne:es≠ [])(hu:eP false 1 es)(hl:es.length<=4194304):
 ai (cf m) 49 [.t (.sl es)] [] (.ret (.ref (.loc [5]) 0 es.length) [] [(.loc [5],.arr (9,false) 1 false ((flat es).map .t))]):=by
 refine qw 8 1 Tryz.func49 rfl (by decide) rfl rfl (by decide) ?_
 refine AW.seq ?_
 refine AW.region ?_
 refine iM.go (f:=0) aJ (by first|exact iI rfl|exact aK rfl) ?_
 refine iM.nil ?_
 refine AW.seq ?_
 refine AW.seq ?_
 refine AW.region ?_
 refine iM.go (f:=0) aJ (by first|exact nt rfl|exact aI rfl) ?_
 refine iM.WZ rfl rfl p5 rfl (λb hb=> ?_)
 have hb:=hb hne
 subst hb
 refine iM.nil ?_
 refine AW.cond rfl (λh=>absurd h (by decide)) (λh=> ?_)
 refine AW.skip ?_
 refine AW.seq ?_
 refine AW.region ?_
 refine iM.go (f:=0) aJ (E0 rfl p5 rfl qP rfl rfl) ?_
 refine iM.go (f:=0) aJ (by first|exact nt rfl|exact aI rfl) ?_
 refine iM.go (f:=0) aJ (S3 U5 rfl rfl (.inl rfl) hu hne (by show es.length*16<=70368744177664;omega)) ?_
 refine iM.go (f:=0) aJ (by first|exact iI rfl|exact aK rfl) ?_
 refine iM.nil ?_
 refine AW.ret ?_
 exact .inr (Nw rfl rfl rfl)
def vk:List TV->List aO->Option br:=λas' os=>match as',os with
 | [.t (.sl [])],[]=>some (.ret (.t (.sl [])) [] [])
 | [.t (.sl (e::es))],[]=> @ite _ (eP false 1 (e::es)/\(e::es).length<=4194304) (Classical.propDecidable _) (some (.ret (.ref (.loc [5]) 0 (e::es).length) [] [(.loc [5],.arr (9,false) 1 false ((flat (e::es)).map .t))])) none
 |_,_=>none
theorem x4 (m:Int):kN (cf m) 49 vk:=λargs bu r h=>by
 unfold vk at h;split at h
 ·cases h;exact afu aF
 ·split at h
  ·rename_i hc;cases h;exact afv aF _ (by simp) hc.1 hc.2
  ·cases h
 ·cases h
theorem Kr {ev:bt}(h:Has ev 49 vk){es:List Tree}(hne:es≠ [])(hu:eP false 1 es)(hl:es.length<=4194304):ev 49 [.t (.sl es)] []=some (.ret (.ref (.loc [5]) 0 es.length) [] [(.loc [5],.arr (9,false) 1 false ((flat es).map .t))]):=by
 cases es with
 |nil=>exact absurd rfl hne
 |cons e es=>exact h _ _ _ (by unfold vk;exact if_pos ⟨hu,hl⟩)
theorem abI {m:Int}{ev:bt}(aJ:aC (cf m) ev):ai (cf m) 50 [.t (.sl [])] [] (.ret (.t (.sl [])) [] []):=by
 refine qw 8 1 Tryz.func50 rfl (by decide) rfl rfl (by decide) ?_;refine AW.seq ?_;refine AW.region ?_;refine iM.go (f:=0) aJ (by first|exact iI rfl|exact aK rfl) ?_;refine iM.nil ?_;refine AW.seq ?_;refine AW.seq ?_;refine AW.region ?_;refine iM.go (f:=0) aJ (by first|exact nt rfl|exact aI rfl) ?_;refine iM.WZ rfl rfl Ko rfl (λb hb=> ?_);refine iM.nil ?_;refine AW.cond rfl (λh4=> ?_) (λh4=> ?_)
 ·refine AW.seq ?_;refine AW.region ?_;refine iM.go (f:=0) aJ (by first|exact iI rfl|exact aK rfl) ?_;refine iM.nil ?_;refine AW.ret ?_;exact .inl rfl
 ·refine AW.skip ?_;refine AW.seq ?_;refine AW.region ?_;refine iM.go (f:=0) aJ (E0 rfl Ko rfl ajw rfl rfl) ?_;refine iM.go (f:=0) aJ (by first|exact nt rfl|exact aI rfl) ?_;refine iM.go (f:=0) aJ (S4 ahx rfl rfl (.inl (.inl rfl)) (.inr (.inr ⟨_,rfl⟩))) ?_;refine iM.go (f:=0) aJ (by first|exact iI rfl|exact aK rfl) ?_;refine iM.nil ?_;refine AW.ret ?_;exact .inl rfl
theorem abJ {m:Int}{ev:bt}(aJ:aC (cf m) ev)(es:List Tree)(hne:es≠ [])(hu:eP true 7 es)(hl:es.length<=4194304):
 ai (cf m) 50 [.t (.sl es)] [] (.ret (.ref (.loc [5]) 0 es.length) [] [(.loc [5],.arr (32,true) 7 false ((flat es).map .t))]):=by
 refine qw 8 1 Tryz.func50 rfl (by decide) rfl rfl (by decide) ?_
 refine AW.seq ?_
 refine AW.region ?_
 refine iM.go (f:=0) aJ (by first|exact iI rfl|exact aK rfl) ?_
 refine iM.nil ?_
 refine AW.seq ?_
 refine AW.seq ?_
 refine AW.region ?_
 refine iM.go (f:=0) aJ (by first|exact nt rfl|exact aI rfl) ?_
 refine iM.WZ rfl rfl Ko rfl (λb hb=> ?_)
 have hb:=hb hne
 subst hb
 refine iM.nil ?_
 refine AW.cond rfl (λh=>absurd h (by decide)) (λh=> ?_)
 refine AW.skip ?_
 refine AW.seq ?_
 refine AW.region ?_
 refine iM.go (f:=0) aJ (E0 rfl Ko rfl ajw rfl rfl) ?_
 refine iM.go (f:=0) aJ (by first|exact nt rfl|exact aI rfl) ?_
 refine iM.go (f:=0) aJ (S3 ahx rfl rfl (.inl rfl) hu hne (by show es.length*96<=70368744177664;omega)) ?_
 refine iM.go (f:=0) aJ (by first|exact iI rfl|exact aK rfl) ?_
 refine iM.nil ?_
 refine AW.ret ?_
 exact .inr (Nw rfl rfl rfl)
def nh:List TV->List aO->Option br:=λas' os=>match as',os with
 | [.t (.sl [])],[]=>some (.ret (.t (.sl [])) [] [])
 | [.t (.sl (e::es))],[]=> @ite _ (eP true 7 (e::es)/\(e::es).length<=4194304) (Classical.propDecidable _) (some (.ret (.ref (.loc [5]) 0 (e::es).length) [] [(.loc [5],.arr (32,true) 7 false ((flat (e::es)).map .t))])) none
 |_,_=>none
theorem oc (m:Int):kN (cf m) 50 nh:=λargs bu r h=>by
 unfold nh at h;split at h
 ·cases h;exact abI aF
 ·split at h
  ·rename_i hc;cases h;exact abJ aF _ (by simp) hc.1 hc.2
  ·cases h
 ·cases h
theorem zQ {ev:bt}(h:Has ev 50 nh){es:List Tree}(hne:es≠ [])(hu:eP true 7 es)(hl:es.length<=4194304):ev 50 [.t (.sl es)] []=some (.ret (.ref (.loc [5]) 0 es.length) [] [(.loc [5],.arr (32,true) 7 false ((flat es).map .t))]):=by
 cases es with
 |nil=>exact absurd rfl hne
 |cons e es=>exact h _ _ _ (by unfold nh;exact if_pos ⟨hu,hl⟩)
theorem afw (m:Int)(k:Int)(b:Bool)(n:Int)(s t:List UInt8)(hO:∀x,x∈([]:List Tree)->R1 (cf m) 26 x x):R1 (cf m) 26 (aA k b n s t [] []) (aA k b n s t [] []):=by
 obtain⟨ev,aJ,uo,kH⟩:∃ev,aC (cf m) ev/\Has ev 49 vk/\Has ev 50 nh:=⟨_,(aq (x4 m) (aq (oc m) aF)),au,(av rfl au)⟩;refine ai.gO ?_;refine AX.start 30 1 Tryz.func26 rfl (by decide) rfl rfl (by decide) ?_;refine AX.frames ?_;exact⟨(),qQ ah 0 [3] [vR 49 [.t (.sl [])] (.sl []) (uo _ _ _ rfl),vR 50 [.t (.sl [])] (.sl []) (kH _ _ _ rfl),oF]⟩
theorem afx (m:Int)(k:Int)(b:Bool)(n:Int)(s t:List UInt8)(ls:List Tree)(abK:ls≠ [])(ll:ls.length<=4194304)(hl:∀y∈ls,T .az y)(hO:∀x,x∈ls->R1 (cf m) 26 x x):R1 (cf m) 26 (aA k b n s t [] ls) (aA k b n s t [] ls):=by
 obtain⟨ev,aJ,uo,kH,GG⟩:∃ev,aC (cf m) ev/\Has ev 49 vk/\Has ev 50 nh/\Has ev 26 (mL (λx=>x∈ls) (λx=>x)):=⟨_,(aq (x4 m) (aq (oc m) (aq (bR hO) aF))),au,(av rfl au),(av rfl (av rfl au))⟩;refine ai.gO ?_;refine AX.start 30 1 Tryz.func26 rfl (by decide) rfl rfl (by decide) ?_;refine AX.frames ?_;refine kAt (f:=0) (n:=3000) (once:=[]) (k:=30) (T:=2) (S:=[.loc [0],.loc [1]]) (ks:=[.loc [0],.loc [1]]) (live:=[1,2]) ah aJ (Tryz.f26.body.getD .skip) 1 rfl (⟨eC 30 [(1,.ptr (.loc [0]) 0),(2,.ptr (.loc [1]) 0)],[(.loc [0],.cells 32 (cM k b n s t [] ls)),(.loc [1],.cells 32 [.t (.int .u8 0),.t (.bool false),.t (.int .i64 0),.t (.str []),.t (.str []),.bX,.bX])],2⟩) [] (by kernel_rfl) ?_;refine AX.draw (f:=0) ah aJ ?_;refine aV.go rfl (eD rfl Fo rfl) ?_;refine aV.go rfl (mM rfl (ld p5 rfl rfl)) ?_;refine aV.go rfl (iB (Lg rfl) (uo _ _ _ rfl)) ?_;refine aV.go rfl (eD rfl Fp rfl) ?_;refine aV.go rfl (mM rfl (ld Ko rfl rfl)) ?_;refine aV.go rfl (CQ (Lg rfl) (zQ kH abK (aG hl) (by assumption)) rfl zb) ?_;refine aV.go rfl (eD rfl Fo rfl) ?_;refine aV.Si rfl (pg rfl rfl (Zd p5 rfl rfl)) ?_;refine aV.go rfl (eD rfl Fp rfl) ?_;refine aV.Si rfl (pg rfl rfl (Zd Ko rfl rfl)) ?_;refine aV.nil (gN rfl rfl ?_);refine kl (α:=Nat) ah 0 [] 30 3 [.loc [0],.loc [1],.loc [7,5]] [.loc [0],.loc [1],.loc [7,5]] [1,2,14,15] (λx=>⟨eC 30 [(1,.ptr (.loc [0]) 0),(2,.ptr (.loc [1]) 0),(14,.t (.int .i64 ((ls.length:Nat):Int))),(15,.t (.int .i64 ((x:Nat):Int)))],[(.loc [0],.cells 32 [.t (.int .u8 k),.t (.bool b),.t (.int .i64 n),.t (.str s),.t (.str t),.t (.sl []),.ref (.loc [2]) 0 ls.length]),(.loc [1],.cells 32 [.t (.int .u8 0),.t (.bool false),.t (.int .i64 0),.t (.str []),.t (.str []),.bX,.bX]),(.loc [2],.arr (32,true) 7 false ((flat ls).map .t))],3⟩) (λx=>(x<=ls.length)) (λx=>ls.length - x) 0 (j4 (Tryz.f26.body.getD .skip) 3) [dc 32 7 ls] (by show(0<=ls.length);first|trivial|omega|(refine⟨?_, ?_⟩<;>first|omega|exact SM.nil)|simp) (λx hok=> ?_);obtain⟨i_1,zq⟩:∃y,y=x:=⟨x,rfl⟩;subst zq;replace hok:(i_1<=ls.length):=hok;have cO:=hok;rcases aL (decide (((i_1:Nat):Int)<((ls.length:Nat):Int))) with cq|cq
 ·have jN:=of_decide_eq_true cq;obtain⟨e3,lQ⟩:=dw ls i_1;have mD:=(hl e3 (fU lQ));obtain⟨nL,BN,yj,yl,BO,ko,mO,rfl,qF,rQ,BP,zx,BQ,BR⟩:=T.aB mD;exact⟨.inl ⟨i_1+1,⟨(by show(i_1+1)<=ls.length;omega),(by show(ls.length - (i_1+1))<(ls.length - i_1);omega)⟩⟩,kr ah 30 3 [.loc [0],.loc [1],.loc [2]] [1,2,14,15] [oB cq,oW true 7 ls (aG hl),oH lQ,oQ ls,oO (kA (m:=7) (i:=i_1) (j:=0) (eP.lens (aG hl)) lQ (by decide)),oC (bS GG (x:=(aA nL BN yj yl BO ko mO)) (fU lQ)),oW true 7 ls (aG hl),oH lQ,oQ ls,oR _ _ (zl (j:=0) (m:=7) (eP.lens (aG hl)) lQ (by decide)),oK (HG (j:=0) (m:=7) (eP.lens (aG hl)) lQ (by decide)),oI (i_1) (by omega),dc 32 7 ls]⟩
 ·have jN:=of_decide_eq_false cq;refine kx ah [oB cq] ?_;exact⟨(),kf ah [oW true 7 ls (aG hl)]⟩
theorem afy (m:Int)(k:Int)(b:Bool)(n:Int)(s t:List UInt8)(ns:List Tree)(ajA:ns≠ [])(ln:ns.length<=4194304)(hn:∀y∈ns,T .string y)(hO:∀x,x∈([]:List Tree)->R1 (cf m) 26 x x):R1 (cf m) 26 (aA k b n s t ns []) (aA k b n s t ns []):=by
 obtain⟨ev,aJ,uo,kH⟩:∃ev,aC (cf m) ev/\Has ev 49 vk/\Has ev 50 nh:=⟨_,(aq (x4 m) (aq (oc m) aF)),au,(av rfl au)⟩;refine ai.gO ?_;refine AX.start 30 1 Tryz.func26 rfl (by decide) rfl rfl (by decide) ?_;refine AX.frames ?_;refine kAt (f:=0) (n:=3000) (once:=[]) (k:=30) (T:=2) (S:=[.loc [0],.loc [1]]) (ks:=[.loc [0],.loc [1]]) (live:=[1,2]) ah aJ (Tryz.f26.body.getD .skip) 1 rfl (⟨eC 30 [(1,.ptr (.loc [0]) 0),(2,.ptr (.loc [1]) 0)],[(.loc [0],.cells 32 (cM k b n s t ns [])),(.loc [1],.cells 32 [.t (.int .u8 0),.t (.bool false),.t (.int .i64 0),.t (.str []),.t (.str []),.bX,.bX])],2⟩) [] (by kernel_rfl) ?_;refine AX.draw (f:=0) ah aJ ?_;refine aV.go rfl (eD rfl Fo rfl) ?_;refine aV.go rfl (mM rfl (ld p5 rfl rfl)) ?_;refine aV.go rfl (CQ (Lg rfl) (Kr uo ajA (j7 hn) (by assumption)) rfl zb) ?_;refine aV.go rfl (eD rfl Fp rfl) ?_;refine aV.go rfl (mM rfl (ld Ko rfl rfl)) ?_;refine aV.go rfl (iB (Lg rfl) (kH _ _ _ rfl)) ?_;refine aV.go rfl (eD rfl Fo rfl) ?_;refine aV.Si rfl (pg rfl rfl (Zd p5 rfl rfl)) ?_;refine aV.go rfl (eD rfl Fp rfl) ?_;refine aV.Si rfl (pg rfl rfl (Zd Ko rfl rfl)) ?_;refine aV.nil (gN rfl rfl ?_);exact⟨(),qQ ah 0 [3] [oF,oW false 1 ns (j7 hn)]⟩
theorem afz (m:Int)(k:Int)(b:Bool)(n:Int)(s t:List UInt8)(ns:List Tree)(ajA:ns≠ [])(ln:ns.length<=4194304)(hn:∀y∈ns,T .string y)(ls:List Tree)(abK:ls≠ [])(ll:ls.length<=4194304)(hl:∀y∈ls,T .az y)(hO:∀x,x∈ls->R1 (cf m) 26 x x):R1 (cf m) 26 (aA k b n s t ns ls) (aA k b n s t ns ls):=by
 obtain⟨ev,aJ,uo,kH,GG⟩:∃ev,aC (cf m) ev/\Has ev 49 vk/\Has ev 50 nh/\Has ev 26 (mL (λx=>x∈ls) (λx=>x)):=⟨_,(aq (x4 m) (aq (oc m) (aq (bR hO) aF))),au,(av rfl au),(av rfl (av rfl au))⟩;refine ai.gO ?_;refine AX.start 30 1 Tryz.func26 rfl (by decide) rfl rfl (by decide) ?_;refine AX.frames ?_;refine kAt (f:=0) (n:=3000) (once:=[]) (k:=30) (T:=2) (S:=[.loc [0],.loc [1]]) (ks:=[.loc [0],.loc [1]]) (live:=[1,2]) ah aJ (Tryz.f26.body.getD .skip) 1 rfl (⟨eC 30 [(1,.ptr (.loc [0]) 0),(2,.ptr (.loc [1]) 0)],[(.loc [0],.cells 32 (cM k b n s t ns ls)),(.loc [1],.cells 32 [.t (.int .u8 0),.t (.bool false),.t (.int .i64 0),.t (.str []),.t (.str []),.bX,.bX])],2⟩) [] (by kernel_rfl) ?_;refine AX.draw (f:=0) ah aJ ?_;refine aV.go rfl (eD rfl Fo rfl) ?_;refine aV.go rfl (mM rfl (ld p5 rfl rfl)) ?_;refine aV.go rfl (CQ (Lg rfl) (Kr uo ajA (j7 hn) (by assumption)) rfl zb) ?_;refine aV.go rfl (eD rfl Fp rfl) ?_;refine aV.go rfl (mM rfl (ld Ko rfl rfl)) ?_;refine aV.go rfl (CQ (Lg rfl) (zQ kH abK (aG hl) (by assumption)) rfl zb) ?_;refine aV.go rfl (eD rfl Fo rfl) ?_;refine aV.Si rfl (pg rfl rfl (Zd p5 rfl rfl)) ?_;refine aV.go rfl (eD rfl Fp rfl) ?_;refine aV.Si rfl (pg rfl rfl (Zd Ko rfl rfl)) ?_;refine aV.nil (gN rfl rfl ?_);refine kl (α:=Nat) ah 0 [] 30 4 [.loc [0],.loc [1],.loc [4,5],.loc [7,5]] [.loc [0],.loc [1],.loc [4,5],.loc [7,5]] [1,2,14,15] (λx=>⟨eC 30 [(1,.ptr (.loc [0]) 0),(2,.ptr (.loc [1]) 0),(14,.t (.int .i64 ((ls.length:Nat):Int))),(15,.t (.int .i64 ((x:Nat):Int)))],[(.loc [0],.cells 32 [.t (.int .u8 k),.t (.bool b),.t (.int .i64 n),.t (.str s),.t (.str t),.ref (.loc [2]) 0 ns.length,.ref (.loc [3]) 0 ls.length]),(.loc [1],.cells 32 [.t (.int .u8 0),.t (.bool false),.t (.int .i64 0),.t (.str []),.t (.str []),.bX,.bX]),(.loc [2],.arr (9,false) 1 false ((flat ns).map .t)),(.loc [3],.arr (32,true) 7 false ((flat ls).map .t))],4⟩) (λx=>(x<=ls.length)) (λx=>ls.length - x) 0 (j4 (Tryz.f26.body.getD .skip) 3) [oN (o:=.arr (9,false) 1 false ((flat ns).map .t)) (λ_=>kW),dc 32 7 ls] (by show(0<=ls.length);first|trivial|omega|(refine⟨?_, ?_⟩<;>first|omega|exact SM.nil)|simp) (λx hok=> ?_);obtain⟨i_1,zq⟩:∃y,y=x:=⟨x,rfl⟩;subst zq;replace hok:(i_1<=ls.length):=hok;have cO:=hok;rcases aL (decide (((i_1:Nat):Int)<((ls.length:Nat):Int))) with cq|cq
 ·have jN:=of_decide_eq_true cq;obtain⟨e3,lQ⟩:=dw ls i_1;have mD:=(hl e3 (fU lQ));obtain⟨nL,BN,yj,yl,BO,ko,mO,rfl,qF,rQ,BP,zx,BQ,BR⟩:=T.aB mD;exact⟨.inl ⟨i_1+1,⟨(by show(i_1+1)<=ls.length;omega),(by show(ls.length - (i_1+1))<(ls.length - i_1);omega)⟩⟩,kr ah 30 4 [.loc [0],.loc [1],.loc [2],.loc [3]] [1,2,14,15] [oB cq,oW true 7 ls (aG hl),oH lQ,oQ ls,oO (kA (m:=7) (i:=i_1) (j:=0) (eP.lens (aG hl)) lQ (by decide)),oC (bS GG (x:=(aA nL BN yj yl BO ko mO)) (fU lQ)),oW true 7 ls (aG hl),oH lQ,oQ ls,oR _ _ (zl (j:=0) (m:=7) (eP.lens (aG hl)) lQ (by decide)),oK (HG (j:=0) (m:=7) (eP.lens (aG hl)) lQ (by decide)),oI (i_1) (by omega),oN (o:=.arr (9,false) 1 false ((flat ns).map .t)) (λ_=>kW),dc 32 7 ls]⟩
 ·have jN:=of_decide_eq_false cq;refine kx ah [oB cq] ?_;exact⟨(),kf ah [oW false 1 ns (j7 hn),oW true 7 ls (aG hl)]⟩
theorem VN (m:Int):∀x,T .az x->R1 (cf m) 26 x x:=by
 have key:∀(k:K) (x:Tree),T k x->k=.az->R1 (cf m) 26 x x:=by
  intro k x h;induction h with
  |az k1 b1 n1 s1 t1 N1 L1 hs ht h0 h1 h2 h3 _ ih=>
   intro _
   have hO:∀x,x∈L1->R1 (cf m) 26 x x:=λx hx=>ih x hx rfl
   rcases N1 with _|⟨a,N⟩<;>rcases L1 with _|⟨c,L⟩
   · exact afw m k1 b1 n1 s1 t1 hO
   · exact afx m k1 b1 n1 s1 t1 _ (by simp) h2 h3 hO
   · exact afy m k1 b1 n1 s1 t1 _ (by simp) h0 h1 hO
   · exact afz m k1 b1 n1 s1 t1 _ (by simp) h0 h1 _ (by simp) h2 h3 hO
  |_=>exactλe=>(by cases e)
 exactλx h=>key _ x h rfl
theorem afA {m:Int}{ev:bt}(aJ:aC (cf m) ev):ai (cf m) 49 [.t (.sl [])] [] (.ret (.t (.sl [])) [] []):=by
 refine qw 8 1 Tryz.func49 rfl (by decide) rfl rfl (by decide) ?_;refine AW.seq ?_;refine AW.region ?_;refine iM.go (f:=0) aJ (by first|exact iI rfl|exact aK rfl) ?_;refine iM.nil ?_;refine AW.seq ?_;refine AW.seq ?_;refine AW.region ?_;refine iM.go (f:=0) aJ (by first|exact nt rfl|exact aI rfl) ?_;refine iM.WZ rfl rfl p5 rfl (λb hb=> ?_);refine iM.nil ?_;refine AW.cond rfl (λh4=> ?_) (λh4=> ?_)
 ·refine AW.seq ?_;refine AW.region ?_;refine iM.go (f:=0) aJ (by first|exact iI rfl|exact aK rfl) ?_;refine iM.nil ?_;refine AW.ret ?_;exact .inl rfl
 ·refine AW.skip ?_;refine AW.seq ?_;refine AW.region ?_;refine iM.go (f:=0) aJ (E0 rfl p5 rfl qP rfl rfl) ?_;refine iM.go (f:=0) aJ (by first|exact nt rfl|exact aI rfl) ?_;refine iM.go (f:=0) aJ (S4 U5 rfl rfl (.inl (.inl rfl)) (.inr (.inr ⟨_,rfl⟩))) ?_;refine iM.go (f:=0) aJ (by first|exact iI rfl|exact aK rfl) ?_;refine iM.nil ?_;refine AW.ret ?_;exact .inl rfl
theorem afB {m:Int}{ev:bt}(aJ:aC (cf m) ev)(es:List Tree)(hne:es≠ [])(hu:eP false 1 es)(hl:es.length<=4194304):
 ai (cf m) 49 [.t (.sl es)] [] (.ret (.t (.sl es)) [] []):=by
 refine qw 8 1 Tryz.func49 rfl (by decide) rfl rfl (by decide) ?_
 refine AW.seq ?_
 refine AW.region ?_
 refine iM.go (f:=0) aJ (by first|exact iI rfl|exact aK rfl) ?_
 refine iM.nil ?_
 refine AW.seq ?_
 refine AW.seq ?_
 refine AW.region ?_
 refine iM.go (f:=0) aJ (by first|exact nt rfl|exact aI rfl) ?_
 refine iM.WZ rfl rfl p5 rfl (λb hb=> ?_)
 have hb:=hb hne
 subst hb
 refine iM.nil ?_
 refine AW.cond rfl (λh=>absurd h (by decide)) (λh=> ?_)
 refine AW.skip ?_
 refine AW.seq ?_
 refine AW.region ?_
 refine iM.go (f:=0) aJ (E0 rfl p5 rfl qP rfl rfl) ?_
 refine iM.go (f:=0) aJ (by first|exact nt rfl|exact aI rfl) ?_
 refine iM.go (f:=0) aJ (S3 U5 rfl rfl (.inl rfl) hu hne (by show es.length*16<=70368744177664;omega)) ?_
 refine iM.go (f:=0) aJ (by first|exact iI rfl|exact aK rfl) ?_
 refine iM.nil ?_
 refine AW.ret ?_
 exact .inl (Zj rfl (PX rfl hu (by decide) rfl rfl))
theorem ajB (m:Int):∀x,T .cB x->R1 (cf m) 49 x x:=λx hx=>by
 obtain⟨l,rfl,hl,h2⟩:=T.mA hx;by_cases h:l=[]
 ·subst h;exact afA aF
 ·exact afB aF l h (j7 h2) hl
theorem abL (m:Int)(hO:∀x,x∈([]:List Tree)->R1 (cf m) 189 (.sl (lsV x)) (.sl (lsV x))):R1 (cf m) 189 (.sl []) (.sl []):=by
 obtain⟨ev,aJ,kH⟩:∃ev,aC (cf m) ev/\Has ev 50 nh:=⟨_,(aq (oc m) aF),au⟩;refine ai.gO ?_;refine AX.start 33 1 Tryz.func189 rfl (by decide) rfl rfl (by decide) ?_;refine AX.frames ?_;exact⟨(),qQ ah 64 [3] [vR 50 [.t (.sl [])] (.sl []) (kH _ _ _ rfl),oF]⟩
theorem abM (m:Int)(ls:List Tree)(abK:ls≠ [])(ll:ls.length<=4194304)(hl:∀y∈ls,T .az y)(hO:∀x,x∈ls->R1 (cf m) 189 (.sl (lsV x)) (.sl (lsV x))):R1 (cf m) 189 (.sl ls) (.sl ls):=by
 obtain⟨ev,aJ,kH,anf,GG⟩:∃ev,aC (cf m) ev/\Has ev 50 nh/\Has ev 49 (mL (T .cB) (λx=>x))/\Has ev 189 (mL (λx=>∃y,y∈ls/\x=.sl (lsV y)) (λx=>x)):=⟨_,(aq (oc m) (aq (bR (ajB m)) (aq (bR (λx h=>by obtain⟨y,hy,rfl⟩:=h;exact hO y hy)) aF))),au,(av rfl au),(av rfl (av rfl au))⟩;refine ai.gO ?_;refine AX.start 33 1 Tryz.func189 rfl (by decide) rfl rfl (by decide) ?_;refine AX.frames ?_;refine kAt (f:=64) (n:=3000) (once:=[]) (k:=33) (T:=0) (S:=[]) (ks:=[]) (live:=[0,2]) ah aJ (Tryz.f189.body.getD .skip) 1 rfl (⟨eC 33 [(0,.t (.sl ls)),(2,.bX)],[],0⟩) [] (by kernel_rfl) ?_;refine AX.region ?_;refine aN.go (f:=0) aJ (aI rfl) ?_;refine aN.go (f:=0) aJ (CQ (Lg rfl) (zQ kH abK (aG hl) (by assumption)) rfl zb) ?_;refine aN.go (f:=0) aJ (aK rfl) ?_;refine aN.nil ?_;refine kl (α:=Nat) ah 64 [] 33 1 [.loc [1,5]] [.loc [1,5]] [0,7,8] (λx=>⟨eC 33 [(0,.ref (.loc [0]) 0 ls.length),(7,.t (.int .i64 ((ls.length:Nat):Int))),(8,.t (.int .i64 ((x:Nat):Int)))],[(.loc [0],.arr (32,true) 7 false ((flat ls).map .t))],1⟩) (λx=>(x<=ls.length)) (λx=>ls.length - x) 0 (j4 (Tryz.f189.body.getD .skip) 3) [dc 32 7 ls] (by show(0<=ls.length);first|trivial|omega|(refine⟨?_, ?_⟩<;>first|omega|exact SM.nil)|simp) (λx hok=> ?_);obtain⟨i_1,zq⟩:∃y,y=x:=⟨x,rfl⟩;subst zq;replace hok:(i_1<=ls.length):=hok;have cO:=hok;rcases aL (decide (((i_1:Nat):Int)<((ls.length:Nat):Int))) with cq|cq
 ·have jN:=of_decide_eq_true cq;obtain⟨e3,lQ⟩:=dw ls i_1;have mD:=(hl e3 (fU lQ));obtain⟨nL,BN,yj,yl,BO,ko,mO,rfl,qF,rQ,BP,zx,BQ,BR⟩:=T.aB mD;exact⟨.inl ⟨i_1+1,⟨(by show(i_1+1)<=ls.length;omega),(by show(ls.length - (i_1+1))<(ls.length - i_1);omega)⟩⟩,vH ah 64 [] 33 1 [.loc [0]] [.loc [0]] [0,7,8] [oB cq,oW true 7 ls (aG hl),oH lQ,oQ ls,oQ ls,oO (nT (i:=i_1) (j:=5) (eP.lens (aG hl)) lQ rfl),oC (bS anf (x:=.sl ko) (.cB _ cm zx)),oW true 7 ls (aG hl),oH lQ,oQ ls,oQ ls,oO (nT (i:=i_1) (j:=6) (eP.lens (aG hl)) lQ rfl),oC (bS GG (x:=.sl mO) ⟨_,fU lQ,rfl⟩),oW true 7 ls (aG hl),oH lQ,oQ ls,oQ ls,oR _ _ (zl (j:=5) (m:=1) (eP.lens (aG hl)) lQ (by decide)),oK (HG (j:=5) (m:=1) (eP.lens (aG hl)) lQ (by decide)),oW true 7 ls (aG hl),oH lQ,oQ ls,oQ ls,oR _ _ (zl (j:=6) (m:=1) (eP.lens (aG hl)) lQ (by decide)),oK (HG (j:=6) (m:=1) (eP.lens (aG hl)) lQ (by decide)),oI (i_1) (by omega),dc 32 7 ls]⟩
 ·have jN:=of_decide_eq_false cq;refine E8 ah 64 [] [oB cq] ?_;exact⟨(),qQ ah 64 [] [oW true 7 ls (aG hl)]⟩
theorem afC (m:Int):∀l:List Tree,l.length<=4194304->(∀y∈l,T .az y)->R1 (cf m) 189 (.sl l) (.sl l):=by
 have key:∀(k:K) (x:Tree),T k x->k=.az->R1 (cf m) 189 (.sl (lsV x)) (.sl (lsV x)):=by
  intro k x h;induction h with
  |az k1 b1 n1 s1 t1 N1 L1 hs ht h0 h1 h2 h3 _ ih=>
   intro _
   show R1 (cf m) 189 (.sl L1) (.sl L1)
   have hO:∀x,x∈L1->R1 (cf m) 189 (.sl (lsV x)) (.sl (lsV x)):=λx hx=>ih x hx rfl
   rcases L1 with _|⟨c,L⟩
   · exact abL m hO
   · exact abM m _ (by simp) h2 h3 hO
  |_=>exactλe=>(by cases e)
 intro l hl h;rcases l with _|⟨c,L⟩
 ·exact abL m (λx hx=>by cases hx)
 ·exact abM m _ (by simp) hl h (λx hx=>key _ x (h x hx) rfl)
theorem Rw (m:Int):∃F:Tree->Tree->Int,∀x y,(T .cB x/\T .string y)->R2 (cf m) 101 x y (.int .i64 (F x y))/\(True):=by
 refine tD (P:=λx y=>T .cB x/\T .string y) (mk:=λ(r:Int)=>.int .i64 r) (Post:=λx y r=>True) λx y hx=> ?_
 obtain⟨hx,hy⟩:=hx;show ∃r:{r:Int // True},ai (cf m) 101 [.t x,.t y] [] (.ret (.t (.int .i64 r.1)) [] []);have bw:=hx;obtain⟨v_1,rfl,cI,cH⟩:=T.mA bw;have dB:=hy;obtain⟨v_2,rfl,gx⟩:=T.bF dB;obtain⟨ev,aJ⟩:∃ev,aC (cf m) ev:=⟨_,aF⟩;refine AX.start 19 2 Tryz.func101 rfl (by decide) rfl rfl (by decide) ?_;refine AX.frames ?_;refine kl (α:=Nat) ah 0 [] 19 0 [] [] [0,1,7,8] (λx=>⟨eC 19 [(0,.t (.sl v_1)),(1,.t (.str v_2)),(7,.t (.int .i64 ((v_1.length:Nat):Int))),(8,.t (.int .i64 ((x:Nat):Int)))],[],0⟩) (λx=>(x<=v_1.length)) (λx=>v_1.length - x) 0 (j4 (Tryz.f101.body.getD .skip) 2) [] (by show(0<=v_1.length);first|trivial|omega|(refine⟨?_, ?_⟩<;>first|omega|exact SM.nil)|simp) (λx hok=> ?_);obtain⟨wJ,zq⟩:∃y,y=x:=⟨x,rfl⟩;subst zq;replace hok:(wJ<=v_1.length):=hok;have gq:=hok;rcases aL (decide (((wJ:Nat):Int)<((v_1.length:Nat):Int))) with gP|gP
 ·have tI:=of_decide_eq_true gP;obtain⟨e5,ku⟩:=dw v_1 wJ;have k9:=(cH e5 (fU ku));obtain⟨v_6,rfl,pJ⟩:=T.bF k9;rcases aL ((v_2==v_6)) with gh|gh
  ·have mN:=eq_of_beq gh;refine kx ah [oB gP,oE ku,oB gh] ?_;refine⟨⟨((wJ:Nat):Int), ?_⟩,kf ah []⟩;trivial
  ·have mN:=ne_of_beq_false gh;exact⟨.inl ⟨wJ+1,⟨(by show(wJ+1)<=v_1.length;omega),(by show(v_1.length - (wJ+1))<(v_1.length - wJ);omega)⟩⟩,kr ah 19 0 [] [0,1,7,8] [oB gP,oE ku,oB gh,oI (wJ) (by omega)]⟩
 ·have tI:=of_decide_eq_false gP;refine kx ah [oB gP] ?_;refine⟨⟨-1, ?_⟩,kf ah []⟩;trivial
theorem afD (m:Int)(v:Tree)(n:Tree)(h0:T .az v)(h1:T .string n):∃r:{r:Tree×Int // T .az r.1},ai (cf m) 149 [.t v,.t n] [] (.ret (.t (.cF [(r.1).1,.int .i64 (r.1).2])) [] []):=by
 have bw:=h0;obtain⟨cQ,jW,n_1,s_1,dD,aT,dn,rfl,cI,cH,fK,dS,eW,eM⟩:=T.aB bw;have dB:=h1;obtain⟨v_2,rfl,gx⟩:=T.bF dB;obtain⟨Rx,abN⟩:=Rw m;obtain⟨ev,aJ,Mw,ajC⟩:∃ev,aC (cf m) ev/\Has ev 101 (rN (λx y=>T .cB x/\T .string y) (λx y=>.int .i64 (Rx x y)))/\Has ev 189 (mL (λx=>∃l:List Tree,x=.sl l/\l.length<=4194304/\∀y∈l,T .az y) (λx=>x)):=⟨_,(aq (dL (λx y h=>(abN x y h).1)) (aq (bR (λx h=>by obtain⟨l,rfl,h1,h2⟩:=h;exact afC m l h1 h2)) aF)),au,(av rfl au)⟩;refine AX.start 34 2 Tryz.func149 rfl (by decide) rfl rfl (by decide) ?_;refine AX.frames ?_;rcases aL ((cQ != 5)) with bL|bL
 ·have mC:=cG bL;refine⟨⟨((aA 0 false 0 [] [] [] []),7),(.az _ _ _ _ _ _ _ (by simp) (by simp) (by simp) (λ_ h=>by cases h) (by simp) (λ_ h=>by cases h))⟩,kf ah [oB bL]⟩
 ·have mC:=bE bL;rcases afE:Rx (.sl aT) (.str v_2) with Ks|Ks
  ·rcases aL (decide (((Ks:Nat):Int)<0)) with nJ|nJ
   ·have JK:=of_decide_eq_true nJ;refine⟨⟨((aA 0 false 0 [] [] [] []),8),(.az _ _ _ _ _ _ _ (by simp) (by simp) (by simp) (λ_ h=>by cases h) (by simp) (λ_ h=>by cases h))⟩,kf ah ([oB bL,vR 101 [.t (.sl aT),.t (.str v_2)] (.int .i64 ((Ks:Nat):Int)) ((eH Mw (x:=(.sl aT)) (y:=(.str v_2)) ⟨(.cB _ cm dS),dB⟩).trans (congrArg (λz=>some (br.ret (.t (.int .i64 z)) [] [])) afE))]++rq 6 (oB nJ) ([oT]))⟩
   ·have JK:=of_decide_eq_false nJ;rcases aL (decide (((Ks:Nat):Int)>=((dn.length:Nat):Int))) with lN|lN
    ·have zu:=of_decide_eq_true lN;refine⟨⟨((aA 0 false 0 [] [] [] []),8),(.az _ _ _ _ _ _ _ (by simp) (by simp) (by simp) (λ_ h=>by cases h) (by simp) (λ_ h=>by cases h))⟩,kf ah ([oB bL,vR 101 [.t (.sl aT),.t (.str v_2)] (.int .i64 ((Ks:Nat):Int)) ((eH Mw (x:=(.sl aT)) (y:=(.str v_2)) ⟨(.cB _ cm dS),dB⟩).trans (congrArg (λz=>some (br.ret (.t (.int .i64 z)) [] [])) afE))]++rq 6 (oB nJ) ([oB lN]))⟩
    ·have zu:=of_decide_eq_false lN;obtain⟨e7,he7⟩:=dw ((dn.take (Ks+1)).drop Ks) 0;have Ug:=((λy hy=>eM y (List.mem_of_mem_take (List.mem_of_mem_drop hy))) e7 (fU he7));obtain⟨r7,Hq,Lt,Yi,Hr,ny,r8,rfl,abO,abP,abQ,abR,abS,abT⟩:=T.aB Ug;refine⟨⟨((aA r7 Hq Lt Yi Hr ny r8),0),Ug⟩,kf ah ([oB bL,vR 101 [.t (.sl aT),.t (.str v_2)] (.int .i64 ((Ks:Nat):Int)) ((eH Mw (x:=(.sl aT)) (y:=(.str v_2)) ⟨(.cB _ cm dS),dB⟩).trans (congrArg (λz=>some (br.ret (.t (.int .i64 z)) [] [])) afE))]++rq 6 (oB nJ) ([oB lN,oI (Ks) (by omega),oP (Vb (aG eM)),oR Ks (Ks+1) cU,oR (Ks+1) dn.length cU,oC (bS ajC (x:=.sl ((dn.take (Ks+1)).drop Ks)) ⟨_,rfl,cm,(λy hy=>eM y (List.mem_of_mem_take (List.mem_of_mem_drop hy)))⟩),oE he7]))⟩
  ·refine⟨⟨((aA 0 false 0 [] [] [] []),8),(.az _ _ _ _ _ _ _ (by simp) (by simp) (by simp) (λ_ h=>by cases h) (by simp) (λ_ h=>by cases h))⟩,kf ah ([oB bL,vR 101 [.t (.sl aT),.t (.str v_2)] (.int .i64 (Int.negSucc Ks)) ((eH Mw (x:=(.sl aT)) (y:=(.str v_2)) ⟨(.cB _ cm dS),dB⟩).trans (congrArg (λz=>some (br.ret (.t (.int .i64 z)) [] [])) afE))]++rq 6 (oB (decide_eq_true (Int.negSucc_lt_zero Ks))) ([oT]))⟩
def B8 (x:Tree×Tree):List TV×List aO:=([.t x.1,.t x.2],[])
def B9 (x:Tree×Tree):Prop:=(T .az x.1)/\(T .string x.2)
def Uh (x:Tree×Tree)(r:Tree×Int):br:=(.ret (.t (.cF [(r).1,.int .i64 (r).2])) [] [])
theorem Ry:∀x y,B9 x->B9 y->B8 x=B8 y->x=y:=by
 rintro ⟨v1,n1⟩ ⟨v2,n2⟩ h1 h2 h;have e_v:v1=v2:=congrArg (pT0 0) h;have e_n:n1=n2:=congrArg (pT0 1) h;rw[e_v,e_n]
theorem abU (m:Int):∃F:(Tree×Tree)->Tree×Int,∀v n,B9 (v,n)->ai (cf m) 149 (B8 (v,n)).1 (B8 (v,n)).2 (Uh (v,n) (F (v,n)))/\(T .az (F (v,n)).1):=by
 obtain⟨F,hF⟩:=bK (α:=Tree×Tree) (P:=B9) (Q:=λx (r:Tree×Int)=>ai (cf m) 149 (B8 x).1 (B8 x).2 (Uh x r)/\(T .az r.1)) λx hx=>by
  obtain⟨v,n⟩:=x;obtain⟨h0,h1⟩:=hx;obtain⟨⟨r,hr⟩,h⟩:=afD m v n h0 h1;exact⟨r,h,hr⟩
 exact⟨F,λv n hx=>hF (v,n) hx⟩
end
end Go.Proofs.YtfdnciimclnncaaGreatDoor.w.e
