/- Who is above. -/
import Derived.Test.YtfdnciimclnncaaGreatDoorZ
set_option linter.unusedVariables false
set_option linter.unusedSimpArgs false
namespace Go.Proofs.YtfdnciimclnncaaGreatDoor.w.e
open Go Go.Abs
set_option maxRecDepth 100000
set_option maxHeartbeats 2000000
noncomputable section
theorem MG {U:List Tree}{f:_->List Tree×Nat×List (TV×TV×Nat)×Nat}{g:_->List Tree×Nat×List (TV×TV×Nat)×Nat}:∀x o r,iQ sY (sZ U) (λx=>DF x (g x)) x o=some r->iQ ye (ug U) (λx=>Kh x (f x)) x o=none:=Mx 3 2 (λ_=>rfl) (λ_=>rfl) (by decide)
theorem aqx (m:Int)(l sm U:List Tree)(hl:l.length<=4194304)(hl2:∀y∈l,T .bP y)(hs:sm.length<=4194304)(hs2:∀y∈sm,T .aI y)(hne:sm≠ [])(hU1:∀y∈sm,y∈U)(hU2:∀e∈l,∀y∈vV e,y∈U)(hU3:U.length<69000000):∃r:{r:List Tree //(∀y∈r,T .aI y)/\r.length<=U.length},ai (cf m) 48 [.t (.sl l),.t (.sl sm)] [] (.ret (.t (.sl r.1)) [] []):=by
 obtain⟨ew,B7⟩:=Rs m U;obtain⟨gU,DH⟩:=MD m U;obtain⟨yc,mU⟩:=zN m;obtain⟨B8,B9⟩:=Rq m;obtain⟨DI,Kr⟩:=Rx m;obtain⟨ev,aK,Ks,k7,yf,DJ⟩:∃ev,aD (cf m) ev/\Has ev 89 (Kg (iQ ye (ug U) (λx=>Kh x (ew x))) (iQ sY (sZ U) (λx=>DF x (gU x))))/\Has ev 90 (iQ ua (mT) (λx=>B3 x (yc x)))/\Has ev 91 (iQ zQ (vW) (λx=>rZ x (B8 x)))/\Has ev 92 (rM (λx y=>T .aQ x/\T .aI y) (λx y=>.bU [.int .i64 (DI x y).1,.bool (DI x y).2])):=⟨_,(aq (Dv (dD (λ⟨L,n,es,mc,row,l⟩ hx=>(B7 L n es mc row l hx).1)) (dD (λ⟨row,l⟩ hx=>(DH row l hx).1))) (aq (dD (λ⟨L,n⟩ hx=>(mU L n hx).1)) (aq (dD (λ⟨L,n,es,mc,row⟩ hx=>(B9 L n es mc row hx).1)) (aq (dA (λx y h=>(Kr x y h).1)) aF)))),au,(az rfl au),(az rfl (az rfl au)),(az rfl (az rfl (az rfl au)))⟩;refine AX.start 48 2 Tryz.func48 rfl (by decide) rfl rfl (by decide) ?_;refine AX.frames ?_;have wW:sZ U (l,sm):=⟨hne,List.length_pos_iff.2 hne,hs2,hU1,cc,hU3⟩;have hq1:=DH l sm wW;have mq2:=hq1.2;refine kl (α:=List Tree×Nat×List (TV×TV×Nat)×Nat×List Tree) ah 140737761116160 [] 48 3 [.loc [4],.loc [8,0],.loc [1]] [.loc [4],.loc [8,0],.loc [1]] [0,5,6] (λx=>(match x.2.2.2.2 with| []=>⟨eD 48 [(0,.t (.sl l)),(5,.ptr (.loc [0]) 0),(6,.bW)],[(.loc [0],.cells 120 [.ref (.loc [1]) 0 x.2.1,.map (.loc [2]),.t (.sl l)]),(.loc [1],.arr (28,true) 2 false ((flat x.1).map .t)),(.loc [2],.map x.2.2.1 x.2.2.2.1)],3⟩|_::_=>⟨eD 48 [(0,.t (.sl l)),(5,.ptr (.loc [0]) 0),(6,.ref (.loc [3]) 0 x.2.2.2.2.length)],[(.loc [0],.cells 120 [.ref (.loc [1]) 0 x.2.1,.map (.loc [2]),.t (.sl l)]),(.loc [1],.arr (28,true) 2 false ((flat x.1).map .t)),(.loc [2],.map x.2.2.1 x.2.2.2.1),(.loc [3],.arr (28,true) 2 false ((flat x.2.2.2.2).map .t))],4⟩)) (λx=>(x.2.1=x.1.length)/\(∀y∈x.1,T .aI y)/\(∀y∈x.1,y∈U)/\(∀y∈x.2.2.2.2,T .aI y)/\(x.2.2.2.2.length+(Mt x.2.2.1 U+x.1.length)<=U.length)/\(KM bB x.2.2.1/\KB x.2.2.1 x.2.2.2.1)) (λx=>2*Mt x.2.2.1 U+x.1.length) (⟨(gU (l,sm)).1,(gU (l,sm)).2.1,(gU (l,sm)).2.2.1,(gU (l,sm)).2.2.2,[]⟩) (j6 (Tryz.f48.body.getD .skip) 4) [iH bB [] 0 KM.nil,oC (fH (Dw Ks MG) MC (l,sm) wW rfl rfl),iH bB ((gU (l,sm)).2.2.1) ((gU (l,sm)).2.2.2) hq1.2.2.2.2.2.1,cZ 28 2 ((gU (l,sm)).1),cZ 28 2 ((gU (l,sm)).1),iH bB ((gU (l,sm)).2.2.1) ((gU (l,sm)).2.2.2) hq1.2.2.2.2.2.1] ⟨hq1.2.1,hq1.2.2.1,hq1.2.2.2.1,λy hy=>(by cases hy),(by have h7:=hq1.2.2.2.2.1;simp only[List.length_nil,Nat.zero_add];exact h7),hq1.2.2.2.2.2.1,hq1.2.2.2.2.2.2.1⟩ (λx hok=> ?_);obtain⟨gC,fZ,bR,cv,Kt⟩:=x;replace hok:(fZ=gC.length)/\(∀y∈gC,T .aI y)/\(∀y∈gC,y∈U)/\(∀y∈Kt,T .aI y)/\(Kt.length+(Mt bR U+gC.length)<=U.length)/\(KM bB bR/\KB bR cv):=hok;obtain⟨gq,fR,k8,nD,pZ,b9⟩:=hok;rcases Kt with _|⟨uo,uq⟩
 ·have nR:mT (gC,fZ):=⟨(by first|(dsimp only;omega)|omega),fR,gq⟩;have Li:=mU gC fZ nR;rcases aM (decide (((fZ:Nat):Int)>0)) with jm|jm
  ·have BW:=of_decide_eq_true jm;have ya:vW (gC,fZ,bR,cv,l):=⟨(by first|(dsimp only;omega)|omega),fR,gq,b9.1,b9.2,(by first|(dsimp only;omega)|omega)⟩;have LG:=B9 gC fZ bR cv l ya;obtain⟨r5,r6,jQ,Ku,amX,amY⟩:∃a b L2,(B8 (gC,fZ,bR,cv,l))=(.agg [.str a,.str b],L2)/\a.length<=4194304/\b.length<=4194304:=by
    obtain⟨a,b,e,ha,hb⟩:=T.cr (fR _ (LG.2.mem_iff.1 List.mem_cons_self));exact⟨a,b,_,Prod.ext e rfl,ha,hb⟩
   have Oz:=LG.2;rw[Ku] at Oz;have OA:jQ.length+1=gC.length:=Oz.length_eq;have AP:∀y∈jQ,T .aI y:=λy hy=>fR y (Oz.mem_iff.1 (List.mem_cons_of_mem _ hy))
   have abC:∀y∈jQ,y∈U:=λy hy=>k8 y (Oz.mem_iff.1 (List.mem_cons_of_mem _ hy))
   have abD:fZ - 1=jQ.length:=by have:=gq;omega
   obtain⟨k_8,b_8,abE,aji⟩:∃(k:Nat) (b:Bool),DI (.sl l) (.agg [.str r5,.str r6])=((k:Int),b)/\(b=true->k<l.length):=by
    obtain⟨k,e,h⟩:=(Kr (.sl l) (.agg [.str r5,.str r6]) ⟨(.aQ _ cc hl2),(.aI _ _ cc cc)⟩).2;exact⟨k,_,Prod.ext e rfl,h⟩
   rcases aM (b_8) with qi|qi
   ·have aff:=aji qi;obtain⟨e10,uR⟩:=dr l k_8;have zL:=(hl2 e10 (fW uR));obtain⟨Ry,XS,cG,LH,Ud,Ue,Uf,Ug,Kv,LI,rfl,Ib,Ic,OB,DK,OC,OD,afg,afh,afi,afj⟩:=T.dG zL;have GV:ug U (jQ,(fZ - 1),bR,cv,l,cG):=⟨(by first|(dsimp only;omega)|omega),AP,abD,b9.1,b9.2,DK,(λy hy=>hU2 _ (fW uR) y hy),abC,cc,hU3,(by dsimp only;omega)⟩;have qP:=B7 jQ (fZ - 1) bR cv l cG GV;have aqy:=qP.2;exact⟨.inl ⟨⟨(ew (jQ,(fZ - 1),bR,cv,l,cG)).1,(ew (jQ,(fZ - 1),bR,cv,l,cG)).2.1,(ew (jQ,(fZ - 1),bR,cv,l,cG)).2.2.1,(ew (jQ,(fZ - 1),bR,cv,l,cG)).2.2.2,([.agg [.str r5,.str r6]]:List Tree)⟩,⟨⟨qP.2.1,qP.2.2.1,qP.2.2.2.1,(λy hy=>by rw[List.mem_singleton.1 hy];exact .aI _ _ (by assumption) (by assumption)),(by have h7:=qP.2.2.2.2.2.1;have h5:=pZ;have h6:=OA;(try dsimp only at h5 ⊢);(try simp only[List.length_append,List.length_cons,List.length_nil] at h5 ⊢);omega),⟨qP.2.2.2.2.2.2.1,qP.2.2.2.2.2.2.2⟩⟩,(by have h7:=qP.2.2.2.2.2.1;have h8:=qP.2.2.2.2.1;have h6:=OA;(try dsimp only);omega)⟩⟩,vS ah 140737761116160 [] 48 4 [.loc [0],.loc [13,12,22],.loc [2],.loc [20]] [.loc [0],.loc [13,12,22],.loc [2],.loc [20]] [0,5,6] [cZ 28 2 gC,oC (fH k7 jF (gC,fZ) nR rfl rfl),cZ 28 2 gC,oB jm,cZ 28 2 gC,iH bB bR cv b9.1,oC (fH yf rF (gC,fZ,bR,cv,l) ya rfl (congrArg (rZ (gC,fZ,bR,cv,l)) Ku)),iH bB bR cv b9.1,cZ 28 2 jQ,oU true 2 ([.agg [.str r5,.str r6]]:List Tree) (eP.cons ⟨rfl,rfl,rfl⟩ eP.nil) (by simp),oA (([.agg [.str r5,.str r6]]:List Tree).length*32) cT,wg 92 [.t (.sl l),.t (.agg [.str r5,.str r6])] (.bU [.int .i64 ((k_8:Nat):Int),.bool b_8]) ((eL DJ ⟨(.aQ _ cc hl2),(.aI _ _ cc cc)⟩).trans (by rw[abE])),oB qi,oE uR,cZ 28 2 jQ,iH bB bR cv b9.1,oC (fH (vu Ks) DC (jQ,(fZ - 1),bR,cv,l,cG) GV rfl rfl),cZ 28 2 ((ew (jQ,(fZ - 1),bR,cv,l,cG)).1),iH bB ((ew (jQ,(fZ - 1),bR,cv,l,cG)).2.2.1) ((ew (jQ,(fZ - 1),bR,cv,l,cG)).2.2.2) qP.2.2.2.2.2.2.1,cZ 28 2 ((ew (jQ,(fZ - 1),bR,cv,l,cG)).1),iH bB ((ew (jQ,(fZ - 1),bR,cv,l,cG)).2.2.1) ((ew (jQ,(fZ - 1),bR,cv,l,cG)).2.2.2) qP.2.2.2.2.2.2.1,cZ 28 2 ([.agg [.str r5,.str r6]]:List Tree)]⟩
   ·exact⟨.inl ⟨⟨jQ,(fZ - 1),bR,cv,([.agg [.str r5,.str r6]]:List Tree)⟩,⟨⟨abD,AP,abC,(λy hy=>by rw[List.mem_singleton.1 hy];exact .aI _ _ (by assumption) (by assumption)),(by have h5:=pZ;have h6:=OA;(try dsimp only at h5 ⊢);(try simp only[List.length_append,List.length_cons,List.length_nil] at h5 ⊢);omega),⟨b9.1,b9.2⟩⟩,(by have h6:=OA;(try dsimp only);omega)⟩⟩,vS ah 140737761116160 [] 48 4 [.loc [0],.loc [13,12,22],.loc [2],.loc [20]] [.loc [0],.loc [13,12,22],.loc [2],.loc [20]] [0,5,6] [cZ 28 2 gC,oC (fH k7 jF (gC,fZ) nR rfl rfl),cZ 28 2 gC,oB jm,cZ 28 2 gC,iH bB bR cv b9.1,oC (fH yf rF (gC,fZ,bR,cv,l) ya rfl (congrArg (rZ (gC,fZ,bR,cv,l)) Ku)),iH bB bR cv b9.1,cZ 28 2 jQ,oU true 2 ([.agg [.str r5,.str r6]]:List Tree) (eP.cons ⟨rfl,rfl,rfl⟩ eP.nil) (by simp),oA (([.agg [.str r5,.str r6]]:List Tree).length*32) cT,wg 92 [.t (.sl l),.t (.agg [.str r5,.str r6])] (.bU [.int .i64 ((k_8:Nat):Int),.bool b_8]) ((eL DJ ⟨(.aQ _ cc hl2),(.aI _ _ cc cc)⟩).trans (by rw[abE])),oB qi,cZ 28 2 jQ,iH bB bR cv b9.1,cZ 28 2 ([.agg [.str r5,.str r6]]:List Tree)]⟩
  ·have BW:=of_decide_eq_false jm;refine Fi ah 140737761116160 [] [cZ 28 2 gC,oC (fH k7 jF (gC,fZ) nR rfl rfl),cZ 28 2 gC,oB jm] ?_;refine⟨⟨[],λy hy=>(by cases hy),Nat.zero_le _⟩,qH ah 140737761116160 [] []⟩
 ·have yC:mT (gC,fZ):=⟨(by first|(dsimp only;omega)|omega),fR,gq⟩;have amK:=mU gC fZ yC;rcases aM (decide (((fZ:Nat):Int)>0)) with eU|eU
  ·have Kw:=of_decide_eq_true eU;have Be:vW (gC,fZ,bR,cv,l):=⟨(by first|(dsimp only;omega)|omega),fR,gq,b9.1,b9.2,(by first|(dsimp only;omega)|omega)⟩;have Ou:=B9 gC fZ bR cv l Be;obtain⟨lB,lC,fO,Ky,ajj,ajk⟩:∃a b L2,(B8 (gC,fZ,bR,cv,l))=(.agg [.str a,.str b],L2)/\a.length<=4194304/\b.length<=4194304:=by
    obtain⟨a,b,e,ha,hb⟩:=T.cr (fR _ (Ou.2.mem_iff.1 List.mem_cons_self));exact⟨a,b,_,Prod.ext e rfl,ha,hb⟩
   have DL:=Ou.2;rw[Ky] at DL;have DM:fO.length+1=gC.length:=DL.length_eq;have DN:∀y∈fO,T .aI y:=λy hy=>fR y (DL.mem_iff.1 (List.mem_cons_of_mem _ hy))
   have Rz:∀y∈fO,y∈U:=λy hy=>k8 y (DL.mem_iff.1 (List.mem_cons_of_mem _ hy))
   have RA:fZ - 1=fO.length:=by have:=gq;omega
   obtain⟨Uh,Ui,RB,abF⟩:∃(k:Nat) (b:Bool),DI (.sl l) (.agg [.str lB,.str lC])=((k:Int),b)/\(b=true->k<l.length):=by
    obtain⟨k,e,h⟩:=(Kr (.sl l) (.agg [.str lB,.str lC]) ⟨(.aQ _ cc hl2),(.aI _ _ cc cc)⟩).2;exact⟨k,_,Prod.ext e rfl,h⟩
   rcases aM (Ui) with jw|jw
   ·have abG:=abF jw;obtain⟨e20,Uj⟩:=dr l Uh;have abH:=(hl2 e20 (fW Uj));obtain⟨RC,XT,cH,LJ,Uk,Ul,Um,Un,Kz,LK,rfl,afk,afl,afm,OE,afn,afo,afp,afq,afr,afs⟩:=T.dG abH;have RD:ug U (fO,(fZ - 1),bR,cv,l,cH):=⟨(by first|(dsimp only;omega)|omega),DN,RA,b9.1,b9.2,OE,(λy hy=>hU2 _ (fW Uj) y hy),Rz,cc,hU3,(by dsimp only;omega)⟩;have ur:=B7 fO (fZ - 1) bR cv l cH RD;have aqz:=ur.2;exact⟨.inl ⟨⟨(ew (fO,(fZ - 1),bR,cv,l,cH)).1,(ew (fO,(fZ - 1),bR,cv,l,cH)).2.1,(ew (fO,(fZ - 1),bR,cv,l,cH)).2.2.1,(ew (fO,(fZ - 1),bR,cv,l,cH)).2.2.2,(uo::uq)++([.agg [.str lB,.str lC]]:List Tree)⟩,⟨⟨ur.2.1,ur.2.2.1,ur.2.2.2.1,(λy hy=>(List.mem_append.1 hy).elim (nD y) (λh=>by rw[List.mem_singleton.1 h];exact .aI _ _ (by assumption) (by assumption))),(by have h7:=ur.2.2.2.2.2.1;have h5:=pZ;have h6:=DM;(try dsimp only at h5 ⊢);(try simp only[List.length_append,List.length_cons,List.length_nil] at h5 ⊢);omega),⟨ur.2.2.2.2.2.2.1,ur.2.2.2.2.2.2.2⟩⟩,(by have h7:=ur.2.2.2.2.2.1;have h8:=ur.2.2.2.2.1;have h6:=DM;(try dsimp only);omega)⟩⟩,vS ah 140737761116160 [] 48 4 [.loc [0],.loc [14,12,22],.loc [2],.loc [3]] [.loc [0],.loc [14,12,22],.loc [2],.loc [3]] [0,5,6] [cZ 28 2 gC,oC (fH k7 jF (gC,fZ) yC rfl rfl),cZ 28 2 gC,oB eU,cZ 28 2 gC,iH bB bR cv b9.1,oC (fH yf rF (gC,fZ,bR,cv,l) Be rfl (congrArg (rZ (gC,fZ,bR,cv,l)) Ky)),iH bB bR cv b9.1,cZ 28 2 fO,oU true 2 ([.agg [.str lB,.str lC]]:List Tree) (eP.cons ⟨rfl,rfl,rfl⟩ eP.nil) (by simp),oW true 2 (uo::uq) (bn nD),oA (((uo::uq).length+([.agg [.str lB,.str lC]]:List Tree).length) *32) cT,wg 92 [.t (.sl l),.t (.agg [.str lB,.str lC])] (.bU [.int .i64 ((Uh:Nat):Int),.bool Ui]) ((eL DJ ⟨(.aQ _ cc hl2),(.aI _ _ cc cc)⟩).trans (by rw[RB])),oB jw,oE Uj,cZ 28 2 fO,iH bB bR cv b9.1,oC (fH (vu Ks) DC (fO,(fZ - 1),bR,cv,l,cH) RD rfl rfl),cZ 28 2 ((ew (fO,(fZ - 1),bR,cv,l,cH)).1),iH bB ((ew (fO,(fZ - 1),bR,cv,l,cH)).2.2.1) ((ew (fO,(fZ - 1),bR,cv,l,cH)).2.2.2) ur.2.2.2.2.2.2.1,cZ 28 2 ((ew (fO,(fZ - 1),bR,cv,l,cH)).1),iH bB ((ew (fO,(fZ - 1),bR,cv,l,cH)).2.2.1) ((ew (fO,(fZ - 1),bR,cv,l,cH)).2.2.2) ur.2.2.2.2.2.2.1,cZ 28 2 ((uo::uq)++([.agg [.str lB,.str lC]]:List Tree))]⟩
   ·exact⟨.inl ⟨⟨fO,(fZ - 1),bR,cv,(uo::uq)++([.agg [.str lB,.str lC]]:List Tree)⟩,⟨⟨RA,DN,Rz,(λy hy=>(List.mem_append.1 hy).elim (nD y) (λh=>by rw[List.mem_singleton.1 h];exact .aI _ _ (by assumption) (by assumption))),(by have h5:=pZ;have h6:=DM;(try dsimp only at h5 ⊢);(try simp only[List.length_append,List.length_cons,List.length_nil] at h5 ⊢);omega),⟨b9.1,b9.2⟩⟩,(by have h6:=DM;(try dsimp only);omega)⟩⟩,vS ah 140737761116160 [] 48 4 [.loc [0],.loc [14,12,22],.loc [2],.loc [3]] [.loc [0],.loc [14,12,22],.loc [2],.loc [3]] [0,5,6] [cZ 28 2 gC,oC (fH k7 jF (gC,fZ) yC rfl rfl),cZ 28 2 gC,oB eU,cZ 28 2 gC,iH bB bR cv b9.1,oC (fH yf rF (gC,fZ,bR,cv,l) Be rfl (congrArg (rZ (gC,fZ,bR,cv,l)) Ky)),iH bB bR cv b9.1,cZ 28 2 fO,oU true 2 ([.agg [.str lB,.str lC]]:List Tree) (eP.cons ⟨rfl,rfl,rfl⟩ eP.nil) (by simp),oW true 2 (uo::uq) (bn nD),oA (((uo::uq).length+([.agg [.str lB,.str lC]]:List Tree).length) *32) cT,wg 92 [.t (.sl l),.t (.agg [.str lB,.str lC])] (.bU [.int .i64 ((Uh:Nat):Int),.bool Ui]) ((eL DJ ⟨(.aQ _ cc hl2),(.aI _ _ cc cc)⟩).trans (by rw[RB])),oB jw,cZ 28 2 fO,iH bB bR cv b9.1,cZ 28 2 ((uo::uq)++([.agg [.str lB,.str lC]]:List Tree))]⟩
  ·have Kw:=of_decide_eq_false eU;refine Fi ah 140737761116160 [] [cZ 28 2 gC,oC (fH k7 jF (gC,fZ) yC rfl rfl),cZ 28 2 gC,oB eU] ?_;refine⟨⟨(uo::uq),nD,(by have h5:=pZ;(try dsimp only at h5 ⊢);(try simp only[List.length_cons] at h5 ⊢);omega)⟩,qH ah 140737761116160 [] [oW true 2 (uo::uq) (bn nD)]⟩
theorem ajl (m:Int)(row:List Tree):ai (cf m) 89 [.ptr (.arg 0) 0,.t (.sl [])] [.cells 120 [.bW,.map (.arg 1),.t (.sl row)],.map [] 0] (.ret (.t (.bU [])) [.cells 120 [.bW,.map (.arg 1),.t (.sl row)],.map [] 0] []):=by
 obtain⟨ev,aK⟩:∃ev,aD (cf m) ev:=⟨_,aF⟩;refine ai.gO ?_;refine AX.start 36 2 Tryz.func89 rfl (by decide) rfl rfl (by decide) ?_;refine AX.frames ?_;exact⟨(),qH ah 0 [1] [oF,iH bB [] 0 KM.nil,iH bB [] 0 KM.nil]⟩
theorem ajm (m:Int):ai (cf m) 90 [.t (.sl [])] [] (.ret (.t (.int .i64 0)) [] []):=by
 obtain⟨ev,aK⟩:∃ev,aD (cf m) ev:=⟨_,aF⟩;refine ai.gO ?_;refine AX.start 5 1 Tryz.func90 rfl (by decide) rfl rfl (by decide) ?_;refine AX.frames ?_;exact⟨(),kf ah []⟩
theorem aqA (m:Int)(l:List Tree):ai (cf m) 48 [.t (.sl l),.t (.sl [])] [] (.ret (.t (.sl [])) [] []):=by
 obtain⟨ev,aK,aqB,aqC⟩:∃ev,aD (cf m) ev/\Has ev 89 (px [.ptr (.arg 0) 0,.t (.sl [])] [.cells 120 [.bW,.map (.arg 1),.t (.sl l)],.map [] 0] (.ret (.t (.bU [])) [.cells 120 [.bW,.map (.arg 1),.t (.sl l)],.map [] 0] []))/\Has ev 90 (px [.t (.sl [])] [] (.ret (.t (.int .i64 0)) [] [])):=⟨_,(aq (fT (ajl m l)) (aq (fT (ajm m)) aF)),au,(az rfl au)⟩;refine ai.gO ?_;refine AX.start 48 2 Tryz.func48 rfl (by decide) rfl rfl (by decide) ?_;refine AX.frames ?_;exact⟨(),qH ah 131072 [4] [iH bB [] 0 KM.nil,oC (jo aqB),iH bB [] 0 KM.nil,oC (jo aqC),oF]⟩
def DO (x:Tree):Prop:=(tZ x).length<=64/\∀e∈tZ x,(vV e).length<=16
theorem RE {l:List Tree}{n:Nat}(h:∀e∈l,(vV e).length<=n):(l.flatMap vV).length<=l.length*n:=by
 induction l with
 |nil=>simp
 |cons a r ih=>
  have h1:=h a List.mem_cons_self
  have h2:=ih λe he=>h e (List.mem_cons_of_mem _ he)
  rw[List.flatMap_cons,List.length_append,List.length_cons,Nat.succ_mul]
  omega
theorem aft (m:Int):∃F:Tree->Tree->List Tree,∀x y,((T .aQ x/\DO x)/\(T .fe y/\(tZ y).length<=16))->R2 (cf m) 48 x y (.sl (F x y))/\((∀u∈F x y,T .aI u)/\(F x y).length<=1040):=by
 refine tO (P:=λx y=>(T .aQ x/\DO x)/\(T .fe y/\(tZ y).length<=16)) (mk:=λ(r:List Tree)=>.sl r) (Post:=λx y r=>(∀u∈r,T .aI u)/\r.length<=1040) λx y h=> ?_
 obtain⟨⟨hx,hr⟩,hy,hs⟩:=h;obtain⟨l,rfl,hl,hl2⟩:=T.fD hx;obtain⟨sm,rfl,Gj,hs2⟩:=T.vq hy;have aqD:l.length<=64:=hr.1;have aqE:sm.length<=16:=hs;by_cases hne:sm=[]
 ·subst hne;exact⟨⟨[],λ_ h=>(by cases h),Nat.zero_le _⟩,aqA m l⟩
 ·have hU:(sm++l.flatMap vV).length<=1040:=by
   have:=RE (l:=l) hr.2;rw[List.length_append];omega
  obtain⟨⟨r,h1,h2⟩,h3⟩:=aqx m l sm (sm++l.flatMap vV) hl hl2 Gj hs2 hne (λy hy=>List.mem_append_left _ hy) (λe he y hy=>List.mem_append_right _ (List.mem_flatMap.2 ⟨e,he,hy⟩)) (by omega);exact⟨⟨r,h1,by omega⟩,h3⟩
theorem Fv (m:Int):∃F:Tree->Int,∀x,(T .aQ x)->R1 (cf m) 24 x (.int .i64 (F x))/\((F x)=0->DO x):=by
 refine BI (P:=λx=>T .aQ x) (mk:=λ(r:Int)=>.int .i64 r) (Post:=λx r=>r=0->DO x) λx hx=> ?_
 show ∃r:{r:Int // r=0->DO x},ai (cf m) 24 [.t x] [] (.ret (.t (.int .i64 r.1)) [] []);have bw:=hx;obtain⟨v_1,rfl,cL,cF⟩:=T.fD bw;obtain⟨ajn,amZ⟩:=aeY m;obtain⟨ahG,am0⟩:=abB m;obtain⟨afu,am1⟩:=aft m;obtain⟨GK,Rh⟩:=Ka m;obtain⟨ev,aK,aqF,ahH,am2,Du⟩:∃ev,aD (cf m) ev/\Has ev 43 (mY (λx=>T .bP x) (λx=>.int .i64 (ajn x)))/\Has ev 44 (rM (λx y=>T .aQ x/\y=.fn (.func 45)) (λx y=>.bool (ahG x y)))/\Has ev 48 (rM (λx y=>(T .aQ x/\DO x)/\(T .fe y/\(tZ y).length<=16)) (λx y=>.sl (afu x y)))/\Has ev 47 (rM (λx y=>T .fe x/\T .aI y) (λx y=>.bool (GK x y))):=⟨_,(aq (bT (λx h=>(amZ x h).1)) (aq (dA (λx y h=>(am0 x y h))) (aq (dA (λx y h=>(am1 x y h).1)) (aq (dA (λx y h=>(Rh x y h).1)) aF)))),au,(az rfl au),(az rfl (az rfl au)),(az rfl (az rfl (az rfl au)))⟩;refine AX.start 54 1 Tryz.func24 rfl (by decide) rfl rfl (by decide) ?_;refine AX.frames ?_;rcases aM (decide (((v_1.length:Nat):Int)>64)) with cq|cq
 ·have jP:=of_decide_eq_true cq;refine⟨⟨2, ?_⟩,kf ah [oB cq]⟩;intro h;first|exact absurd h (by decide)|exact absurd h (by assumption)|exact hrow
 ·have jP:=of_decide_eq_false cq;refine kl (α:=Nat×List (TV×TV×Nat)×Nat) ah 0 [] 54 1 [.loc [4]] [.loc [4]] [0,3,13,14,15] (λx=>⟨eD 54 [(0,.t (.sl v_1)),(3,.map (.loc [0])),(13,.t (.sl v_1)),(14,.t (.int .i64 ((v_1.length:Nat):Int))),(15,.t (.int .i64 ((x.1:Nat):Int)))],[(.loc [0],.map x.2.1 x.2.2)],1⟩) (λx=>(x.1<=v_1.length)/\(∀e∈v_1.take x.1,(vV e).length<=16)/\(KM bB x.2.1/\KB x.2.1 x.2.2)) (λx=>v_1.length - x.1) (⟨0,[],0⟩) (j6 (Tryz.f24.body.getD .skip) 5) [oB cq,iH bB [] 0 KM.nil] ⟨Nat.zero_le _,λe he=>(by cases he),KM.nil,KB.nil⟩ (λx hok=> ?_);obtain⟨wT,bR,cv⟩:=x;replace hok:(wT<=v_1.length)/\(∀e∈v_1.take wT,(vV e).length<=16)/\(KM bB bR/\KB bR cv):=hok;obtain⟨gq,fR,k8⟩:=hok;rcases aM (decide (((wT:Nat):Int)<((v_1.length:Nat):Int))) with gP|gP
  ·have tT:=of_decide_eq_true gP;obtain⟨e5,kA⟩:=dr v_1 wT;have lq:=(cF e5 (fW kA));obtain⟨dN,fE,kI,eG,ia,ic,ig,ij,dR,eH,rfl,pQ,rW,tU,tV,tW,pR,Ub,Ox,Uc,Oy⟩:=T.dG lq;have hp7:=(amZ (.agg [.str dN,.str fE,.sl kI,.int .u8 eG,.bool ia,.int .i64 ic,.str ig,.str ij,.sl dR,.sl eH]) lq).2;have am3:=cO aqF (x:=.agg [.str dN,.str fE,.sl kI,.int .u8 eG,.bool ia,.int .i64 ic,.str ig,.str ij,.sl dR,.sl eH]) lq;rcases aM (((ajn (.agg [.str dN,.str fE,.sl kI,.int .u8 eG,.bool ia,.int .i64 ic,.str ig,.str ij,.sl dR,.sl eH])) != 0)) with js|js
   ·have BV:=dM js;refine kx ah [oB gP,oE kA,oC am3,oB js] ?_;refine⟨⟨(ajn (.agg [.str dN,.str fE,.sl kI,.int .u8 eG,.bool ia,.int .i64 ic,.str ig,.str ij,.sl dR,.sl eH])), ?_⟩,kf ah []⟩;intro h;first|exact absurd h (by decide)|exact absurd h (by assumption)|exact hrow
   ·have BV:=cC js;exact⟨.inl ⟨⟨wT+1,(nN bR cv (.agg [.str dN,.str fE]) (IntKind.wrap .i64 ((kZ bR (.agg [.str dN,.str fE]))+1))),(uK bR cv (.agg [.str dN,.str fE]))⟩,⟨⟨(by show(wT+1)<=v_1.length;omega),(λy hy=>by rw[E9 kA] at hy;exact(List.mem_append.1 hy).elim (fR y) (λh=>by rw[List.mem_singleton.1 h];exact hp7 (cC js))),⟨(iV k8.1 ⟨_,_,rfl⟩ _ _),(KB.up k8.2 k8.1 _ _)⟩⟩,(by show(v_1.length - (wT+1))<(v_1.length - wT);omega)⟩⟩,kr ah 54 1 [.loc [0]] [0,3,13,14,15] [oB gP,oE kA,oC am3,oB js,oO (wM (P:=(cf m).P) (es:=bR) (x:=(.agg [.str dN,.str fE])) B6 rfl B5 T6 rfl uf k8.1 ⟨_,_,rfl⟩),oZ,oJ (C7 (P:=(cf m).P) (es:=bR) (x:=(.agg [.str dN,.str fE])) B6 rfl B5 T6 rfl uf k8.1 ⟨_,_,rfl⟩ cv),oM (C8 (x:=(.agg [.str dN,.str fE])) k8.1 k8.2 (kZ bR (.agg [.str dN,.str fE])) (IntKind.wrap .i64 ((kZ bR (.agg [.str dN,.str fE]))+1))),oP (wN (P:=(cf m).P) (es:=bR) (x:=(.agg [.str dN,.str fE])) B6 rfl B5 T6 rfl uf k8.1 ⟨_,_,rfl⟩ cv),oI (wT) (by omega),iH bB (nN bR cv (.agg [.str dN,.str fE]) (IntKind.wrap .i64 ((kZ bR (.agg [.str dN,.str fE]))+1))) (uK bR cv (.agg [.str dN,.str fE])) (iV k8.1 ⟨_,_,rfl⟩ _ _)]⟩
  ·have tT:=of_decide_eq_false gP;refine kx ah [oB gP] ?_;rcases aM (decide (((bR.length:Nat):Int)<((v_1.length:Nat):Int))) with qi|qi
   ·have Fo:=of_decide_eq_true qi;refine⟨⟨10, ?_⟩,kf ah [oB qi]⟩;intro h;first|exact absurd h (by decide)|exact absurd h (by assumption)|exact hrow
   ·have Fo:=of_decide_eq_false qi;rcases aM ((!(ahG (.sl v_1) (.fn (.func 45))))) with k6|k6
    ·refine⟨⟨5, ?_⟩,kf ah [oB qi,oC (eL ahH (x:=.sl v_1) (y:=.fn (.func 45)) ⟨bw,rfl⟩),oB k6]⟩;intro h;first|exact absurd h (by decide)|exact absurd h (by assumption)|exact hrow
    ·have hrow:DO (.sl v_1):=⟨by show List.length v_1<=64;omega,λe he=>fR e (by rw[List.take_of_length_le (by omega)];exact he)⟩;refine kl (α:=Nat) ah 0 [] 54 0 [] [] [0,40,41,42] (λx=>⟨eD 54 [(0,.t (.sl v_1)),(40,.t (.sl v_1)),(41,.t (.int .i64 ((v_1.length:Nat):Int))),(42,.t (.int .i64 ((x:Nat):Int)))],[],0⟩) (λx=>(x<=v_1.length)) (λx=>v_1.length - x) 0 (j6 (Tryz.f24.body.getD .skip) 17) [oB qi,oC (eL ahH (x:=.sl v_1) (y:=.fn (.func 45)) ⟨bw,rfl⟩),oB k6] (by show(0<=v_1.length);first|trivial|omega|(refine⟨?_, ?_⟩<;>first|omega|exact SM.nil)|simp) (λx hok=> ?_);obtain⟨rH,zB⟩:∃y,y=x:=⟨x,rfl⟩;subst zB;replace hok:(rH<=v_1.length):=hok;have J4:=hok;rcases aM (decide (((rH:Nat):Int)<((v_1.length:Nat):Int))) with zT|zT
     ·have abI:=of_decide_eq_true zT;obtain⟨e13,uv⟩:=dr v_1 rH;have MH:=(cF e13 (fW uv));obtain⟨zU,Fw,qQ,adU,ajo,ajp,ajq,ajr,abJ,adV,rfl,VU,VV,VW,DP,VX,VY,afv,apv,apw,apx⟩:=T.dG MH;have ajs:=(am1 (.sl v_1) (.sl qQ) ⟨⟨bw,hrow⟩,⟨(.fe _ cc DP),hrow.2 _ (fW uv)⟩⟩).2;have as2:=ajs.2;rcases aM ((GK (.sl (afu (.sl v_1) (.sl qQ))) (.agg [.str zU,.str Fw]))) with ot|ot
      ·refine kx ah [oB zT,oE uv,oC (eL am2 (x:=.sl v_1) (y:=.sl qQ) ⟨⟨bw,hrow⟩,⟨(.fe _ cc DP),hrow.2 _ (fW uv)⟩⟩),oC (eL Du (x:=.sl (afu (.sl v_1) (.sl qQ))) (y:=.agg [.str zU,.str Fw]) ⟨(.fe _ cc ajs.1),(.aI _ _ cc cc)⟩),oB ot] ?_;refine⟨⟨12, ?_⟩,kf ah []⟩;intro h;first|exact absurd h (by decide)|exact absurd h (by assumption)|exact hrow
      ·exact⟨.inl ⟨rH+1,⟨(by show(rH+1)<=v_1.length;omega),(by show(v_1.length - (rH+1))<(v_1.length - rH);omega)⟩⟩,kr ah 54 0 [] [0,40,41,42] [oB zT,oE uv,oC (eL am2 (x:=.sl v_1) (y:=.sl qQ) ⟨⟨bw,hrow⟩,⟨(.fe _ cc DP),hrow.2 _ (fW uv)⟩⟩),oC (eL Du (x:=.sl (afu (.sl v_1) (.sl qQ))) (y:=.agg [.str zU,.str Fw]) ⟨(.fe _ cc ajs.1),(.aI _ _ cc cc)⟩),oB ot,oI (rH) (by omega)]⟩
     ·have abI:=of_decide_eq_false zT;refine kx ah [oB zT] ?_;refine⟨⟨0, ?_⟩,kf ah []⟩;intro h;first|exact absurd h (by decide)|exact absurd h (by assumption)|exact hrow
def aN (r:Tree ⊕ Int)(os:List aP):bh:=match r with
 |.inl x=>.ret (.t x) os []
 |.inr w=>.panic (.t (.iface 60 (.agg [.int .i64 w]))) (os.map some)
def KA:List TV->List aP->Option bh:=λargs os=>match args,os with
 | [.t (.bool b),.t (.int .i64 w)],[]=>some (aN (cond b (.inl (.bU [])) (.inr w)) [])
 |_,_=>none
def sH:List TV->List aP->Option bh:=λargs os=>match args,os with
 | [.t (.agg [.int .u8 k,.bool b,.int .i64 n,.str s,.str t,.sl ns,.sl l]),.t (.int .u8 k2)],[]=>some (aN (cond (k==k2) (.inl (aA k b n s t ns l)) (.inr 7)) [])
 |_,_=>none
theorem ajt (m:Int)(w:Int):ai (cf m) 93 [.t (.bool true),.t (.int .i64 w)] [] (aN (.inl (.bU [])) []):=by
 obtain⟨ev,aK⟩:∃ev,aD (cf m) ev:=⟨_,aF⟩;refine ai.gO ?_;refine AX.start 9 2 Tryz.func93 rfl (by decide) rfl rfl (by decide) ?_;refine AX.frames ?_;exact⟨(),kf ah [oF]⟩
theorem aju (m:Int)(w:Int):ai (cf m) 93 [.t (.bool false),.t (.int .i64 w)] [] (aN (.inr w) []):=by
 obtain⟨ev,aK⟩:∃ev,aD (cf m) ev:=⟨_,aF⟩;refine ai.gO ?_;refine AX.start 9 2 Tryz.func93 rfl (by decide) rfl rfl (by decide) ?_;refine AX.frames ?_;exact⟨(),kf ah [oT]⟩
theorem zV (m:Int):kQ (cf m) 93 KA:=λargs os r h=>by
 unfold KA at h;split at h
 ·rename_i b w;cases h;cases b with
  |true=>exact ajt m w
  |false=>exact aju m w
 ·cases h
theorem ajv (m:Int)(k:Int)(b:Bool)(n:Int)(s t:List UInt8)(ns l:List Tree):ai (cf m) 52 [.t (aA k b n s t ns l),.t (.int .u8 k)] [] (aN (.inl (aA k b n s t ns l)) []):=by
 obtain⟨ev,aK,r7⟩:∃ev,aD (cf m) ev/\Has ev 93 KA:=⟨_,(aq (zV m) aF),au⟩;refine ai.gO ?_;refine AX.start 11 2 Tryz.func52 rfl (by decide) rfl rfl (by decide) ?_;refine AX.frames ?_;exact⟨(),kf ah [oC (show ev 93 [.t (.bool (k==k)),.t (.int .i64 7)] []=some (aN (.inl (.bU [])) []) from r7 _ _ _ (by show some (aN (cond ((k==k)) _ _) [])=_;rw[(beq_self_eq_true k)];rfl))]⟩
theorem ajw (m:Int)(k k2:Int)(hk:(k==k2)=false)(b:Bool)(n:Int)(s t:List UInt8)(ns l:List Tree):ai (cf m) 52 [.t (aA k b n s t ns l),.t (.int .u8 k2)] [] (aN (.inr 7) []):=by
 obtain⟨ev,aK,r7⟩:∃ev,aD (cf m) ev/\Has ev 93 KA:=⟨_,(aq (zV m) aF),au⟩;refine ai.gO ?_;refine AX.start 11 2 Tryz.func52 rfl (by decide) rfl rfl (by decide) ?_;refine AX.frames ?_;exact⟨(),kf ah [oC (show ev 93 [.t (.bool (k==k2)),.t (.int .i64 7)] []=some (aN (.inr (7)) []) from r7 _ _ _ (by show some (aN (cond ((k==k2)) _ _) [])=_;rw[hk];rfl))]⟩
theorem jY (m:Int):kQ (cf m) 52 sH:=λargs os r h=>by
 unfold sH at h;split at h
 ·rename_i k b n s t ns l k2;cases h;cases hk:(k==k2) with
  |true=>obtain rfl:=eq_of_beq hk;exact ajv m k b n s t ns l
  |false=>exact ajw m k k2 hk b n s t ns l
 ·cases h
def ajx:bh->Option (Int×Int)
 |.ret (.t (.bU [.int .u64 a,.int .u64 b])) [] []=>some (a,b)
 |_=>none
theorem afw:∀r b,ajx r=some b->r=.ret (.t (.bU [.int .u64 b.1,.int .u64 b.2])) [] []:=λr b h=>by
 unfold ajx at h;split at h
 ·cases h;rfl
 ·cases h
theorem abK (m:Int)(x y:Int):∃r:Int×Int,ai (cf m) 220 [.t (.int .u64 x),.t (.int .u64 y)] [] (.ret (.t (.bU [.int .u64 r.1,.int .u64 r.2])) [] []):=by
 obtain⟨ev,aK⟩:∃ev,aD (cf m) ev:=⟨_,aF⟩;refine AX.start 51 2 Tryz.func220 rfl (by decide) rfl rfl (by decide) ?_;refine AX.frames ?_;exact alU (f:=0) (n:=3000) (once:=[]) ah aK ajx (λr=>.ret (.t (.bU [.int .u64 r.1,.int .u64 r.2])) [] []) afw (rq 14 oZ ([])) (by kernel_rfl) (by kernel_rfl)
theorem Uo (m:Int):∃F:Tree->Tree->Int×Int,∀x y,(∃k:Int,x=.int .u64 k)/\(∃k:Int,y=.int .u64 k)->R2 (cf m) 220 x y (.bU [.int .u64 (F x y).1,.int .u64 (F x y).2]):=zA (λr:Int×Int=>.bU [.int .u64 r.1,.int .u64 r.2]) λx y h=>by
 obtain⟨⟨a,rfl⟩,⟨b,rfl⟩⟩:=h;exact abK m a b
theorem XU (m:Int):∃F:Tree->Tree->Bool,∀x y,(T .int64 x/\T .int64 y)->R2 (cf m) 190 x y (.bool (F x y))/\(True):=by
 refine tO (P:=λx y=>T .int64 x/\T .int64 y) (mk:=λ(r:Bool)=>.bool r) (Post:=λx y r=>True) λx y hx=> ?_
 obtain⟨hx,hy⟩:=hx;show ∃r:{r:Bool // True},ai (cf m) 190 [.t x,.t y] [] (.ret (.t (.bool r.1)) [] []);have bw:=hx;obtain⟨v_1,rfl⟩:=T.oc bw;have dB:=hy;obtain⟨v_2,rfl⟩:=T.oc dB;obtain⟨zW,am4⟩:=aaS m;obtain⟨MI,am5⟩:=Uo m;obtain⟨ev,aK,ahI,am6⟩:∃ev,aD (cf m) ev/\Has ev 219 (mY (λx=>T .int64 x) (λx=>.int .u64 (zW x)))/\Has ev 220 (rM (λx y=>(∃k:Int,x=.int .u64 k)/\(∃k:Int,y=.int .u64 k)) (λx y=>.bU [.int .u64 (MI x y).1,.int .u64 (MI x y).2])):=⟨_,(aq (bT (λx h=>(am4 x h).1)) (aq (dA (λx y h=>(am5 x y h))) aF)),au,(az rfl au)⟩;refine AX.start 33 2 Tryz.func190 rfl (by decide) rfl rfl (by decide) ?_;refine AX.frames ?_;have afx:=eL am6 (x:=.int .u64 (zW (.int .i64 v_1))) (y:=.int .u64 (zW (.int .i64 v_2))) ⟨⟨_,rfl⟩,⟨_,rfl⟩⟩;have afy:=cO ahI (x:=.int .i64 v_1) bw;have afz:=cO ahI (x:=.int .i64 v_2) dB;rcases aM ((!(decide (v_1<0)==decide (v_2<0)))) with bK|bK
 ·have mH:=ne_of_beq_false (wI bK);rcases aM (decide ((MI (.int .u64 (zW (.int .i64 v_1))) (.int .u64 (zW (.int .i64 v_2)))).1>0)) with hg4|hg4
  ·have OG:=of_decide_eq_true hg4;refine⟨⟨true, ?_⟩,kf ah ([oC afy,oC afz,oC afx,oB bK,oZ]++rq 4 (oB hg4) ([]))⟩;trivial
  ·have OG:=of_decide_eq_false hg4;refine⟨⟨decide ((MI (.int .u64 (zW (.int .i64 v_1))) (.int .u64 (zW (.int .i64 v_2)))).2>(IntKind.wrap .u64 (9223372036854775807+1))), ?_⟩,kf ah ([oC afy,oC afz,oC afx,oB bK,oZ]++rq 4 (oB hg4) ([]))⟩;trivial
 ·have mH:=eq_of_beq (pO bK);rcases aM (decide ((MI (.int .u64 (zW (.int .i64 v_1))) (.int .u64 (zW (.int .i64 v_2)))).1>0)) with nO|nO
  ·have J1:=of_decide_eq_true nO;refine⟨⟨true, ?_⟩,kf ah ([oC afy,oC afz,oC afx,oB bK]++rq 4 (oB nO) ([]))⟩;trivial
  ·have J1:=of_decide_eq_false nO;refine⟨⟨decide ((MI (.int .u64 (zW (.int .i64 v_1))) (.int .u64 (zW (.int .i64 v_2)))).2>9223372036854775807), ?_⟩,kf ah ([oC afy,oC afz,oC afx,oB bK]++rq 4 (oB nO) ([]))⟩;trivial
def intOf:Tree->Int
 |.int _ n=>n
 |_=>0
theorem XV (m:Int):∃F:Tree->Tree->Tree->Int×Int,∀x y z,((∃k:Int,x=.int .u8 k)/\T .int64 y/\T .int64 z)->R3 (cf m) 150 x y z (.bU [.int .i64 (F x y z).1,.int .i64 (F x y z).2])/\((x=.int .u8 43->(F x y z).2=0->(F x y z).1=IntKind.wrap .i64 (intOf y+intOf z))/\(x=.int .u8 45->(F x y z).2=0->(F x y z).1=IntKind.wrap .i64 (intOf y - intOf z))):=by
 refine alO (P:=λx y z=>(∃k:Int,x=.int .u8 k)/\T .int64 y/\T .int64 z) (mk:=λ(r:Int×Int)=>.bU [.int .i64 r.1,.int .i64 r.2]) (Post:=λx y z r=>(x=.int .u8 43->r.2=0->r.1=IntKind.wrap .i64 (intOf y+intOf z))/\(x=.int .u8 45->r.2=0->r.1=IntKind.wrap .i64 (intOf y - intOf z))) λx y z hx=> ?_
 obtain⟨hx,hy,hz⟩:=hx;show ∃r:{r:Int×Int //(x=.int .u8 43->r.2=0->r.1=IntKind.wrap .i64 (intOf y+intOf z))/\(x=.int .u8 45->r.2=0->r.1=IntKind.wrap .i64 (intOf y - intOf z))},ai (cf m) 150 [.t x,.t y,.t z] [] (.ret (.t (.bU [.int .i64 r.1.1,.int .i64 r.1.2])) [] []);obtain⟨op,rfl⟩:=hx;have bw:=hy;obtain⟨v_1,rfl⟩:=T.oc bw;have dB:=hz;obtain⟨v_2,rfl⟩:=T.oc dB;obtain⟨abL,ajy⟩:=XU m;obtain⟨ev,aK,ajz⟩:∃ev,aD (cf m) ev/\Has ev 190 (rM (λx y=>T .int64 x/\T .int64 y) (λx y=>.bool (abL x y))):=⟨_,(aq (dA (λx y h=>(ajy x y h).1)) aF),au⟩;refine AX.start 67 3 Tryz.func150 rfl (by decide) rfl rfl (by decide) ?_;refine AX.frames ?_;rcases aM ((op==43)) with bK|bK
 ·have mH:=eq_of_beq bK;rcases aM (decide (v_2>0)) with hg4|hg4
  ·have OG:=of_decide_eq_true hg4;rcases aM (decide (v_1>(IntKind.wrap .i64 (9223372036854775807 - v_2)))) with nO|nO
   ·have J1:=of_decide_eq_true nO;refine⟨⟨(0,11), ?_⟩,kf ah ([oB bK,oZ,oB hg4,oB hg4,oB hg4,oZ,oB hg4,oB hg4]++rq 5 (oB nO) ([oT]))⟩;refine⟨λh h0=> ?_,λh h0=> ?_⟩<;>first|rfl|exact absurd h0 (by decide)|(exfalso;have h:=(Tree.int.inj h).2;omega)
   ·have J1:=of_decide_eq_false nO;rcases aM (decide (v_2<0)) with qL|qL
    ·have ajA:=of_decide_eq_true qL;rcases aM (decide (v_1<(IntKind.wrap .i64 (-9223372036854775808 - v_2)))) with gi|gi
     ·have mR:=of_decide_eq_true gi;refine⟨⟨(0,11), ?_⟩,kf ah [oB bK,oZ,oB hg4,oB hg4,oB hg4,oZ,oB hg4,oB hg4,oB nO,oB nO,oB nO,oB qL,oB qL,oB qL,oZ,oB qL,oB nO,oB qL,oB nO,oB gi]⟩;refine⟨λh h0=> ?_,λh h0=> ?_⟩<;>first|rfl|exact absurd h0 (by decide)|(exfalso;have h:=(Tree.int.inj h).2;omega)
     ·have mR:=of_decide_eq_false gi;refine⟨⟨((IntKind.wrap .i64 (v_1+v_2)),0), ?_⟩,kf ah [oB bK,oZ,oB hg4,oB hg4,oB hg4,oZ,oB hg4,oB hg4,oB nO,oB nO,oB nO,oB qL,oB qL,oB qL,oZ,oB qL,oB nO,oB qL,oB nO,oB gi]⟩;refine⟨λh h0=> ?_,λh h0=> ?_⟩<;>first|rfl|exact absurd h0 (by decide)|(exfalso;have h:=(Tree.int.inj h).2;omega)
    ·have ajA:=of_decide_eq_false qL;refine⟨⟨((IntKind.wrap .i64 (v_1+v_2)),0), ?_⟩,kf ah ([oB bK,oZ,oB hg4,oB hg4,oB hg4,oZ,oB hg4,oB hg4,oB nO,oB nO,oB nO]++rq 4 (oB qL) ([oB nO,oB qL,oB nO,oF]))⟩;refine⟨λh h0=> ?_,λh h0=> ?_⟩<;>first|rfl|exact absurd h0 (by decide)|(exfalso;have h:=(Tree.int.inj h).2;omega)
  ·have OG:=of_decide_eq_false hg4;rcases aM (decide (v_2<0)) with lz|lz
   ·have abA:=of_decide_eq_true lz;rcases aM (decide (v_1<(IntKind.wrap .i64 (-9223372036854775808 - v_2)))) with qi|qi
    ·have Fo:=of_decide_eq_true qi;refine⟨⟨(0,11), ?_⟩,kf ah ([oB bK,oZ]++rq 5 (oB hg4) ([oF,oF,oF,oB lz,oB lz,oB lz,oZ,oB lz,oF,oB lz,oF,oB qi]))⟩;refine⟨λh h0=> ?_,λh h0=> ?_⟩<;>first|rfl|exact absurd h0 (by decide)|(exfalso;have h:=(Tree.int.inj h).2;omega)
    ·have Fo:=of_decide_eq_false qi;refine⟨⟨((IntKind.wrap .i64 (v_1+v_2)),0), ?_⟩,kf ah ([oB bK,oZ]++rq 5 (oB hg4) ([oF,oF,oF,oB lz,oB lz,oB lz,oZ,oB lz,oF,oB lz,oF,oB qi]))⟩;refine⟨λh h0=> ?_,λh h0=> ?_⟩<;>first|rfl|exact absurd h0 (by decide)|(exfalso;have h:=(Tree.int.inj h).2;omega)
   ·have abA:=of_decide_eq_false lz;refine⟨⟨((IntKind.wrap .i64 (v_1+v_2)),0), ?_⟩,kf ah ([oB bK,oZ]++rq 5 (oB hg4) ([oF,oF,oF]++rq 4 (oB lz) ([oF,oB lz,oF,oF])))⟩;refine⟨λh h0=> ?_,λh h0=> ?_⟩<;>first|rfl|exact absurd h0 (by decide)|(exfalso;have h:=(Tree.int.inj h).2;omega)
 ·have mH:=ne_of_beq_false bK;rcases aM ((op==45)) with k6|k6
  ·have JY:=eq_of_beq k6;rcases aM (decide (v_2<0)) with eA|eA
   ·have RF:=of_decide_eq_true eA;rcases aM (decide (v_1>(IntKind.wrap .i64 (9223372036854775807+v_2)))) with cE|cE
    ·have KC:=of_decide_eq_true cE;refine⟨⟨(0,11), ?_⟩,kf ah ([oB bK,oB k6,oZ,oB eA,oB eA,oB eA,oZ,oB eA,oB eA]++rq 5 (oB cE) ([oT]))⟩;refine⟨λh h0=> ?_,λh h0=> ?_⟩<;>first|rfl|exact absurd h0 (by decide)|(exfalso;have h:=(Tree.int.inj h).2;omega)
    ·have KC:=of_decide_eq_false cE;rcases aM (decide (v_2>0)) with iZ|iZ
     ·have J2:=of_decide_eq_true iZ;rcases aM (decide (v_1<(IntKind.wrap .i64 (-9223372036854775808+v_2)))) with Ke|Ke
      ·have aa6:=of_decide_eq_true Ke;refine⟨⟨(0,11), ?_⟩,kf ah [oB bK,oB k6,oZ,oB eA,oB eA,oB eA,oZ,oB eA,oB eA,oB cE,oB cE,oB cE,oB iZ,oB iZ,oB iZ,oZ,oB iZ,oB cE,oB iZ,oB cE,oB Ke]⟩;refine⟨λh h0=> ?_,λh h0=> ?_⟩<;>first|rfl|exact absurd h0 (by decide)|(exfalso;have h:=(Tree.int.inj h).2;omega)
      ·have aa6:=of_decide_eq_false Ke;refine⟨⟨((IntKind.wrap .i64 (v_1 - v_2)),0), ?_⟩,kf ah [oB bK,oB k6,oZ,oB eA,oB eA,oB eA,oZ,oB eA,oB eA,oB cE,oB cE,oB cE,oB iZ,oB iZ,oB iZ,oZ,oB iZ,oB cE,oB iZ,oB cE,oB Ke]⟩;refine⟨λh h0=> ?_,λh h0=> ?_⟩<;>first|rfl|exact absurd h0 (by decide)|(exfalso;have h:=(Tree.int.inj h).2;omega)
     ·have J2:=of_decide_eq_false iZ;refine⟨⟨((IntKind.wrap .i64 (v_1 - v_2)),0), ?_⟩,kf ah ([oB bK,oB k6,oZ,oB eA,oB eA,oB eA,oZ,oB eA,oB eA,oB cE,oB cE,oB cE]++rq 4 (oB iZ) ([oB cE,oB iZ,oB cE,oF]))⟩;refine⟨λh h0=> ?_,λh h0=> ?_⟩<;>first|rfl|exact absurd h0 (by decide)|(exfalso;have h:=(Tree.int.inj h).2;omega)
   ·have RF:=of_decide_eq_false eA;rcases aM (decide (v_2>0)) with kj|kj
    ·have Rb:=of_decide_eq_true kj;rcases aM (decide (v_1<(IntKind.wrap .i64 (-9223372036854775808+v_2)))) with hc16|hc16
     ·have aa7:=of_decide_eq_true hc16;refine⟨⟨(0,11), ?_⟩,kf ah ([oB bK,oB k6,oZ]++rq 5 (oB eA) ([oF,oF,oF,oB kj,oB kj,oB kj,oZ,oB kj,oF,oB kj,oF,oB hc16]))⟩;refine⟨λh h0=> ?_,λh h0=> ?_⟩<;>first|rfl|exact absurd h0 (by decide)|(exfalso;have h:=(Tree.int.inj h).2;omega)
     ·have aa7:=of_decide_eq_false hc16;refine⟨⟨((IntKind.wrap .i64 (v_1 - v_2)),0), ?_⟩,kf ah ([oB bK,oB k6,oZ]++rq 5 (oB eA) ([oF,oF,oF,oB kj,oB kj,oB kj,oZ,oB kj,oF,oB kj,oF,oB hc16]))⟩;refine⟨λh h0=> ?_,λh h0=> ?_⟩<;>first|rfl|exact absurd h0 (by decide)|(exfalso;have h:=(Tree.int.inj h).2;omega)
    ·have Rb:=of_decide_eq_false kj;refine⟨⟨((IntKind.wrap .i64 (v_1 - v_2)),0), ?_⟩,kf ah ([oB bK,oB k6,oZ]++rq 5 (oB eA) ([oF,oF,oF]++rq 4 (oB kj) ([oF,oB kj,oF,oF])))⟩;refine⟨λh h0=> ?_,λh h0=> ?_⟩<;>first|rfl|exact absurd h0 (by decide)|(exfalso;have h:=(Tree.int.inj h).2;omega)
  ·have JY:=ne_of_beq_false k6;rcases aM ((op==42)) with ot|ot
   ·have Kf:=eq_of_beq ot;have am7:=eL ajz (x:=.int .i64 v_1) (y:=.int .i64 v_2) ⟨bw,dB⟩;rcases aM ((abL (.int .i64 v_1) (.int .i64 v_2))) with ajB|ajB
    ·refine⟨⟨(0,11), ?_⟩,kf ah [oB bK,oB k6,oB ot,oZ,oC am7,oB ajB]⟩;refine⟨λh h0=> ?_,λh h0=> ?_⟩<;>first|rfl|exact absurd h0 (by decide)|(exfalso;have h:=(Tree.int.inj h).2;omega)
    ·refine⟨⟨((IntKind.wrap .i64 (v_1*v_2)),0), ?_⟩,kf ah [oB bK,oB k6,oB ot,oZ,oC am7,oB ajB]⟩;refine⟨λh h0=> ?_,λh h0=> ?_⟩<;>first|rfl|exact absurd h0 (by decide)|(exfalso;have h:=(Tree.int.inj h).2;omega)
   ·have Kf:=ne_of_beq_false ot;refine⟨⟨(0,1), ?_⟩,kf ah [oB bK,oB k6,oB ot]⟩;refine⟨λh h0=> ?_,λh h0=> ?_⟩<;>first|rfl|exact absurd h0 (by decide)|(exfalso;have h:=(Tree.int.inj h).2;omega)
structure Sc where
 p1:List UInt8
 p2:List UInt8
 a1:List UInt8
 a2:List UInt8
 r1:List UInt8
 r2:List UInt8
 k:Int
 b:Bool
 n:Int
 s:List UInt8
 t:List UInt8
 ns:List Tree
 l:List Tree
 row:List Tree
abbrev aV (q:Sc):List TV:=[.t (.str q.p1),.t (.str q.p2),.t (.str q.a1),.t (.str q.a2),.t (.str q.r1),.t (.str q.r2),.t (.int .u8 q.k),.t (.bool q.b),.t (.int .i64 q.n),.t (.str q.s),.t (.str q.t),.t (.sl q.ns),.t (.sl q.l),.t (.sl q.row)]
instance :Inhabited (Tree ⊕ Int):=⟨.inr 0⟩
def nt (n:Int):Tree:=(aA 1 false n [] [] [] [])
def SD (q:Sc):Prop:=(T .av (aA q.k q.b q.n q.s q.t q.ns q.l)/\q.p1.length<=4194304/\q.p2.length<=4194304/\q.a1.length<=4194304/\q.a2.length<=4194304/\q.r1.length<=4194304/\q.r2.length<=4194304)/\q.row.length<=4194304/\∀y∈q.row,T .bP y
def boolT (b:Bool):Tree:=(aA 0 b 0 [] [] [] [])
theorem Il (n:Int):T .av (nt n):=.av _ _ _ _ _ _ _ (by simp) (by simp) (by simp) (λ_ h=>by cases h) (by simp) (λ_ h=>by cases h)
theorem iR (b:Bool):T .av (boolT b):=.av _ _ _ _ _ _ _ (by simp) (by simp) (by simp) (λ_ h=>by cases h) (by simp) (λ_ h=>by cases h)
def jh:Tree->Int
 |.agg (.int _ k::_)=>k
 |_=>-1
def Cm:Tree->Int
 |.agg (_::_:: .int _ n::_)=>n
 |_=>0
def mV:Tree->Bool
 |.agg (_:: .bool b::_)=>b
 |_=>false
def pS (i:Nat)(o:List aP):List UInt8:=match o with
 |.cells _ c::_=>(match c[i]? with
  |some (.t (.str s))=>s
  |_=>[])
 |_=>[]
def pN (i:Nat)(o:List aP):Int:=match o with
 |.cells _ c::_=>(match c[i]? with
  |some (.t (.int _ s))=>s
  |_=>0)
 |_=>0
def pB (i:Nat)(o:List aP):Bool:=match o with
 |.cells _ c::_=>(match c[i]? with
  |some (.t (.bool s))=>s
  |_=>false)
 |_=>false
def pL (i:Nat)(o:List aP):List Tree:=match o with
 |.cells _ c::_=>(match c[i]? with
  |some (.t (.sl s))=>s
  |_=>[])
 |_=>[]
def pT0 (k:Nat)(p:List TV×List aP):Tree:=match p.1[k]? with
 |some (.t x)=>x
 |_=>.cR
def pSc (p:List TV×List aP):Sc:=⟨pS 0 p.2,pS 1 p.2,pS 2 p.2,pS 3 p.2,pS 4 p.2,pS 5 p.2,pN 6 p.2,pB 7 p.2,pN 8 p.2,pS 9 p.2,pS 10 p.2,pL 11 p.2,pL 12 p.2,pL 13 p.2⟩
def fu:Tree->Int
 |.agg (.int _ k::_)=>k
 |_=>-1
def Bh:Tree->Tree
 |.bool b=>boolT b
 |x=>x
def afA:Tree->Tree
 |.agg [.str t,.str s]=>(aA 3 false 0 s t [] [])
 |x=>x
def afB:Tree->Tree
 |.agg [_,_,_,.str s,.str t,_,_]=>.agg [.str t,.str s]
 |x=>x
def jR (l:List Tree)(i:Nat):Tree:=(l[i]?).getD .cR
theorem fN {l:List Tree}{i:Nat}{e:Tree}(h:l[i]?=some e):jR l i=e:=by unfold jR;rw[h];rfl
def yM (a b:Int):Int:=if a<b then -1 else if a>b then 1 else 0
def afC (v:Tree):Tree ⊕ Int:=cond (jh v==0) (.inl (boolT (!(mV v)))) (.inr 7)
def eqS (op c:Int):Tree ⊕ Int:=.inl (boolT ((c==0)==(op==17)))
theorem eB {α:Type}[BEq α][LawfulBEq α]{a x y:α}(h:(a==x)=true)(hne:x≠y):(a==y)=false:=by
 rw[eq_of_beq h];exact beq_eq_false_iff_ne.mpr hne
def OH (op c:Int):Bool:=cond (op==19) (decide (c<0)) (cond (op==20) (decide (c<=0)) (cond (op==21) (decide (c>0)) (cond (op==22) (decide (c>=0)) false)))
theorem qY (m:Int)(b:Bool):R1 (cf m) 94 (.bool b) (boolT b):=by
 obtain⟨ev,aK⟩:∃ev,aD (cf m) ev:=⟨_,aF⟩;refine ai.gO ?_;refine AX.start 5 1 Tryz.func94 rfl (by decide) rfl rfl (by decide) ?_;refine AX.frames ?_;exact⟨(),kf ah []⟩
theorem VZ (m:Int)(t s:List UInt8):R1 (cf m) 95 (.agg [.str t,.str s]) (afA (.agg [.str t,.str s])):=by
 obtain⟨ev,aK⟩:∃ev,aD (cf m) ev:=⟨_,aF⟩;refine ai.gO ?_;refine AX.start 8 1 Tryz.func95 rfl (by decide) rfl rfl (by decide) ?_;refine AX.frames ?_;exact⟨(),kf ah []⟩
theorem Up (m:Int)(k:Int)(b:Bool)(n:Int)(s t:List UInt8)(ns l:List Tree):R1 (cf m) 104 (aA k b n s t ns l) (afB (aA k b n s t ns l)):=by
 obtain⟨ev,aK⟩:∃ev,aD (cf m) ev:=⟨_,aF⟩;refine ai.gO ?_;refine AX.start 8 1 Tryz.func104 rfl (by decide) rfl rfl (by decide) ?_;refine AX.frames ?_;exact⟨(),kf ah []⟩
theorem OI (t s:List UInt8)(ht:t.length<=4194304)(hs:s.length<=4194304):T .av (afA (.agg [.str t,.str s])):=.av _ _ _ _ _ _ _ hs ht (by simp) (λ_ h=>by cases h) (by simp) (λ_ h=>by cases h)
theorem ajC (m:Int)(a:Int):R1 (cf m) 181 (.int .i64 a) (.bool false):=by
 obtain⟨ev,aK⟩:∃ev,aD (cf m) ev:=⟨_,aF⟩;refine ai.gO ?_;refine AX.start 6 1 Tryz.func181 rfl (by decide) rfl rfl (by decide) ?_;refine AX.frames ?_;refine kAt (f:=0) (n:=3000) (once:=[]) (k:=6) (T:=0) (S:=[]) (ks:=[]) (live:=[0,2]) ah aK (Tryz.f181.body.getD .skip) 1 rfl (⟨eD 6 [(0,.t (.int .i64 a)),(2,.t (.bool false))],[],0⟩) [] (by kernel_rfl) ?_;refine AX.region ?_;refine aO.go (f:=0) aK (aJ rfl) ?_;refine aO.go (f:=0) aK (aJ rfl) ?_;refine aO.go (f:=0) aK (NQ rfl rfl) ?_;refine aO.go (f:=0) aK (aL rfl) ?_;refine aO.nil ?_;have hres:false=false:=by simp
 rw[hres];exact⟨(),kf ah []⟩
theorem ajD (m:Int)(a c:Int):R2 (cf m) 134 (.int .i64 a) (.int .i64 c) (.int .i64 (yM a c)):=by
 obtain⟨ev,aK,QM⟩:∃ev,aD (cf m) ev/\Has ev 181 (mY (λx=>∃a,x=.int .i64 a) λ_=>.bool false):=⟨_,(aq (bT λx h=>by obtain⟨a,rfl⟩:=h;exact ajC m a) aF),au⟩;refine ai.gO ?_;refine AX.start 20 2 Tryz.func134 rfl (by decide) rfl rfl (by decide) ?_;refine AX.frames ?_;have ajE:=cO QM (x:=.int .i64 a) ⟨_,rfl⟩;have ajF:=cO QM (x:=.int .i64 c) ⟨_,rfl⟩;rcases aM (decide (a<c)) with hc1|hc1
 ·have ajG:=of_decide_eq_true hc1;have hres:yM a c=-1:=by unfold yM;(repeat' split)<;>first|rfl|omega
  show ∃_:Unit,KE (cf m) (q8 (cf m) _ 0 (.ret (.t (.int .i64 (yM a c))) [] [])) _ _ _;rw[hres];exact⟨(),kf ah [oC ajE,oC ajF,oF,oF,oB hc1]⟩
 ·have ajG:=of_decide_eq_false hc1;rcases aM (decide (a>c)) with cq|cq
  ·have jP:=of_decide_eq_true cq;have hres:yM a c=1:=by unfold yM;(repeat' split)<;>first|rfl|omega
   show ∃_:Unit,KE (cf m) (q8 (cf m) _ 0 (.ret (.t (.int .i64 (yM a c))) [] [])) _ _ _;rw[hres];exact⟨(),kf ah [oC ajE,oC ajF,oF,oF,oB hc1,oB cq]⟩
  ·have jP:=of_decide_eq_false cq;have hres:yM a c=0:=by unfold yM;(repeat' split)<;>first|rfl|omega
   show ∃_:Unit,KE (cf m) (q8 (cf m) _ 0 (.ret (.t (.int .i64 (yM a c))) [] [])) _ _ _;rw[hres];exact⟨(),kf ah [oC ajE,oC ajF,oF,oF,oB hc1,oB cq]⟩
theorem abM (m:Int)(b1:Bool)(n1:Int)(s1 t1:List UInt8)(N1 L1:List Tree)(b2:Bool)(n2:Int)(s2 t2:List UInt8)(N2 L2:List Tree):R2 (cf m) 84 (aA 1 b1 n1 s1 t1 N1 L1) (aA 1 b2 n2 s2 t2 N2 L2) (.int .i64 (yM n1 n2)):=by
 obtain⟨ev,aK,am8⟩:∃ev,aD (cf m) ev/\Has ev 134 (rM (λx y=>(∃a,x=.int .i64 a)/\∃a,y=.int .i64 a) λx y=>.int .i64 (yM (intOf x) (intOf y))):=⟨_,(aq (dA λx y h=>by obtain⟨⟨a,rfl⟩,⟨c,rfl⟩⟩:=h;exact ajD m a c) aF),au⟩;refine ai.gO ?_;refine AX.start 67 2 Tryz.func84 rfl (by decide) rfl rfl (by decide) ?_;refine AX.frames ?_;exact⟨(),kf ah [oF,oF,oT,oC (eL am8 (x:=.int .i64 n1) (y:=.int .i64 n2) ⟨⟨_,rfl⟩,⟨_,rfl⟩⟩)]⟩
theorem Fx (m:Int):∃F:Tree->Tree->Int,∀x y,T .av x/\T .av y->R2 (cf m) 84 x y (.int .i64 (F x y))/\(jh x=1->jh y=1->F x y=yM (Cm x) (Cm y)):=by
 obtain⟨G,hG⟩:=Q9 m;refine⟨λx y=>if jh x=1/\jh y=1 then yM (Cm x) (Cm y) else G x y,λx y h=> ?_⟩;by_cases hk:jh x=1/\jh y=1
 ·simp only[if_pos hk];refine⟨?_,λ_ _=>trivial⟩;obtain⟨k1,b1,n1,s1,t1,N1,L1,rfl,_⟩:=T.aB h.1;obtain⟨k2,b2,n2,s2,t2,N2,L2,rfl,_⟩:=T.aB h.2;obtain⟨rfl,rfl⟩:k1=1/\k2=1:=hk;exact abM m b1 n1 s1 t1 N1 L1 b2 n2 s2 t2 N2 L2
 ·simp only[if_neg hk];exact⟨hG x y h,λh1 h2=>absurd ⟨h1,h2⟩ hk⟩
noncomputable def Cn (m:Int):Tree->Tree->Int:=(Fx m).choose
theorem KD (m:Int):∀x y,T .av x/\T .av y->R2 (cf m) 84 x y (.int .i64 (Cn m x y)):=λx y h=>((Fx m).choose_spec x y h).1
theorem RG (m:Int){x y:Tree}(hx:T .av x)(hy:T .av y)(h1:jh x=1)(h2:jh y=1):Cn m x y=yM (Cm x) (Cm y):=((Fx m).choose_spec x y ⟨hx,hy⟩).2 h1 h2
theorem afD (m:Int)(op:Int)(a:Int)(c:Int)(h0:True):∃r:{r:Tree ⊕ Int //(∀v,r=.inl v->∃n,v=nt n/\(op=43->n=IntKind.wrap .i64 (a+c))/\(op=45->n=IntKind.wrap .i64 (a - c)))/\∀w,r=.inr w->w≠0},ai (cf m) 103 [.t (.int .u8 op),.t (.int .i64 a),.t (.int .i64 c)] [] (aN (r.1) []):=by
 obtain⟨qR,abN⟩:=XV m;obtain⟨ev,aK,ajH,r7⟩:∃ev,aD (cf m) ev/\Has ev 150 (pc3 (λx y z=>(∃k:Int,x=.int .u8 k)/\T .int64 y/\T .int64 z) (λx y z=>.bU [.int .i64 (qR x y z).1,.int .i64 (qR x y z).2]))/\Has ev 93 KA:=⟨_,(aq (Fc (λx y z h=>(abN x y z h).1)) (aq (zV m) aF)),au,(az rfl au)⟩;refine AX.start 22 3 Tryz.func103 rfl (by decide) rfl rfl (by decide) ?_;refine AX.frames ?_;have hp1:=(abN (.int .u8 op) (.int .i64 a) (.int .i64 c) ⟨⟨_,rfl⟩,(.int64 _),(.int64 _)⟩).2;have am9:=fG ajH (x:=.int .u8 op) (y:=.int .i64 a) (z:=.int .i64 c) ⟨⟨_,rfl⟩,(.int64 _),(.int64 _)⟩;rcases aM (((qR (.int .u8 op) (.int .i64 a) (.int .i64 c)).2==0)) with hk2|hk2
 ·have Uq:=eq_of_beq hk2;refine⟨⟨.inl (aA 1 false ((qR (.int .u8 op) (.int .i64 a) (.int .i64 c)).1) [] [] [] []),⟨(λv hv=>⟨_,(Sum.inl.inj hv).symm,λh=>hp1.1 (by rw[h]) (eq_of_beq hk2),λh=>hp1.2 (by rw[h]) (eq_of_beq hk2)⟩),λw hw=>(by cases hw)⟩⟩,kf ah [oC am9,oC (show ev 93 [.t (.bool ((qR (.int .u8 op) (.int .i64 a) (.int .i64 c)).2==0)),.t (.int .i64 ((qR (.int .u8 op) (.int .i64 a) (.int .i64 c)).2))] []=some (aN (.inl (.bU [])) []) from r7 _ _ _ (by show some (aN (cond (((qR (.int .u8 op) (.int .i64 a) (.int .i64 c)).2==0)) _ _) [])=_;rw[hk2];rfl))]⟩
 ·have Uq:=ne_of_beq_false hk2;refine⟨⟨.inr ((qR (.int .u8 op) (.int .i64 a) (.int .i64 c)).2),⟨(λv hv=>by cases hv),λw hw=>Sum.inr.inj hw▸(show((qR (.int .u8 op) (.int .i64 a) (.int .i64 c)).2:Int)≠0 by intro h0;have hz:=hk2;rw[h0] at hz;exact absurd hz (by decide))⟩⟩,kf ah [oC am9,oC (show ev 93 [.t (.bool ((qR (.int .u8 op) (.int .i64 a) (.int .i64 c)).2==0)),.t (.int .i64 ((qR (.int .u8 op) (.int .i64 a) (.int .i64 c)).2))] []=some (aN (.inr ((qR (.int .u8 op) (.int .i64 a) (.int .i64 c)).2)) []) from r7 _ _ _ (by show some (aN (cond (((qR (.int .u8 op) (.int .i64 a) (.int .i64 c)).2==0)) _ _) [])=_;rw[hk2];rfl))]⟩
def vX (x:Int×Int×Int):List TV×List aP:=([.t (.int .u8 x.1),.t (.int .i64 x.2.1),.t (.int .i64 x.2.2)],[])
def r8 (x:Int×Int×Int):Prop:=(True)
def Fy (x:Int×Int×Int)(r:Tree ⊕ Int):bh:=(aN (r) [])
theorem rI:∀x y,r8 x->r8 y->vX x=vX y->x=y:=by
 rintro ⟨op1,a1,c1⟩ ⟨op2,a2,c2⟩ h1 h2 h;have aqG:op1=op2:=congrArg (LF 0) h;have e_a:a1=a2:=congrArg (LF 1) h;have e_c:c1=c2:=congrArg (LF 2) h;rw[aqG,e_a,e_c]
theorem DQ (m:Int):∃F:(Int×Int×Int)->Tree ⊕ Int,∀op a c,r8 (op,a,c)->ai (cf m) 103 (vX (op,a,c)).1 (vX (op,a,c)).2 (Fy (op,a,c) (F (op,a,c)))/\((∀v,(F (op,a,c))=.inl v->∃n,v=nt n/\(op=43->n=IntKind.wrap .i64 (a+c))/\(op=45->n=IntKind.wrap .i64 (a - c)))/\∀w,(F (op,a,c))=.inr w->w≠0):=by
 obtain⟨F,hF⟩:=bJ (α:=Int×Int×Int) (P:=r8) (Q:=λx (r:Tree ⊕ Int)=>ai (cf m) 103 (vX x).1 (vX x).2 (Fy x r)/\((∀v,r=.inl v->∃n,v=nt n/\(x.1=43->n=IntKind.wrap .i64 (x.2.1+x.2.2))/\(x.1=45->n=IntKind.wrap .i64 (x.2.1 - x.2.2)))/\∀w,r=.inr w->w≠0)) λx hx=>by
  obtain⟨op,a,c⟩:=x;have h0:=hx;obtain⟨⟨r,hr⟩,h⟩:=afD m op a c h0;exact⟨r,h,hr⟩
 exact⟨F,λop a c hx=>hF (op,a,c) hx⟩
theorem afE (m:Int)(q:Sc)(e:Tree)(l:List Tree)(h0:T .aG e)(h1:l.length<=4194304)(h2:∀y∈l,T .av y)(h3:1<=l.length):∃r:{r:Tree ⊕ Int //((∀v,r=.inl v->T .av v)/\r=afC (jR l 0))/\∀w,r=.inr w->w≠0},ai (cf m) 61 [.ptr (.arg 0) 0,.t e,.t (.sl l)] [.cells 63 (aV q)] (aN (r.1) [.cells 63 (aV q)]):=by
 have bw:=h0;obtain⟨bX,n_1,s_1,dH,aU,bN,rfl,cL,cF,fQ,dX,fk,eR,jq⟩:=T.bE bw;obtain⟨ev,aK,bC,l6⟩:∃ev,aD (cf m) ev/\Has ev 52 sH/\Has ev 94 (mY (λx=>∃b,x=.bool b) Bh):=⟨_,(aq (jY m) (aq (bT λx h=>by obtain⟨b,rfl⟩:=h;exact qY m b) aF)),au,(az rfl au)⟩;refine AX.start 14 3 Tryz.func61 rfl (by decide) rfl rfl (by decide) ?_;refine AX.frames ?_;obtain⟨e2,jB⟩:=dr l 0;have jd:=(h2 e2 (fW jB));obtain⟨aZ,eS,jx,iu,dn,bq,bH,rfl,r9,sg,uw,ux,uy,uz⟩:=T.aB jd;rcases aM ((aZ==0)) with nS|nS
 ·have Ca:=eq_of_beq nS;refine⟨⟨.inl (aA 0 (!eS) 0 [] [] [] []),⟨(⟨(λv hv=>by cases hv;exact(iR _)),(by rw[fN jB];simp only[afC,jh,mV,nS,cond_true,cond_false];try rfl)⟩),λw hw=>(by cases hw)⟩⟩,kf ah [oE jB,oC (show ev 52 [.t (aA aZ eS jx iu dn bq bH),.t (.int .u8 0)] []=some (aN (.inl (aA aZ eS jx iu dn bq bH)) []) from bC _ _ _ (by show some (aN (cond ((aZ==0)) _ _) [])=_;rw[nS];rfl)),wg 94 [.t (.bool (!eS))] (aA 0 (!eS) 0 [] [] [] []) (cO l6 (x:=.bool (!eS)) ⟨_,rfl⟩)]⟩
 ·have Ca:=ne_of_beq_false nS;refine⟨⟨.inr (7),⟨(⟨(λv hv=>by cases hv),(by rw[fN jB];simp only[afC,jh,mV,nS,cond_true,cond_false];try rfl)⟩),λw hw=>Sum.inr.inj hw▸(show(7:Int)≠0 by decide)⟩⟩,kf ah [oE jB,oC (show ev 52 [.t (aA aZ eS jx iu dn bq bH),.t (.int .u8 0)] []=some (aN (.inr (7)) []) from bC _ _ _ (by show some (aN (cond ((aZ==0)) _ _) [])=_;rw[nS];rfl))]⟩
theorem afF (m:Int)(q:Sc)(e:Tree)(l:List Tree)(h0:T .aG e)(h1:l.length<=4194304)(h2:∀y∈l,T .av y)(h3:1<=l.length):∃r:{r:Tree ⊕ Int //((∀v,r=.inl v->jh (jR l 0)=1/\v=nt (IntKind.wrap .i64 (0 - Cm (jR l 0)))))/\∀w,r=.inr w->w≠0},ai (cf m) 62 [.ptr (.arg 0) 0,.t e,.t (.sl l)] [.cells 63 (aV q)] (aN (r.1) [.cells 63 (aV q)]):=by
 have bw:=h0;obtain⟨bX,n_1,s_1,dH,aU,bN,rfl,cL,cF,fQ,dX,fk,eR,jq⟩:=T.bE bw;obtain⟨uA,uB⟩:=DQ m;obtain⟨ev,aK,bC,uC⟩:∃ev,aD (cf m) ev/\Has ev 52 sH/\Has ev 103 (iQ vX (r8) (λx=>Fy x (uA x))):=⟨_,(aq (jY m) (aq (dD (λ⟨op,a,c⟩ hx=>(uB op a c hx).1)) aF)),au,(az rfl au)⟩;refine AX.start 13 3 Tryz.func62 rfl (by decide) rfl rfl (by decide) ?_;refine AX.frames ?_;obtain⟨e2,jB⟩:=dr l 0;have jd:=(h2 e2 (fW jB));obtain⟨aZ,eS,jx,iu,dn,bq,bH,rfl,r9,sg,uw,ux,uy,uz⟩:=T.aB jd;rcases aM ((aZ==1)) with nS|nS
 ·have Ca:=eq_of_beq nS;have XI:r8 (45,0,jx):=trivial;have hq5:=uB 45 0 jx XI;rcases AV:(uA (45,0,jx)) with v_6|Yt
  ·obtain⟨qq,rfl,aqH⟩:=hq5.2.1 _ AV;refine⟨⟨.inl (aA 1 false qq [] [] [] []),⟨((λv hv=>by cases hv;rw[fN jB];exact⟨eq_of_beq nS,by rw[aqH.2 rfl];rfl⟩)),λw hw=>(by cases hw)⟩⟩,kf ah [oE jB,oC (show ev 52 [.t (aA aZ eS jx iu dn bq bH),.t (.int .u8 1)] []=some (aN (.inl (aA aZ eS jx iu dn bq bH)) []) from bC _ _ _ (by show some (aN (cond ((aZ==1)) _ _) [])=_;rw[nS];rfl)),oC (show ev 103 [.t (.int .u8 45),.t (.int .i64 0),.t (.int .i64 jx)] []=some (aN (.inl (aA 1 false qq [] [] [] [])) []) from((fH uC rI (45,0,jx) XI rfl rfl):ev 103 _ _=some _).trans (congrArg (λz=>some (aN z [])) AV))]⟩
  ·have aqI:=beq_eq_false_iff_ne.mpr (hq5.2.2 _ AV);refine⟨⟨.inr (Yt),⟨((λv hv=>by cases hv)),λw hw=>Sum.inr.inj hw▸(show(Yt:Int)≠0 by intro h0;have hz:=aqI;rw[h0] at hz;exact absurd hz (by decide))⟩⟩,kf ah [oE jB,oC (show ev 52 [.t (aA aZ eS jx iu dn bq bH),.t (.int .u8 1)] []=some (aN (.inl (aA aZ eS jx iu dn bq bH)) []) from bC _ _ _ (by show some (aN (cond ((aZ==1)) _ _) [])=_;rw[nS];rfl)),oC (show ev 103 [.t (.int .u8 45),.t (.int .i64 0),.t (.int .i64 jx)] []=some (aN (.inr Yt) []) from((fH uC rI (45,0,jx) XI rfl rfl):ev 103 _ _=some _).trans (congrArg (λz=>some (aN z [])) AV))]⟩
 ·have Ca:=ne_of_beq_false nS;refine⟨⟨.inr (7),⟨((λv hv=>by cases hv)),λw hw=>Sum.inr.inj hw▸(show(7:Int)≠0 by decide)⟩⟩,kf ah [oE jB,oC (show ev 52 [.t (aA aZ eS jx iu dn bq bH),.t (.int .u8 1)] []=some (aN (.inr (7)) []) from bC _ _ _ (by show some (aN (cond ((aZ==1)) _ _) [])=_;rw[nS];rfl))]⟩
theorem MJ (m:Int)(q:Sc)(e:Tree)(l:List Tree)(h0:T .aG e)(h1:l.length<=4194304)(h2:∀y∈l,T .av y)(h3:2<=l.length):∃r:{r:Tree ⊕ Int //((∀v,r=.inl v->T .av v)/\r=eqS (fu e) (Cn m (jR l 0) (jR l 1)))/\∀w,r=.inr w->w≠0},ai (cf m) 63 [.ptr (.arg 0) 0,.t e,.t (.sl l)] [.cells 63 (aV q)] (aN (r.1) [.cells 63 (aV q)]):=by
 have bw:=h0;obtain⟨bX,n_1,s_1,dH,aU,bN,rfl,cL,cF,fQ,dX,fk,eR,jq⟩:=T.bE bw;obtain⟨ev,aK,JZ,l6⟩:∃ev,aD (cf m) ev/\Has ev 84 (rM (λx y=>T .av x/\T .av y) (λx y=>.int .i64 (Cn m x y)))/\Has ev 94 (mY (λx=>∃b,x=.bool b) Bh):=⟨_,(aq (dA (λx y h=>KD m x y h)) (aq (bT λx h=>by obtain⟨b,rfl⟩:=h;exact qY m b) aF)),au,(az rfl au)⟩;refine AX.start 20 3 Tryz.func63 rfl (by decide) rfl rfl (by decide) ?_;refine AX.frames ?_;obtain⟨e2,jB⟩:=dr l 0;have jd:=(h2 e2 (fW jB));obtain⟨aZ,eS,jx,iu,dn,bq,bH,rfl,r9,sg,uw,ux,uy,uz⟩:=T.aB jd;obtain⟨e4,uP⟩:=dr l 1;have qh:=(h2 e4 (fW uP));obtain⟨eC,ou,rJ,Bi,p0,fh,gW,rfl,xY,B1,KF,KG,KH,KI⟩:=T.aB qh;refine⟨⟨.inl (aA 0 (((Cn m (aA aZ eS jx iu dn bq bH) (aA eC ou rJ Bi p0 fh gW))==0)==(bX==17)) 0 [] [] [] []),⟨(⟨(λv hv=>by cases hv;exact(iR _)),(by rw[fN jB,fN uP];rfl)⟩),λw hw=>(by cases hw)⟩⟩,kf ah [oE jB,oE uP,oC (eL JZ (x:=(aA aZ eS jx iu dn bq bH)) (y:=(aA eC ou rJ Bi p0 fh gW)) ⟨jd,qh⟩),wg 94 [.t (.bool (((Cn m (aA aZ eS jx iu dn bq bH) (aA eC ou rJ Bi p0 fh gW))==0)==(bX==17)))] (aA 0 (((Cn m (aA aZ eS jx iu dn bq bH) (aA eC ou rJ Bi p0 fh gW))==0)==(bX==17)) 0 [] [] [] []) (cO l6 (x:=.bool (((Cn m (aA aZ eS jx iu dn bq bH) (aA eC ou rJ Bi p0 fh gW))==0)==(bX==17))) ⟨_,rfl⟩)]⟩
abbrev aqJ:TI:={size:=1,bytes:=24,agg:=false,zero:=some (.bW),desc:=.slice 32}
theorem KJ {m:Int}:(cf m).P.ty 30=some aqJ:=by kernel_rfl
abbrev ana:TI:={size:=7,bytes:=96,agg:=true,zero:=some (.agg [.t (.int .u8 0),.t (.bool false),.t (.int .i64 0),.t (.str []),.t (.str []),.bW,.bW]),desc:=descOf 32}
theorem ajI {m:Int}:(cf m).P.ty 32=some ana:=by kernel_rfl
def nT (m:Int)(op:Int)(v w:Tree):Tree ⊕ Int:=cond (jh v==1) (cond (jh w==1) (.inl (boolT (OH op (Cn m v w)))) (.inr 7)) (.inr 7)
theorem Im (m:Int)(q:Sc)(e:Tree)(l:List Tree)(h0:T .aG e)(h1:l.length<=4194304)(h2:∀y∈l,T .av y)(h3:2<=l.length):∃r:{r:Tree ⊕ Int //((∀v,r=.inl v->T .av v)/\r=nT m (fu e) (jR l 0) (jR l 1))/\∀w,r=.inr w->w≠0},ai (cf m) 64 [.ptr (.arg 0) 0,.t e,.t (.sl l)] [.cells 63 (aV q)] (aN (r.1) [.cells 63 (aV q)]):=by
 have bw:=h0;obtain⟨bX,n_1,s_1,dH,aU,bN,rfl,cL,cF,fQ,dX,fk,eR,jq⟩:=T.bE bw;obtain⟨ev,aK,bC,JZ,l6⟩:∃ev,aD (cf m) ev/\Has ev 52 sH/\Has ev 84 (rM (λx y=>T .av x/\T .av y) (λx y=>.int .i64 (Cn m x y)))/\Has ev 94 (mY (λx=>∃b,x=.bool b) Bh):=⟨_,(aq (jY m) (aq (dA (λx y h=>KD m x y h)) (aq (bT λx h=>by obtain⟨b,rfl⟩:=h;exact qY m b) aF))),au,(az rfl au),(az rfl (az rfl au))⟩;refine AX.start 52 3 Tryz.func64 rfl (by decide) rfl rfl (by decide) ?_;refine AX.frames ?_;obtain⟨e2,jB⟩:=dr l 0;have jd:=(h2 e2 (fW jB));obtain⟨aZ,eS,jx,iu,dn,bq,bH,rfl,r9,sg,uw,ux,uy,uz⟩:=T.aB jd;rcases aM ((aZ==1)) with nS|nS
 ·have Ca:=eq_of_beq nS;obtain⟨e5,kA⟩:=dr l 1;have lq:=(h2 e5 (fW kA));obtain⟨dK,kE,qq,rE,kG,dc,bG,rfl,pQ,rW,tU,tV,tW,pR⟩:=T.aB lq;have OJ:=show ev 52 [.t (aA aZ eS jx iu dn bq bH),.t (.int .u8 1)] []=some (aN (.inl (aA aZ eS jx iu dn bq bH)) []) from bC _ _ _ (by show some (aN (cond ((aZ==1)) _ _) [])=_;rw[nS];rfl);rcases aM ((dK==1)) with Bj|Bj
  ·have abO:=eq_of_beq Bj;have RH:=show ev 52 [.t (aA dK kE qq rE kG dc bG),.t (.int .u8 1)] []=some (aN (.inl (aA dK kE qq rE kG dc bG)) []) from bC _ _ _ (by show some (aN (cond ((dK==1)) _ _) [])=_;rw[Bj];rfl);have RI:=eL JZ (x:=(aA aZ eS jx iu dn bq bH)) (y:=(aA dK kE qq rE kG dc bG)) ⟨jd,lq⟩;have afG:=show ev 94 [.t (.bool false)] []=some (bh.ret (.t (aA 0 false 0 [] [] [] [])) [] []) from(cO l6 (x:=.bool false) ⟨_,rfl⟩);have ajJ:=show ev 94 [.t (.bool true)] []=some (bh.ret (.t (aA 0 true 0 [] [] [] [])) [] []) from(cO l6 (x:=.bool true) ⟨_,rfl⟩);rcases aM ((bX==19)) with lz|lz
   ·have abA:=eq_of_beq lz;rcases aM (decide ((Cn m (aA aZ eS jx iu dn bq bH) (aA dK kE qq rE kG dc bG))<0)) with SE|SE
    ·have ajK:=of_decide_eq_true SE;refine⟨⟨.inl (aA 0 true 0 [] [] [] []),⟨(⟨(λv hv=>by cases hv;exact(iR _)),(by rw[fN jB,fN kA];simp only[nT,jh,fu,OH,nS,Bj,lz,SE,eB lz (show(19:Int)≠20 by decide),eB lz (show(19:Int)≠21 by decide),eB lz (show(19:Int)≠22 by decide),cond_true,cond_false];try rfl)⟩),λw hw=>(by cases hw)⟩⟩,kf ah ([oE jB,oC OJ,oE kA,oC RH,oC RI,oB lz,oB lz,oB lz]++rq 6 (oB SE) (rq 12 oT ([oC ajJ])))⟩
    ·have ajK:=of_decide_eq_false SE;refine⟨⟨.inl (aA 0 false 0 [] [] [] []),⟨(⟨(λv hv=>by cases hv;exact(iR _)),(by rw[fN jB,fN kA];simp only[nT,jh,fu,OH,nS,Bj,lz,SE,eB lz (show(19:Int)≠20 by decide),eB lz (show(19:Int)≠21 by decide),eB lz (show(19:Int)≠22 by decide),cond_true,cond_false];try rfl)⟩),λw hw=>(by cases hw)⟩⟩,kf ah ([oE jB,oC OJ,oE kA,oC RH,oC RI,oB lz,oB lz,oB lz]++rq 4 (oB SE) ([oB (eB (y:=20) lz (by decide)),oB (eB (y:=20) lz (by decide)),oB SE,oB (eB (y:=20) lz (by decide)),oB SE]++rq 4 oF ([oB (eB (y:=21) lz (by decide)),oB (eB (y:=21) lz (by decide)),oF,oB (eB (y:=21) lz (by decide))]++rq 5 oF ([oB (eB (y:=22) lz (by decide)),oB (eB (y:=22) lz (by decide)),oF,oB (eB (y:=22) lz (by decide)),oF,oC afG]))))⟩
   ·have abA:=ne_of_beq_false lz;rcases aM ((bX==20)) with gQ|gQ
    ·have Ra:=eq_of_beq gQ;rcases aM (decide ((Cn m (aA aZ eS jx iu dn bq bH) (aA dK kE qq rE kG dc bG))<=0)) with eA|eA
     ·have RF:=of_decide_eq_true eA;refine⟨⟨.inl (aA 0 true 0 [] [] [] []),⟨(⟨(λv hv=>by cases hv;exact(iR _)),(by rw[fN jB,fN kA];simp only[nT,jh,fu,OH,nS,Bj,lz,gQ,eA,eB gQ (show(20:Int)≠19 by decide),eB gQ (show(20:Int)≠21 by decide),eB gQ (show(20:Int)≠22 by decide),cond_true,cond_false];try rfl)⟩),λw hw=>(by cases hw)⟩⟩,kf ah ([oE jB,oC OJ,oE kA,oC RH,oC RI,oB lz,oB lz,oB lz]++rq 4 oF ([oB gQ,oB gQ,oF,oB gQ,oF]++rq 6 (oB eA) (rq 6 oT ([oC ajJ]))))⟩
     ·have RF:=of_decide_eq_false eA;refine⟨⟨.inl (aA 0 false 0 [] [] [] []),⟨(⟨(λv hv=>by cases hv;exact(iR _)),(by rw[fN jB,fN kA];simp only[nT,jh,fu,OH,nS,Bj,lz,gQ,eA,eB gQ (show(20:Int)≠19 by decide),eB gQ (show(20:Int)≠21 by decide),eB gQ (show(20:Int)≠22 by decide),cond_true,cond_false];try rfl)⟩),λw hw=>(by cases hw)⟩⟩,kf ah ([oE jB,oC OJ,oE kA,oC RH,oC RI,oB lz,oB lz,oB lz]++rq 4 oF ([oB gQ,oB gQ,oF,oB gQ,oF]++rq 4 (oB eA) ([oB (eB (y:=21) gQ (by decide)),oB (eB (y:=21) gQ (by decide)),oB eA,oB (eB (y:=21) gQ (by decide)),oB eA]++rq 4 oF ([oB (eB (y:=22) gQ (by decide)),oB (eB (y:=22) gQ (by decide)),oF,oB (eB (y:=22) gQ (by decide)),oF,oC afG]))))⟩
    ·have Ra:=ne_of_beq_false gQ;rcases aM ((bX==21)) with cE|cE
     ·have KC:=eq_of_beq cE;rcases aM (decide ((Cn m (aA aZ eS jx iu dn bq bH) (aA dK kE qq rE kG dc bG))>0)) with iZ|iZ
      ·have J2:=of_decide_eq_true iZ;refine⟨⟨.inl (aA 0 true 0 [] [] [] []),⟨(⟨(λv hv=>by cases hv;exact(iR _)),(by rw[fN jB,fN kA];simp only[nT,jh,fu,OH,nS,Bj,lz,gQ,cE,iZ,eB cE (show(21:Int)≠19 by decide),eB cE (show(21:Int)≠20 by decide),eB cE (show(21:Int)≠22 by decide),cond_true,cond_false];try rfl)⟩),λw hw=>(by cases hw)⟩⟩,kf ah ([oE jB,oC OJ,oE kA,oC RH,oC RI,oB lz,oB lz,oB lz]++rq 4 oF ([oB gQ,oB gQ,oF,oB gQ]++rq 5 oF ([oB cE,oB cE,oF,oB cE,oF]++rq 6 (oB iZ) ([oC ajJ]))))⟩
      ·have J2:=of_decide_eq_false iZ;refine⟨⟨.inl (aA 0 false 0 [] [] [] []),⟨(⟨(λv hv=>by cases hv;exact(iR _)),(by rw[fN jB,fN kA];simp only[nT,jh,fu,OH,nS,Bj,lz,gQ,cE,iZ,eB cE (show(21:Int)≠19 by decide),eB cE (show(21:Int)≠20 by decide),eB cE (show(21:Int)≠22 by decide),cond_true,cond_false];try rfl)⟩),λw hw=>(by cases hw)⟩⟩,kf ah ([oE jB,oC OJ,oE kA,oC RH,oC RI,oB lz,oB lz,oB lz]++rq 4 oF ([oB gQ,oB gQ,oF,oB gQ]++rq 5 oF ([oB cE,oB cE,oF,oB cE,oF]++rq 4 (oB iZ) ([oB (eB (y:=22) cE (by decide)),oB (eB (y:=22) cE (by decide)),oB iZ,oB (eB (y:=22) cE (by decide)),oB iZ,oC afG]))))⟩
     ·have KC:=ne_of_beq_false cE;rcases aM ((bX==22)) with lu|lu
      ·have J3:=eq_of_beq lu;refine⟨⟨.inl (aA 0 (decide ((Cn m (aA aZ eS jx iu dn bq bH) (aA dK kE qq rE kG dc bG))>=0)) 0 [] [] [] []),⟨(⟨(λv hv=>by cases hv;exact(iR _)),(by rw[fN jB,fN kA];simp only[nT,jh,fu,OH,nS,Bj,lz,gQ,cE,lu,eB lu (show(22:Int)≠19 by decide),eB lu (show(22:Int)≠20 by decide),eB lu (show(22:Int)≠21 by decide),cond_true,cond_false];try rfl)⟩),λw hw=>(by cases hw)⟩⟩,kf ah ([oE jB,oC OJ,oE kA,oC RH,oC RI,oB lz,oB lz,oB lz]++rq 4 oF ([oB gQ,oB gQ,oF,oB gQ]++rq 5 oF ([oB cE,oB cE,oF,oB cE]++rq 5 oF ([oB lu,oB lu,oF,oB lu,oF,wg 94 [.t (.bool (decide ((Cn m (aA aZ eS jx iu dn bq bH) (aA dK kE qq rE kG dc bG))>=0)))] (aA 0 (decide ((Cn m (aA aZ eS jx iu dn bq bH) (aA dK kE qq rE kG dc bG))>=0)) 0 [] [] [] []) (cO l6 (x:=.bool (decide ((Cn m (aA aZ eS jx iu dn bq bH) (aA dK kE qq rE kG dc bG))>=0))) ⟨_,rfl⟩)]))))⟩
      ·have J3:=ne_of_beq_false lu;refine⟨⟨.inl (aA 0 false 0 [] [] [] []),⟨(⟨(λv hv=>by cases hv;exact(iR _)),(by rw[fN jB,fN kA];simp only[nT,jh,fu,OH,nS,Bj,lz,gQ,cE,lu,cond_true,cond_false];try rfl)⟩),λw hw=>(by cases hw)⟩⟩,kf ah ([oE jB,oC OJ,oE kA,oC RH,oC RI,oB lz,oB lz,oB lz]++rq 4 oF ([oB gQ,oB gQ,oF,oB gQ]++rq 5 oF ([oB cE,oB cE,oF,oB cE]++rq 5 oF ([oB lu,oB lu,oF,oB lu,oF,oC afG]))))⟩
  ·have abO:=ne_of_beq_false Bj;refine⟨⟨.inr (7),⟨(⟨(λv hv=>by cases hv),(by rw[fN jB,fN kA];simp only[nT,jh,nS,Bj,cond_true,cond_false])⟩),λw hw=>Sum.inr.inj hw▸(show(7:Int)≠0 by decide)⟩⟩,kf ah [oE jB,oC OJ,oE kA,oC (show ev 52 [.t (aA dK kE qq rE kG dc bG),.t (.int .u8 1)] []=some (aN (.inr (7)) []) from bC _ _ _ (by show some (aN (cond ((dK==1)) _ _) [])=_;rw[Bj];rfl))]⟩
 ·have Ca:=ne_of_beq_false nS;obtain⟨e15,anb⟩:=dr l 1;have anc:=(h2 e15 (fW anb));obtain⟨apy,asK,as3,as4,asL,ane,apz,rfl,apA,apB,apC,apD,apE,apF⟩:=T.aB anc;refine⟨⟨.inr (7),⟨(⟨(λv hv=>by cases hv),(by rw[fN jB];simp only[nT,jh,nS,cond_true,cond_false])⟩),λw hw=>Sum.inr.inj hw▸(show(7:Int)≠0 by decide)⟩⟩,kf ah [oE jB,oC (show ev 52 [.t (aA aZ eS jx iu dn bq bH),.t (.int .u8 1)] []=some (aN (.inr (7)) []) from bC _ _ _ (by show some (aN (cond ((aZ==1)) _ _) [])=_;rw[nS];rfl)),oE anb]⟩
theorem XW (m:Int)(q:Sc)(n:Int)(s t:List UInt8)(ns ks l:List Tree)(h1:l.length<=4194304)(h2:∀y∈l,T .av y)(h3:2<=l.length):∃r:{r:Tree ⊕ Int //(∀v,r=.inl v->jh (jR l 0)=1/\jh (jR l 1)=1/\∃n,v=nt n/\((24:Int)=24->n=IntKind.wrap .i64 (Cm (jR l 0)+Cm (jR l 1)))/\((24:Int)=25->n=IntKind.wrap .i64 (Cm (jR l 0) - Cm (jR l 1))))/\∀w,r=.inr w->w≠0},ai (cf m) 66 [.ptr (.arg 0) 0,.t (bf 24 n s t ns ks),.t (.sl l)] [.cells 63 (aV q)] (aN (r.1) [.cells 63 (aV q)]):=by
 obtain⟨uA,uB⟩:=DQ m;obtain⟨ev,aK,bC,uC⟩:∃ev,aD (cf m) ev/\Has ev 52 sH/\Has ev 103 (iQ vX (r8) (λx=>Fy x (uA x))):=⟨_,(aq (jY m) (aq (dD (λ⟨op,a,c⟩ hx=>(uB op a c hx).1)) aF)),au,(az rfl au)⟩;refine AX.start 22 3 Tryz.func66 rfl (by decide) rfl rfl (by decide) ?_;refine AX.frames ?_;obtain⟨e1,lS⟩:=dr l 0;have dB:=(h2 e1 (fW lS));obtain⟨cm,j8,n_2,s_2,iY,b8,eo,rfl,gx,kD,tX,rX,tY,qN⟩:=T.aB dB;rcases aM ((cm==1)) with Et|Et
 ·have abP:=eq_of_beq Et;obtain⟨e4,uP⟩:=dr l 1;have qh:=(h2 e4 (fW uP));obtain⟨eC,ou,rJ,Bi,p0,fh,gW,rfl,xY,B1,KF,KG,KH,KI⟩:=T.aB qh;rcases aM ((eC==1)) with KK|KK
  ·have abQ:=eq_of_beq KK;have DR:r8 (43,n_2,rJ):=trivial;have hq7:=uB 43 n_2 rJ DR;rcases DS:(uA (43,n_2,rJ)) with v_8|V0
   ·obtain⟨LL,rfl,afH⟩:=hq7.2.1 _ DS;refine⟨⟨.inl (aA 1 false LL [] [] [] []),⟨((λv hv=>by cases hv;rw[fN lS,fN uP];exact⟨eq_of_beq Et,eq_of_beq KK,_,rfl,λh=>afH.1 rfl,λh=>absurd h (by decide)⟩)),λw hw=>(by cases hw)⟩⟩,kf ah [oZ,oY (show([43,45,42]:List UInt8)[0]?=some 43 from rfl),oE lS,oC (show ev 52 [.t (aA cm j8 n_2 s_2 iY b8 eo),.t (.int .u8 1)] []=some (aN (.inl (aA cm j8 n_2 s_2 iY b8 eo)) []) from bC _ _ _ (by show some (aN (cond ((cm==1)) _ _) [])=_;rw[Et];rfl)),oE uP,oC (show ev 52 [.t (aA eC ou rJ Bi p0 fh gW),.t (.int .u8 1)] []=some (aN (.inl (aA eC ou rJ Bi p0 fh gW)) []) from bC _ _ _ (by show some (aN (cond ((eC==1)) _ _) [])=_;rw[KK];rfl)),oC (show ev 103 [.t (.int .u8 43),.t (.int .i64 n_2),.t (.int .i64 rJ)] []=some (aN (.inl (aA 1 false LL [] [] [] [])) []) from((fH uC rI (43,n_2,rJ) DR rfl rfl):ev 103 _ _=some _).trans (congrArg (λz=>some (aN z [])) DS))]⟩
   ·have abR:=beq_eq_false_iff_ne.mpr (hq7.2.2 _ DS);refine⟨⟨.inr (V0),⟨((λv hv=>by cases hv)),λw hw=>Sum.inr.inj hw▸(show(V0:Int)≠0 by intro h0;have hz:=abR;rw[h0] at hz;exact absurd hz (by decide))⟩⟩,kf ah [oZ,oY (show([43,45,42]:List UInt8)[0]?=some 43 from rfl),oE lS,oC (show ev 52 [.t (aA cm j8 n_2 s_2 iY b8 eo),.t (.int .u8 1)] []=some (aN (.inl (aA cm j8 n_2 s_2 iY b8 eo)) []) from bC _ _ _ (by show some (aN (cond ((cm==1)) _ _) [])=_;rw[Et];rfl)),oE uP,oC (show ev 52 [.t (aA eC ou rJ Bi p0 fh gW),.t (.int .u8 1)] []=some (aN (.inl (aA eC ou rJ Bi p0 fh gW)) []) from bC _ _ _ (by show some (aN (cond ((eC==1)) _ _) [])=_;rw[KK];rfl)),oC (show ev 103 [.t (.int .u8 43),.t (.int .i64 n_2),.t (.int .i64 rJ)] []=some (aN (.inr V0) []) from((fH uC rI (43,n_2,rJ) DR rfl rfl):ev 103 _ _=some _).trans (congrArg (λz=>some (aN z [])) DS))]⟩
  ·have abQ:=ne_of_beq_false KK;refine⟨⟨.inr (7),⟨((λv hv=>by cases hv)),λw hw=>Sum.inr.inj hw▸(show(7:Int)≠0 by decide)⟩⟩,kf ah [oZ,oY (show([43,45,42]:List UInt8)[0]?=some 43 from rfl),oE lS,oC (show ev 52 [.t (aA cm j8 n_2 s_2 iY b8 eo),.t (.int .u8 1)] []=some (aN (.inl (aA cm j8 n_2 s_2 iY b8 eo)) []) from bC _ _ _ (by show some (aN (cond ((cm==1)) _ _) [])=_;rw[Et];rfl)),oE uP,oC (show ev 52 [.t (aA eC ou rJ Bi p0 fh gW),.t (.int .u8 1)] []=some (aN (.inr (7)) []) from bC _ _ _ (by show some (aN (cond ((eC==1)) _ _) [])=_;rw[KK];rfl))]⟩
 ·have abP:=ne_of_beq_false Et;obtain⟨e9,ME⟩:=dr l 1;have vA:=(h2 e9 (fW ME));obtain⟨AI,MK,XX,XY,ML,xd,AJ,rfl,DG,Ig,Ih,Ii,Ij,Ik⟩:=T.aB vA;refine⟨⟨.inr (7),⟨((λv hv=>by cases hv)),λw hw=>Sum.inr.inj hw▸(show(7:Int)≠0 by decide)⟩⟩,kf ah [oZ,oY (show([43,45,42]:List UInt8)[0]?=some 43 from rfl),oE lS,oC (show ev 52 [.t (aA cm j8 n_2 s_2 iY b8 eo),.t (.int .u8 1)] []=some (aN (.inr (7)) []) from bC _ _ _ (by show some (aN (cond ((cm==1)) _ _) [])=_;rw[Et];rfl)),oE ME]⟩
theorem XZ (m:Int)(q:Sc)(n:Int)(s t:List UInt8)(ns ks l:List Tree)(h1:l.length<=4194304)(h2:∀y∈l,T .av y)(h3:2<=l.length):∃r:{r:Tree ⊕ Int //(∀v,r=.inl v->jh (jR l 0)=1/\jh (jR l 1)=1/\∃n,v=nt n/\((25:Int)=24->n=IntKind.wrap .i64 (Cm (jR l 0)+Cm (jR l 1)))/\((25:Int)=25->n=IntKind.wrap .i64 (Cm (jR l 0) - Cm (jR l 1))))/\∀w,r=.inr w->w≠0},ai (cf m) 66 [.ptr (.arg 0) 0,.t (bf 25 n s t ns ks),.t (.sl l)] [.cells 63 (aV q)] (aN (r.1) [.cells 63 (aV q)]):=by
 obtain⟨uA,uB⟩:=DQ m;obtain⟨ev,aK,bC,uC⟩:∃ev,aD (cf m) ev/\Has ev 52 sH/\Has ev 103 (iQ vX (r8) (λx=>Fy x (uA x))):=⟨_,(aq (jY m) (aq (dD (λ⟨op,a,c⟩ hx=>(uB op a c hx).1)) aF)),au,(az rfl au)⟩;refine AX.start 22 3 Tryz.func66 rfl (by decide) rfl rfl (by decide) ?_;refine AX.frames ?_;obtain⟨e1,lS⟩:=dr l 0;have dB:=(h2 e1 (fW lS));obtain⟨cm,j8,n_2,s_2,iY,b8,eo,rfl,gx,kD,tX,rX,tY,qN⟩:=T.aB dB;rcases aM ((cm==1)) with Et|Et
 ·have abP:=eq_of_beq Et;obtain⟨e4,uP⟩:=dr l 1;have qh:=(h2 e4 (fW uP));obtain⟨eC,ou,rJ,Bi,p0,fh,gW,rfl,xY,B1,KF,KG,KH,KI⟩:=T.aB qh;rcases aM ((eC==1)) with KK|KK
  ·have abQ:=eq_of_beq KK;have DR:r8 (45,n_2,rJ):=trivial;have hq7:=uB 45 n_2 rJ DR;rcases DS:(uA (45,n_2,rJ)) with v_8|V0
   ·obtain⟨LL,rfl,afH⟩:=hq7.2.1 _ DS;refine⟨⟨.inl (aA 1 false LL [] [] [] []),⟨((λv hv=>by cases hv;rw[fN lS,fN uP];exact⟨eq_of_beq Et,eq_of_beq KK,_,rfl,λh=>absurd h (by decide),λh=>afH.2 rfl⟩)),λw hw=>(by cases hw)⟩⟩,kf ah [oZ,oY (show([43,45,42]:List UInt8)[1]?=some 45 from rfl),oE lS,oC (show ev 52 [.t (aA cm j8 n_2 s_2 iY b8 eo),.t (.int .u8 1)] []=some (aN (.inl (aA cm j8 n_2 s_2 iY b8 eo)) []) from bC _ _ _ (by show some (aN (cond ((cm==1)) _ _) [])=_;rw[Et];rfl)),oE uP,oC (show ev 52 [.t (aA eC ou rJ Bi p0 fh gW),.t (.int .u8 1)] []=some (aN (.inl (aA eC ou rJ Bi p0 fh gW)) []) from bC _ _ _ (by show some (aN (cond ((eC==1)) _ _) [])=_;rw[KK];rfl)),oC (show ev 103 [.t (.int .u8 45),.t (.int .i64 n_2),.t (.int .i64 rJ)] []=some (aN (.inl (aA 1 false LL [] [] [] [])) []) from((fH uC rI (45,n_2,rJ) DR rfl rfl):ev 103 _ _=some _).trans (congrArg (λz=>some (aN z [])) DS))]⟩
   ·have abR:=beq_eq_false_iff_ne.mpr (hq7.2.2 _ DS);refine⟨⟨.inr (V0),⟨((λv hv=>by cases hv)),λw hw=>Sum.inr.inj hw▸(show(V0:Int)≠0 by intro h0;have hz:=abR;rw[h0] at hz;exact absurd hz (by decide))⟩⟩,kf ah [oZ,oY (show([43,45,42]:List UInt8)[1]?=some 45 from rfl),oE lS,oC (show ev 52 [.t (aA cm j8 n_2 s_2 iY b8 eo),.t (.int .u8 1)] []=some (aN (.inl (aA cm j8 n_2 s_2 iY b8 eo)) []) from bC _ _ _ (by show some (aN (cond ((cm==1)) _ _) [])=_;rw[Et];rfl)),oE uP,oC (show ev 52 [.t (aA eC ou rJ Bi p0 fh gW),.t (.int .u8 1)] []=some (aN (.inl (aA eC ou rJ Bi p0 fh gW)) []) from bC _ _ _ (by show some (aN (cond ((eC==1)) _ _) [])=_;rw[KK];rfl)),oC (show ev 103 [.t (.int .u8 45),.t (.int .i64 n_2),.t (.int .i64 rJ)] []=some (aN (.inr V0) []) from((fH uC rI (45,n_2,rJ) DR rfl rfl):ev 103 _ _=some _).trans (congrArg (λz=>some (aN z [])) DS))]⟩
  ·have abQ:=ne_of_beq_false KK;refine⟨⟨.inr (7),⟨((λv hv=>by cases hv)),λw hw=>Sum.inr.inj hw▸(show(7:Int)≠0 by decide)⟩⟩,kf ah [oZ,oY (show([43,45,42]:List UInt8)[1]?=some 45 from rfl),oE lS,oC (show ev 52 [.t (aA cm j8 n_2 s_2 iY b8 eo),.t (.int .u8 1)] []=some (aN (.inl (aA cm j8 n_2 s_2 iY b8 eo)) []) from bC _ _ _ (by show some (aN (cond ((cm==1)) _ _) [])=_;rw[Et];rfl)),oE uP,oC (show ev 52 [.t (aA eC ou rJ Bi p0 fh gW),.t (.int .u8 1)] []=some (aN (.inr (7)) []) from bC _ _ _ (by show some (aN (cond ((eC==1)) _ _) [])=_;rw[KK];rfl))]⟩
 ·have abP:=ne_of_beq_false Et;obtain⟨e9,ME⟩:=dr l 1;have vA:=(h2 e9 (fW ME));obtain⟨AI,MK,XX,XY,ML,xd,AJ,rfl,DG,Ig,Ih,Ii,Ij,Ik⟩:=T.aB vA;refine⟨⟨.inr (7),⟨((λv hv=>by cases hv)),λw hw=>Sum.inr.inj hw▸(show(7:Int)≠0 by decide)⟩⟩,kf ah [oZ,oY (show([43,45,42]:List UInt8)[1]?=some 45 from rfl),oE lS,oC (show ev 52 [.t (aA cm j8 n_2 s_2 iY b8 eo),.t (.int .u8 1)] []=some (aN (.inr (7)) []) from bC _ _ _ (by show some (aN (cond ((cm==1)) _ _) [])=_;rw[Et];rfl)),oE ME]⟩
theorem X0 (m:Int)(q:Sc)(n:Int)(s t:List UInt8)(ns ks l:List Tree)(h1:l.length<=4194304)(h2:∀y∈l,T .av y)(h3:2<=l.length):∃r:{r:Tree ⊕ Int //(∀v,r=.inl v->jh (jR l 0)=1/\jh (jR l 1)=1/\∃n,v=nt n/\((26:Int)=24->n=IntKind.wrap .i64 (Cm (jR l 0)+Cm (jR l 1)))/\((26:Int)=25->n=IntKind.wrap .i64 (Cm (jR l 0) - Cm (jR l 1))))/\∀w,r=.inr w->w≠0},ai (cf m) 66 [.ptr (.arg 0) 0,.t (bf 26 n s t ns ks),.t (.sl l)] [.cells 63 (aV q)] (aN (r.1) [.cells 63 (aV q)]):=by
 obtain⟨uA,uB⟩:=DQ m;obtain⟨ev,aK,bC,uC⟩:∃ev,aD (cf m) ev/\Has ev 52 sH/\Has ev 103 (iQ vX (r8) (λx=>Fy x (uA x))):=⟨_,(aq (jY m) (aq (dD (λ⟨op,a,c⟩ hx=>(uB op a c hx).1)) aF)),au,(az rfl au)⟩;refine AX.start 22 3 Tryz.func66 rfl (by decide) rfl rfl (by decide) ?_;refine AX.frames ?_;obtain⟨e1,lS⟩:=dr l 0;have dB:=(h2 e1 (fW lS));obtain⟨cm,j8,n_2,s_2,iY,b8,eo,rfl,gx,kD,tX,rX,tY,qN⟩:=T.aB dB;rcases aM ((cm==1)) with Et|Et
 ·have abP:=eq_of_beq Et;obtain⟨e4,uP⟩:=dr l 1;have qh:=(h2 e4 (fW uP));obtain⟨eC,ou,rJ,Bi,p0,fh,gW,rfl,xY,B1,KF,KG,KH,KI⟩:=T.aB qh;rcases aM ((eC==1)) with KK|KK
  ·have abQ:=eq_of_beq KK;have DR:r8 (42,n_2,rJ):=trivial;have hq7:=uB 42 n_2 rJ DR;rcases DS:(uA (42,n_2,rJ)) with v_8|V0
   ·obtain⟨LL,rfl,afH⟩:=hq7.2.1 _ DS;refine⟨⟨.inl (aA 1 false LL [] [] [] []),⟨((λv hv=>by cases hv;rw[fN lS,fN uP];exact⟨eq_of_beq Et,eq_of_beq KK,_,rfl,λh=>absurd h (by decide),λh=>absurd h (by decide)⟩)),λw hw=>(by cases hw)⟩⟩,kf ah [oZ,oY (show([43,45,42]:List UInt8)[2]?=some 42 from rfl),oE lS,oC (show ev 52 [.t (aA cm j8 n_2 s_2 iY b8 eo),.t (.int .u8 1)] []=some (aN (.inl (aA cm j8 n_2 s_2 iY b8 eo)) []) from bC _ _ _ (by show some (aN (cond ((cm==1)) _ _) [])=_;rw[Et];rfl)),oE uP,oC (show ev 52 [.t (aA eC ou rJ Bi p0 fh gW),.t (.int .u8 1)] []=some (aN (.inl (aA eC ou rJ Bi p0 fh gW)) []) from bC _ _ _ (by show some (aN (cond ((eC==1)) _ _) [])=_;rw[KK];rfl)),oC (show ev 103 [.t (.int .u8 42),.t (.int .i64 n_2),.t (.int .i64 rJ)] []=some (aN (.inl (aA 1 false LL [] [] [] [])) []) from((fH uC rI (42,n_2,rJ) DR rfl rfl):ev 103 _ _=some _).trans (congrArg (λz=>some (aN z [])) DS))]⟩
   ·have abR:=beq_eq_false_iff_ne.mpr (hq7.2.2 _ DS);refine⟨⟨.inr (V0),⟨((λv hv=>by cases hv)),λw hw=>Sum.inr.inj hw▸(show(V0:Int)≠0 by intro h0;have hz:=abR;rw[h0] at hz;exact absurd hz (by decide))⟩⟩,kf ah [oZ,oY (show([43,45,42]:List UInt8)[2]?=some 42 from rfl),oE lS,oC (show ev 52 [.t (aA cm j8 n_2 s_2 iY b8 eo),.t (.int .u8 1)] []=some (aN (.inl (aA cm j8 n_2 s_2 iY b8 eo)) []) from bC _ _ _ (by show some (aN (cond ((cm==1)) _ _) [])=_;rw[Et];rfl)),oE uP,oC (show ev 52 [.t (aA eC ou rJ Bi p0 fh gW),.t (.int .u8 1)] []=some (aN (.inl (aA eC ou rJ Bi p0 fh gW)) []) from bC _ _ _ (by show some (aN (cond ((eC==1)) _ _) [])=_;rw[KK];rfl)),oC (show ev 103 [.t (.int .u8 42),.t (.int .i64 n_2),.t (.int .i64 rJ)] []=some (aN (.inr V0) []) from((fH uC rI (42,n_2,rJ) DR rfl rfl):ev 103 _ _=some _).trans (congrArg (λz=>some (aN z [])) DS))]⟩
  ·have abQ:=ne_of_beq_false KK;refine⟨⟨.inr (7),⟨((λv hv=>by cases hv)),λw hw=>Sum.inr.inj hw▸(show(7:Int)≠0 by decide)⟩⟩,kf ah [oZ,oY (show([43,45,42]:List UInt8)[2]?=some 42 from rfl),oE lS,oC (show ev 52 [.t (aA cm j8 n_2 s_2 iY b8 eo),.t (.int .u8 1)] []=some (aN (.inl (aA cm j8 n_2 s_2 iY b8 eo)) []) from bC _ _ _ (by show some (aN (cond ((cm==1)) _ _) [])=_;rw[Et];rfl)),oE uP,oC (show ev 52 [.t (aA eC ou rJ Bi p0 fh gW),.t (.int .u8 1)] []=some (aN (.inr (7)) []) from bC _ _ _ (by show some (aN (cond ((eC==1)) _ _) [])=_;rw[KK];rfl))]⟩
 ·have abP:=ne_of_beq_false Et;obtain⟨e9,ME⟩:=dr l 1;have vA:=(h2 e9 (fW ME));obtain⟨AI,MK,XX,XY,ML,xd,AJ,rfl,DG,Ig,Ih,Ii,Ij,Ik⟩:=T.aB vA;refine⟨⟨.inr (7),⟨((λv hv=>by cases hv)),λw hw=>Sum.inr.inj hw▸(show(7:Int)≠0 by decide)⟩⟩,kf ah [oZ,oY (show([43,45,42]:List UInt8)[2]?=some 42 from rfl),oE lS,oC (show ev 52 [.t (aA cm j8 n_2 s_2 iY b8 eo),.t (.int .u8 1)] []=some (aN (.inr (7)) []) from bC _ _ _ (by show some (aN (cond ((cm==1)) _ _) [])=_;rw[Et];rfl)),oE ME]⟩
theorem OL (m:Int)(q:Sc)(e:Tree)(l:List Tree)(h0:T .aG e)(h1:l.length<=4194304)(h2:∀y∈l,T .av y)(h3:2<=l.length)(h4:fu e=24\/fu e=25\/fu e=26):∃r:{r:Tree ⊕ Int //(∀v,r=.inl v->jh (jR l 0)=1/\jh (jR l 1)=1/\∃n,v=nt n/\(fu e=24->n=IntKind.wrap .i64 (Cm (jR l 0)+Cm (jR l 1)))/\(fu e=25->n=IntKind.wrap .i64 (Cm (jR l 0) - Cm (jR l 1))))/\∀w,r=.inr w->w≠0},ai (cf m) 66 [.ptr (.arg 0) 0,.t e,.t (.sl l)] [.cells 63 (aV q)] (aN (r.1) [.cells 63 (aV q)]):=by
 obtain⟨op,n,s,t,ns,ks,rfl,_⟩:=T.bE h0;rcases h4 with h|h|h
 ·obtain rfl:op=24:=h;exact XW m q n s t ns ks l h1 h2 h3
 ·obtain rfl:op=25:=h;exact XZ m q n s t ns ks l h1 h2 h3
 ·obtain rfl:op=26:=h;exact X0 m q n s t ns ks l h1 h2 h3
theorem ajL (m:Int)(q:Sc)(e:Tree)(l:List Tree)(h0:T .aG e)(h1:l.length<=4194304)(h2:∀y∈l,T .av y)(h3:1<=l.length):∃r:{r:Tree ⊕ Int //((∀v,r=.inl v->T .av v))/\∀w,r=.inr w->w≠0},ai (cf m) 59 [.ptr (.arg 0) 0,.t e,.t (.sl l)] [.cells 63 (aV q)] (aN (r.1) [.cells 63 (aV q)]):=by
 have bw:=h0;obtain⟨bX,n_1,s_1,dH,aU,bN,rfl,cL,cF,fQ,dX,fk,eR,jq⟩:=T.bE bw;obtain⟨ev,aK,bC,l6⟩:∃ev,aD (cf m) ev/\Has ev 52 sH/\Has ev 94 (mY (λx=>∃b,x=.bool b) Bh):=⟨_,(aq (jY m) (aq (bT λx h=>by obtain⟨b,rfl⟩:=h;exact qY m b) aF)),au,(az rfl au)⟩;refine AX.start 16 3 Tryz.func59 rfl (by decide) rfl rfl (by decide) ?_;refine AX.frames ?_;obtain⟨e2,jB⟩:=dr l 0;have jd:=(h2 e2 (fW jB));obtain⟨aZ,eS,jx,iu,dn,bq,bH,rfl,r9,sg,uw,ux,uy,uz⟩:=T.aB jd;rcases aM ((aZ==3)) with nS|nS
 ·have Ca:=eq_of_beq nS;refine⟨⟨.inl (aA 0 (dn==dH) 0 [] [] [] []),⟨((λv hv=>by cases hv;exact(iR _))),λw hw=>(by cases hw)⟩⟩,kf ah [oE jB,oC (show ev 52 [.t (aA aZ eS jx iu dn bq bH),.t (.int .u8 3)] []=some (aN (.inl (aA aZ eS jx iu dn bq bH)) []) from bC _ _ _ (by show some (aN (cond ((aZ==3)) _ _) [])=_;rw[nS];rfl)),wg 94 [.t (.bool (dn==dH))] (aA 0 (dn==dH) 0 [] [] [] []) (cO l6 (x:=.bool (dn==dH)) ⟨_,rfl⟩)]⟩
 ·have Ca:=ne_of_beq_false nS;refine⟨⟨.inr (7),⟨((λv hv=>by cases hv)),λw hw=>Sum.inr.inj hw▸(show(7:Int)≠0 by decide)⟩⟩,kf ah [oE jB,oC (show ev 52 [.t (aA aZ eS jx iu dn bq bH),.t (.int .u8 3)] []=some (aN (.inr (7)) []) from bC _ _ _ (by show some (aN (cond ((aZ==3)) _ _) [])=_;rw[nS];rfl))]⟩
theorem DT (m:Int)(q:Sc)(e:Tree)(l:List Tree)(h0:T .aG e)(h1:l.length<=4194304)(h2:∀y∈l,T .av y):∃r:{r:Tree ⊕ Int //((∀v,r=.inl v->T .av v))/\∀w,r=.inr w->w≠0},ai (cf m) 53 [.ptr (.arg 0) 0,.t e,.t (.sl l)] [.cells 63 (aV q)] (aN (r.1) [.cells 63 (aV q)]):=by
 have bw:=h0;obtain⟨bX,n_1,s_1,dH,aU,bN,rfl,cL,cF,fQ,dX,fk,eR,jq⟩:=T.bE bw;obtain⟨ev,aK,l6,RJ⟩:∃ev,aD (cf m) ev/\Has ev 94 (mY (λx=>∃b,x=.bool b) Bh)/\Has ev 95 (mY (λx=>∃t s,x=.agg [.str t,.str s]) afA):=⟨_,(aq (bT λx h=>by obtain⟨b,rfl⟩:=h;exact qY m b) (aq (bT λx h=>by obtain⟨t,s,rfl⟩:=h;exact VZ m t s) aF)),au,(az rfl au)⟩;refine AX.start 31 3 Tryz.func53 rfl (by decide) rfl rfl (by decide) ?_;refine AX.frames ?_;rcases aM ((bX==1)) with cq|cq
 ·have jP:=eq_of_beq cq;refine⟨⟨.inl (aA 0 (n_1==1) 0 [] [] [] []),⟨((λv hv=>by cases hv;exact(iR _))),λw hw=>(by cases hw)⟩⟩,kf ah [oB cq,wg 94 [.t (.bool (n_1==1))] (aA 0 (n_1==1) 0 [] [] [] []) (cO l6 (x:=.bool (n_1==1)) ⟨_,rfl⟩)]⟩
 ·have jP:=ne_of_beq_false cq;rcases aM ((bX==2)) with bK|bK
  ·have mH:=eq_of_beq bK;refine⟨⟨.inl (aA 1 false n_1 [] [] [] []),⟨((λv hv=>by cases hv;exact .av _ _ _ _ _ _ _ (by first|assumption|(simp;done)) (by first|assumption|(simp;done)) (by simp) (λ_ h=>by cases h) (by simp) (λ_ h=>by cases h))),λw hw=>(by cases hw)⟩⟩,kf ah [oB cq,oB bK]⟩
  ·have mH:=ne_of_beq_false bK;rcases aM ((bX==3)) with gP|gP
   ·have tT:=eq_of_beq gP;refine⟨⟨.inl (aA 2 false 0 s_1 [] [] []),⟨((λv hv=>by cases hv;exact .av _ _ _ _ _ _ _ (by first|assumption|(simp;done)) (by first|assumption|(simp;done)) (by simp) (λ_ h=>by cases h) (by simp) (λ_ h=>by cases h))),λw hw=>(by cases hw)⟩⟩,kf ah [oB cq,oB bK,oB gP]⟩
   ·have tT:=ne_of_beq_false gP;refine⟨⟨.inl (aA 3 false 0 s_1 dH [] []),⟨((λv hv=>by cases hv;exact(OI _ _ (by assumption) (by assumption)))),λw hw=>(by cases hw)⟩⟩,kf ah [oB cq,oB bK,oB gP,wg 95 [.t (.agg [.str dH,.str s_1])] (aA 3 false 0 s_1 dH [] []) (cO RJ (x:=.agg [.str dH,.str s_1]) ⟨_,_,rfl⟩)]⟩
theorem afI (m:Int)(q:Sc)(e:Tree)(l:List Tree)(h0:T .aG e)(h1:l.length<=4194304)(h2:∀y∈l,T .av y)(h3:SD q):∃r:{r:Tree ⊕ Int //((∀v,r=.inl v->T .av v))/\∀w,r=.inr w->w≠0},ai (cf m) 54 [.ptr (.arg 0) 0,.t e,.t (.sl l)] [.cells 63 (aV q)] (aN (r.1) [.cells 63 (aV q)]):=by
 obtain⟨_,hq1,hq2,hq3,Li,hq5,LG⟩:=h3.1;have bw:=h0;obtain⟨bX,n_1,s_1,dH,aU,bN,rfl,cL,cF,fQ,dX,fk,eR,jq⟩:=T.bE bw;obtain⟨ev,aK,RJ⟩:∃ev,aD (cf m) ev/\Has ev 95 (mY (λx=>∃t s,x=.agg [.str t,.str s]) afA):=⟨_,(aq (bT λx h=>by obtain⟨t,s,rfl⟩:=h;exact VZ m t s) aF),au⟩;refine AX.start 38 3 Tryz.func54 rfl (by decide) rfl rfl (by decide) ?_;refine AX.frames ?_;rcases aM ((s_1==[112,114,105,110,99,105,112,97,108])) with cq|cq
 ·have jP:=eq_of_beq cq;refine⟨⟨.inl (aA 3 false 0 q.p2 q.p1 [] []),⟨((λv hv=>by cases hv;exact(OI _ _ (by assumption) (by assumption)))),λw hw=>(by cases hw)⟩⟩,kf ah [oB cq,wg 95 [.t (.agg [.str q.p1,.str q.p2])] (aA 3 false 0 q.p2 q.p1 [] []) (cO RJ (x:=.agg [.str q.p1,.str q.p2]) ⟨_,_,rfl⟩)]⟩
 ·have jP:=ne_of_beq_false cq;rcases aM ((s_1==[97,99,116,105,111,110])) with bK|bK
  ·have mH:=eq_of_beq bK;refine⟨⟨.inl (aA 3 false 0 q.a2 q.a1 [] []),⟨((λv hv=>by cases hv;exact(OI _ _ (by assumption) (by assumption)))),λw hw=>(by cases hw)⟩⟩,kf ah [oB cq,oB bK,wg 95 [.t (.agg [.str q.a1,.str q.a2])] (aA 3 false 0 q.a2 q.a1 [] []) (cO RJ (x:=.agg [.str q.a1,.str q.a2]) ⟨_,_,rfl⟩)]⟩
  ·have mH:=ne_of_beq_false bK;rcases aM ((s_1==[114,101,115,111,117,114,99,101])) with gP|gP
   ·have tT:=eq_of_beq gP;refine⟨⟨.inl (aA 3 false 0 q.r2 q.r1 [] []),⟨((λv hv=>by cases hv;exact(OI _ _ (by assumption) (by assumption)))),λw hw=>(by cases hw)⟩⟩,kf ah [oB cq,oB bK,oB gP,wg 95 [.t (.agg [.str q.r1,.str q.r2])] (aA 3 false 0 q.r2 q.r1 [] []) (cO RJ (x:=.agg [.str q.r1,.str q.r2]) ⟨_,_,rfl⟩)]⟩
   ·have tT:=ne_of_beq_false gP;refine⟨⟨.inl (aA q.k q.b q.n q.s q.t q.ns q.l),⟨((λv hv=>by cases hv;exact h3.1.1)),λw hw=>(by cases hw)⟩⟩,kf ah [oB cq,oB bK,oB gP]⟩
theorem ahJ {m:Int}:Ml (cf m).P 30 32 ana:=⟨⟨_,KJ,rfl⟩,ajI,_,rfl,by decide,rfl,by decide⟩
theorem Fz {m:Int}:pH (cf m).P 32 5=some 5:=by kernel_rfl
theorem FZ {m:Int}:pH (cf m).P 32 6=some 6:=by kernel_rfl
theorem j9 {l:List Tree}(h:∀y∈l,T .string y):eP false 1 l:=λy hy=>by
 obtain⟨v,rfl,_⟩:=T.bF (h y hy);exact⟨rfl,rfl,rfl⟩
theorem aH {l:List Tree}(h:∀y∈l,T .av y):eP true 7 l:=λy hy=>by
 obtain⟨kind,b_,n,s,t_,names,list,rfl,_,_,_,_,_,_⟩:=T.aB (h y hy);exact⟨rfl,rfl,rfl⟩
theorem afJ {m:Int}{ev:bt}(aK:aD (cf m) ev):ai (cf m) 49 [.t (.sl [])] [] (.ret (.t (.sl [])) [] []):=by
 refine qC 8 1 Tryz.func49 rfl (by decide) rfl rfl (by decide) ?_;refine AW.seq ?_;refine AW.region ?_;refine iN.go (f:=0) aK (by first|exact iJ rfl|exact aL rfl) ?_;refine iN.nil ?_;refine AW.seq ?_;refine AW.seq ?_;refine AW.region ?_;refine iN.go (f:=0) aK (by first|exact nA rfl|exact aJ rfl) ?_;refine iN.Xe rfl rfl qf rfl (λb hb=> ?_);refine iN.nil ?_;refine AW.cond rfl (λh4=> ?_) (λh4=> ?_)
 ·refine AW.seq ?_;refine AW.region ?_;refine iN.go (f:=0) aK (by first|exact iJ rfl|exact aL rfl) ?_;refine iN.nil ?_;refine AW.ret ?_;exact .inl rfl
 ·refine AW.skip ?_;refine AW.seq ?_;refine AW.region ?_;refine iN.go (f:=0) aK (E8 rfl qf rfl qW rfl rfl) ?_;refine iN.go (f:=0) aK (by first|exact nA rfl|exact aJ rfl) ?_;refine iN.go (f:=0) aK (Tg Vh rfl rfl (.inl (.inl rfl)) (.inr (.inr ⟨_,rfl⟩))) ?_;refine iN.go (f:=0) aK (by first|exact iJ rfl|exact aL rfl) ?_;refine iN.nil ?_;refine AW.ret ?_;exact .inl rfl
theorem afK {m:Int}{ev:bt}(aK:aD (cf m) ev)(es:List Tree)(hne:es≠ [])(hu:eP false 1 es)(hl:es.length<=4194304):
 ai (cf m) 49 [.t (.sl es)] [] (.ret (.ref (.loc [5]) 0 es.length) [] [(.loc [5],.arr (9,false) 1 false ((flat es).map .t))]):=by
 refine qC 8 1 Tryz.func49 rfl (by decide) rfl rfl (by decide) ?_
 refine AW.seq ?_
 refine AW.region ?_
 refine iN.go (f:=0) aK (by first|exact iJ rfl|exact aL rfl) ?_
 refine iN.nil ?_
 refine AW.seq ?_
 refine AW.seq ?_
 refine AW.region ?_
 refine iN.go (f:=0) aK (by first|exact nA rfl|exact aJ rfl) ?_
 refine iN.Xe rfl rfl qf rfl (λb hb=> ?_)
 have hb:=hb hne
 subst hb
 refine iN.nil ?_
 refine AW.cond rfl (λh=>absurd h (by decide)) (λh=> ?_)
 refine AW.skip ?_
 refine AW.seq ?_
 refine AW.region ?_
 refine iN.go (f:=0) aK (E8 rfl qf rfl qW rfl rfl) ?_
 refine iN.go (f:=0) aK (by first|exact nA rfl|exact aJ rfl) ?_
 refine iN.go (f:=0) aK (Tf Vh rfl rfl (.inl rfl) hu hne (by show es.length*16<=70368744177664;omega)) ?_
 refine iN.go (f:=0) aK (by first|exact iJ rfl|exact aL rfl) ?_
 refine iN.nil ?_
 refine AW.ret ?_
 exact .inr (NR rfl rfl rfl)
def vB:List TV->List aP->Option bh:=λas' os=>match as',os with
 | [.t (.sl [])],[]=>some (.ret (.t (.sl [])) [] [])
 | [.t (.sl (e::es))],[]=> @ite _ (eP false 1 (e::es)/\(e::es).length<=4194304) (Classical.propDecidable _) (some (.ret (.ref (.loc [5]) 0 (e::es).length) [] [(.loc [5],.arr (9,false) 1 false ((flat (e::es)).map .t))])) none
 |_,_=>none
theorem yg (m:Int):kQ (cf m) 49 vB:=λargs bu r h=>by
 unfold vB at h;split at h
 ·cases h;exact afJ aF
 ·split at h
  ·rename_i hc;cases h;exact afK aF _ (by simp) hc.1 hc.2
  ·cases h
 ·cases h
theorem KL {ev:bt}(h:Has ev 49 vB){es:List Tree}(hne:es≠ [])(hu:eP false 1 es)(hl:es.length<=4194304):ev 49 [.t (.sl es)] []=some (.ret (.ref (.loc [5]) 0 es.length) [] [(.loc [5],.arr (9,false) 1 false ((flat es).map .t))]):=by
 cases es with
 |nil=>exact absurd rfl hne
 |cons e es=>exact h _ _ _ (by unfold vB;exact if_pos ⟨hu,hl⟩)
theorem abS {m:Int}{ev:bt}(aK:aD (cf m) ev):ai (cf m) 50 [.t (.sl [])] [] (.ret (.t (.sl [])) [] []):=by
 refine qC 8 1 Tryz.func50 rfl (by decide) rfl rfl (by decide) ?_;refine AW.seq ?_;refine AW.region ?_;refine iN.go (f:=0) aK (by first|exact iJ rfl|exact aL rfl) ?_;refine iN.nil ?_;refine AW.seq ?_;refine AW.seq ?_;refine AW.region ?_;refine iN.go (f:=0) aK (by first|exact nA rfl|exact aJ rfl) ?_;refine iN.Xe rfl rfl KJ rfl (λb hb=> ?_);refine iN.nil ?_;refine AW.cond rfl (λh4=> ?_) (λh4=> ?_)
 ·refine AW.seq ?_;refine AW.region ?_;refine iN.go (f:=0) aK (by first|exact iJ rfl|exact aL rfl) ?_;refine iN.nil ?_;refine AW.ret ?_;exact .inl rfl
 ·refine AW.skip ?_;refine AW.seq ?_;refine AW.region ?_;refine iN.go (f:=0) aK (E8 rfl KJ rfl ajI rfl rfl) ?_;refine iN.go (f:=0) aK (by first|exact nA rfl|exact aJ rfl) ?_;refine iN.go (f:=0) aK (Tg ahJ rfl rfl (.inl (.inl rfl)) (.inr (.inr ⟨_,rfl⟩))) ?_;refine iN.go (f:=0) aK (by first|exact iJ rfl|exact aL rfl) ?_;refine iN.nil ?_;refine AW.ret ?_;exact .inl rfl
theorem abT {m:Int}{ev:bt}(aK:aD (cf m) ev)(es:List Tree)(hne:es≠ [])(hu:eP true 7 es)(hl:es.length<=4194304):
 ai (cf m) 50 [.t (.sl es)] [] (.ret (.ref (.loc [5]) 0 es.length) [] [(.loc [5],.arr (32,true) 7 false ((flat es).map .t))]):=by
 refine qC 8 1 Tryz.func50 rfl (by decide) rfl rfl (by decide) ?_
 refine AW.seq ?_
 refine AW.region ?_
 refine iN.go (f:=0) aK (by first|exact iJ rfl|exact aL rfl) ?_
 refine iN.nil ?_
 refine AW.seq ?_
 refine AW.seq ?_
 refine AW.region ?_
 refine iN.go (f:=0) aK (by first|exact nA rfl|exact aJ rfl) ?_
 refine iN.Xe rfl rfl KJ rfl (λb hb=> ?_)
 have hb:=hb hne
 subst hb
 refine iN.nil ?_
 refine AW.cond rfl (λh=>absurd h (by decide)) (λh=> ?_)
 refine AW.skip ?_
 refine AW.seq ?_
 refine AW.region ?_
 refine iN.go (f:=0) aK (E8 rfl KJ rfl ajI rfl rfl) ?_
 refine iN.go (f:=0) aK (by first|exact nA rfl|exact aJ rfl) ?_
 refine iN.go (f:=0) aK (Tf ahJ rfl rfl (.inl rfl) hu hne (by show es.length*96<=70368744177664;omega)) ?_
 refine iN.go (f:=0) aK (by first|exact iJ rfl|exact aL rfl) ?_
 refine iN.nil ?_
 refine AW.ret ?_
 exact .inr (NR rfl rfl rfl)
def nu:List TV->List aP->Option bh:=λas' os=>match as',os with
 | [.t (.sl [])],[]=>some (.ret (.t (.sl [])) [] [])
 | [.t (.sl (e::es))],[]=> @ite _ (eP true 7 (e::es)/\(e::es).length<=4194304) (Classical.propDecidable _) (some (.ret (.ref (.loc [5]) 0 (e::es).length) [] [(.loc [5],.arr (32,true) 7 false ((flat (e::es)).map .t))])) none
 |_,_=>none
theorem om (m:Int):kQ (cf m) 50 nu:=λargs bu r h=>by
 unfold nu at h;split at h
 ·cases h;exact abS aF
 ·split at h
  ·rename_i hc;cases h;exact abT aF _ (by simp) hc.1 hc.2
  ·cases h
 ·cases h
theorem zX {ev:bt}(h:Has ev 50 nu){es:List Tree}(hne:es≠ [])(hu:eP true 7 es)(hl:es.length<=4194304):ev 50 [.t (.sl es)] []=some (.ret (.ref (.loc [5]) 0 es.length) [] [(.loc [5],.arr (32,true) 7 false ((flat es).map .t))]):=by
 cases es with
 |nil=>exact absurd rfl hne
 |cons e es=>exact h _ _ _ (by unfold nu;exact if_pos ⟨hu,hl⟩)
theorem afL (m:Int)(k:Int)(b:Bool)(n:Int)(s t:List UInt8)(hO:∀x,x∈([]:List Tree)->R1 (cf m) 26 x x):R1 (cf m) 26 (aA k b n s t [] []) (aA k b n s t [] []):=by
 obtain⟨ev,aK,uD,kJ⟩:∃ev,aD (cf m) ev/\Has ev 49 vB/\Has ev 50 nu:=⟨_,(aq (yg m) (aq (om m) aF)),au,(az rfl au)⟩;refine ai.gO ?_;refine AX.start 30 1 Tryz.func26 rfl (by decide) rfl rfl (by decide) ?_;refine AX.frames ?_;exact⟨(),qH ah 0 [3] [wg 49 [.t (.sl [])] (.sl []) (uD _ _ _ rfl),wg 50 [.t (.sl [])] (.sl []) (kJ _ _ _ rfl),oF]⟩
theorem afM (m:Int)(k:Int)(b:Bool)(n:Int)(s t:List UInt8)(ls:List Tree)(abU:ls≠ [])(ll:ls.length<=4194304)(hl:∀y∈ls,T .av y)(hO:∀x,x∈ls->R1 (cf m) 26 x x):R1 (cf m) 26 (aA k b n s t [] ls) (aA k b n s t [] ls):=by
 obtain⟨ev,aK,uD,kJ,GX⟩:∃ev,aD (cf m) ev/\Has ev 49 vB/\Has ev 50 nu/\Has ev 26 (mY (λx=>x∈ls) (λx=>x)):=⟨_,(aq (yg m) (aq (om m) (aq (bT hO) aF))),au,(az rfl au),(az rfl (az rfl au))⟩;refine ai.gO ?_;refine AX.start 30 1 Tryz.func26 rfl (by decide) rfl rfl (by decide) ?_;refine AX.frames ?_;refine kAt (f:=0) (n:=3000) (once:=[]) (k:=30) (T:=2) (S:=[.loc [0],.loc [1]]) (ks:=[.loc [0],.loc [1]]) (live:=[1,2]) ah aK (Tryz.f26.body.getD .skip) 1 rfl (⟨eD 30 [(1,.ptr (.loc [0]) 0),(2,.ptr (.loc [1]) 0)],[(.loc [0],.cells 32 (cI k b n s t [] ls)),(.loc [1],.cells 32 [.t (.int .u8 0),.t (.bool false),.t (.int .i64 0),.t (.str []),.t (.str []),.bW,.bW])],2⟩) [] (by kernel_rfl) ?_;refine AX.draw (f:=0) ah aK ?_;refine aW.go rfl (eE rfl Fz rfl) ?_;refine aW.go rfl (mQ rfl (ld qf rfl rfl)) ?_;refine aW.go rfl (iB (LA rfl) (uD _ _ _ rfl)) ?_;refine aW.go rfl (eE rfl FZ rfl) ?_;refine aW.go rfl (mQ rfl (ld KJ rfl rfl)) ?_;refine aW.go rfl (CV (LA rfl) (zX kJ abU (aH hl) (by assumption)) rfl zl) ?_;refine aW.go rfl (eE rfl Fz rfl) ?_;refine aW.Sz rfl (pG rfl rfl (Zq qf rfl rfl)) ?_;refine aW.go rfl (eE rfl FZ rfl) ?_;refine aW.Sz rfl (pG rfl rfl (Zq KJ rfl rfl)) ?_;refine aW.nil (gN rfl rfl ?_);refine kl (α:=Nat) ah 0 [] 30 3 [.loc [0],.loc [1],.loc [7,5]] [.loc [0],.loc [1],.loc [7,5]] [1,2,14,15] (λx=>⟨eD 30 [(1,.ptr (.loc [0]) 0),(2,.ptr (.loc [1]) 0),(14,.t (.int .i64 ((ls.length:Nat):Int))),(15,.t (.int .i64 ((x:Nat):Int)))],[(.loc [0],.cells 32 [.t (.int .u8 k),.t (.bool b),.t (.int .i64 n),.t (.str s),.t (.str t),.t (.sl []),.ref (.loc [2]) 0 ls.length]),(.loc [1],.cells 32 [.t (.int .u8 0),.t (.bool false),.t (.int .i64 0),.t (.str []),.t (.str []),.bW,.bW]),(.loc [2],.arr (32,true) 7 false ((flat ls).map .t))],3⟩) (λx=>(x<=ls.length)) (λx=>ls.length - x) 0 (j6 (Tryz.f26.body.getD .skip) 3) [cZ 32 7 ls] (by show(0<=ls.length);first|trivial|omega|(refine⟨?_, ?_⟩<;>first|omega|exact SM.nil)|simp) (λx hok=> ?_);obtain⟨i_1,zB⟩:∃y,y=x:=⟨x,rfl⟩;subst zB;replace hok:(i_1<=ls.length):=hok;have cM:=hok;rcases aM (decide (((i_1:Nat):Int)<((ls.length:Nat):Int))) with cq|cq
 ·have jP:=of_decide_eq_true cq;obtain⟨e3,lU⟩:=dr ls i_1;have mI:=(hl e3 (fW lU));obtain⟨nQ,BQ,yz,yA,BR,kz,mS,rfl,qM,rU,BS,zF,BT,BU⟩:=T.aB mI;exact⟨.inl ⟨i_1+1,⟨(by show(i_1+1)<=ls.length;omega),(by show(ls.length - (i_1+1))<(ls.length - i_1);omega)⟩⟩,kr ah 30 3 [.loc [0],.loc [1],.loc [2]] [1,2,14,15] [oB cq,oW true 7 ls (aH hl),oH lU,oQ ls,oO (kC (m:=7) (i:=i_1) (j:=0) (eP.lens (aH hl)) lU (by decide)),oC (cO GX (x:=(aA nQ BQ yz yA BR kz mS)) (fW lU)),oW true 7 ls (aH hl),oH lU,oQ ls,oR _ _ (zx (j:=0) (m:=7) (eP.lens (aH hl)) lU (by decide)),oK (HW (j:=0) (m:=7) (eP.lens (aH hl)) lU (by decide)),oI (i_1) (by omega),cZ 32 7 ls]⟩
 ·have jP:=of_decide_eq_false cq;refine kx ah [oB cq] ?_;exact⟨(),kf ah [oW true 7 ls (aH hl)]⟩
theorem afN (m:Int)(k:Int)(b:Bool)(n:Int)(s t:List UInt8)(ns:List Tree)(ajM:ns≠ [])(ln:ns.length<=4194304)(hn:∀y∈ns,T .string y)(hO:∀x,x∈([]:List Tree)->R1 (cf m) 26 x x):R1 (cf m) 26 (aA k b n s t ns []) (aA k b n s t ns []):=by
 obtain⟨ev,aK,uD,kJ⟩:∃ev,aD (cf m) ev/\Has ev 49 vB/\Has ev 50 nu:=⟨_,(aq (yg m) (aq (om m) aF)),au,(az rfl au)⟩;refine ai.gO ?_;refine AX.start 30 1 Tryz.func26 rfl (by decide) rfl rfl (by decide) ?_;refine AX.frames ?_;refine kAt (f:=0) (n:=3000) (once:=[]) (k:=30) (T:=2) (S:=[.loc [0],.loc [1]]) (ks:=[.loc [0],.loc [1]]) (live:=[1,2]) ah aK (Tryz.f26.body.getD .skip) 1 rfl (⟨eD 30 [(1,.ptr (.loc [0]) 0),(2,.ptr (.loc [1]) 0)],[(.loc [0],.cells 32 (cI k b n s t ns [])),(.loc [1],.cells 32 [.t (.int .u8 0),.t (.bool false),.t (.int .i64 0),.t (.str []),.t (.str []),.bW,.bW])],2⟩) [] (by kernel_rfl) ?_;refine AX.draw (f:=0) ah aK ?_;refine aW.go rfl (eE rfl Fz rfl) ?_;refine aW.go rfl (mQ rfl (ld qf rfl rfl)) ?_;refine aW.go rfl (CV (LA rfl) (KL uD ajM (j9 hn) (by assumption)) rfl zl) ?_;refine aW.go rfl (eE rfl FZ rfl) ?_;refine aW.go rfl (mQ rfl (ld KJ rfl rfl)) ?_;refine aW.go rfl (iB (LA rfl) (kJ _ _ _ rfl)) ?_;refine aW.go rfl (eE rfl Fz rfl) ?_;refine aW.Sz rfl (pG rfl rfl (Zq qf rfl rfl)) ?_;refine aW.go rfl (eE rfl FZ rfl) ?_;refine aW.Sz rfl (pG rfl rfl (Zq KJ rfl rfl)) ?_;refine aW.nil (gN rfl rfl ?_);exact⟨(),qH ah 0 [3] [oF,oW false 1 ns (j9 hn)]⟩
theorem afO (m:Int)(k:Int)(b:Bool)(n:Int)(s t:List UInt8)(ns:List Tree)(ajM:ns≠ [])(ln:ns.length<=4194304)(hn:∀y∈ns,T .string y)(ls:List Tree)(abU:ls≠ [])(ll:ls.length<=4194304)(hl:∀y∈ls,T .av y)(hO:∀x,x∈ls->R1 (cf m) 26 x x):R1 (cf m) 26 (aA k b n s t ns ls) (aA k b n s t ns ls):=by
 obtain⟨ev,aK,uD,kJ,GX⟩:∃ev,aD (cf m) ev/\Has ev 49 vB/\Has ev 50 nu/\Has ev 26 (mY (λx=>x∈ls) (λx=>x)):=⟨_,(aq (yg m) (aq (om m) (aq (bT hO) aF))),au,(az rfl au),(az rfl (az rfl au))⟩;refine ai.gO ?_;refine AX.start 30 1 Tryz.func26 rfl (by decide) rfl rfl (by decide) ?_;refine AX.frames ?_;refine kAt (f:=0) (n:=3000) (once:=[]) (k:=30) (T:=2) (S:=[.loc [0],.loc [1]]) (ks:=[.loc [0],.loc [1]]) (live:=[1,2]) ah aK (Tryz.f26.body.getD .skip) 1 rfl (⟨eD 30 [(1,.ptr (.loc [0]) 0),(2,.ptr (.loc [1]) 0)],[(.loc [0],.cells 32 (cI k b n s t ns ls)),(.loc [1],.cells 32 [.t (.int .u8 0),.t (.bool false),.t (.int .i64 0),.t (.str []),.t (.str []),.bW,.bW])],2⟩) [] (by kernel_rfl) ?_;refine AX.draw (f:=0) ah aK ?_;refine aW.go rfl (eE rfl Fz rfl) ?_;refine aW.go rfl (mQ rfl (ld qf rfl rfl)) ?_;refine aW.go rfl (CV (LA rfl) (KL uD ajM (j9 hn) (by assumption)) rfl zl) ?_;refine aW.go rfl (eE rfl FZ rfl) ?_;refine aW.go rfl (mQ rfl (ld KJ rfl rfl)) ?_;refine aW.go rfl (CV (LA rfl) (zX kJ abU (aH hl) (by assumption)) rfl zl) ?_;refine aW.go rfl (eE rfl Fz rfl) ?_;refine aW.Sz rfl (pG rfl rfl (Zq qf rfl rfl)) ?_;refine aW.go rfl (eE rfl FZ rfl) ?_;refine aW.Sz rfl (pG rfl rfl (Zq KJ rfl rfl)) ?_;refine aW.nil (gN rfl rfl ?_);refine kl (α:=Nat) ah 0 [] 30 4 [.loc [0],.loc [1],.loc [4,5],.loc [7,5]] [.loc [0],.loc [1],.loc [4,5],.loc [7,5]] [1,2,14,15] (λx=>⟨eD 30 [(1,.ptr (.loc [0]) 0),(2,.ptr (.loc [1]) 0),(14,.t (.int .i64 ((ls.length:Nat):Int))),(15,.t (.int .i64 ((x:Nat):Int)))],[(.loc [0],.cells 32 [.t (.int .u8 k),.t (.bool b),.t (.int .i64 n),.t (.str s),.t (.str t),.ref (.loc [2]) 0 ns.length,.ref (.loc [3]) 0 ls.length]),(.loc [1],.cells 32 [.t (.int .u8 0),.t (.bool false),.t (.int .i64 0),.t (.str []),.t (.str []),.bW,.bW]),(.loc [2],.arr (9,false) 1 false ((flat ns).map .t)),(.loc [3],.arr (32,true) 7 false ((flat ls).map .t))],4⟩) (λx=>(x<=ls.length)) (λx=>ls.length - x) 0 (j6 (Tryz.f26.body.getD .skip) 3) [oN (o:=.arr (9,false) 1 false ((flat ns).map .t)) (λ_=>kY),cZ 32 7 ls] (by show(0<=ls.length);first|trivial|omega|(refine⟨?_, ?_⟩<;>first|omega|exact SM.nil)|simp) (λx hok=> ?_);obtain⟨i_1,zB⟩:∃y,y=x:=⟨x,rfl⟩;subst zB;replace hok:(i_1<=ls.length):=hok;have cM:=hok;rcases aM (decide (((i_1:Nat):Int)<((ls.length:Nat):Int))) with cq|cq
 ·have jP:=of_decide_eq_true cq;obtain⟨e3,lU⟩:=dr ls i_1;have mI:=(hl e3 (fW lU));obtain⟨nQ,BQ,yz,yA,BR,kz,mS,rfl,qM,rU,BS,zF,BT,BU⟩:=T.aB mI;exact⟨.inl ⟨i_1+1,⟨(by show(i_1+1)<=ls.length;omega),(by show(ls.length - (i_1+1))<(ls.length - i_1);omega)⟩⟩,kr ah 30 4 [.loc [0],.loc [1],.loc [2],.loc [3]] [1,2,14,15] [oB cq,oW true 7 ls (aH hl),oH lU,oQ ls,oO (kC (m:=7) (i:=i_1) (j:=0) (eP.lens (aH hl)) lU (by decide)),oC (cO GX (x:=(aA nQ BQ yz yA BR kz mS)) (fW lU)),oW true 7 ls (aH hl),oH lU,oQ ls,oR _ _ (zx (j:=0) (m:=7) (eP.lens (aH hl)) lU (by decide)),oK (HW (j:=0) (m:=7) (eP.lens (aH hl)) lU (by decide)),oI (i_1) (by omega),oN (o:=.arr (9,false) 1 false ((flat ns).map .t)) (λ_=>kY),cZ 32 7 ls]⟩
 ·have jP:=of_decide_eq_false cq;refine kx ah [oB cq] ?_;exact⟨(),kf ah [oW false 1 ns (j9 hn),oW true 7 ls (aH hl)]⟩
theorem V1 (m:Int):∀x,T .av x->R1 (cf m) 26 x x:=by
 have key:∀(k:K) (x:Tree),T k x->k=.av->R1 (cf m) 26 x x:=by
  intro k x h;induction h with
  |av k1 b1 n1 s1 t1 N1 L1 hs ht h0 h1 h2 h3 _ ih=>
   intro _
   have hO:∀x,x∈L1->R1 (cf m) 26 x x:=λx hx=>ih x hx rfl
   rcases N1 with _|⟨a,N⟩<;>rcases L1 with _|⟨c,L⟩
   · exact afL m k1 b1 n1 s1 t1 hO
   · exact afM m k1 b1 n1 s1 t1 _ (by simp) h2 h3 hO
   · exact afN m k1 b1 n1 s1 t1 _ (by simp) h0 h1 hO
   · exact afO m k1 b1 n1 s1 t1 _ (by simp) h0 h1 _ (by simp) h2 h3 hO
  |_=>exactλe=>(by cases e)
 exactλx h=>key _ x h rfl
theorem afP {m:Int}{ev:bt}(aK:aD (cf m) ev):ai (cf m) 49 [.t (.sl [])] [] (.ret (.t (.sl [])) [] []):=by
 refine qC 8 1 Tryz.func49 rfl (by decide) rfl rfl (by decide) ?_;refine AW.seq ?_;refine AW.region ?_;refine iN.go (f:=0) aK (by first|exact iJ rfl|exact aL rfl) ?_;refine iN.nil ?_;refine AW.seq ?_;refine AW.seq ?_;refine AW.region ?_;refine iN.go (f:=0) aK (by first|exact nA rfl|exact aJ rfl) ?_;refine iN.Xe rfl rfl qf rfl (λb hb=> ?_);refine iN.nil ?_;refine AW.cond rfl (λh4=> ?_) (λh4=> ?_)
 ·refine AW.seq ?_;refine AW.region ?_;refine iN.go (f:=0) aK (by first|exact iJ rfl|exact aL rfl) ?_;refine iN.nil ?_;refine AW.ret ?_;exact .inl rfl
 ·refine AW.skip ?_;refine AW.seq ?_;refine AW.region ?_;refine iN.go (f:=0) aK (E8 rfl qf rfl qW rfl rfl) ?_;refine iN.go (f:=0) aK (by first|exact nA rfl|exact aJ rfl) ?_;refine iN.go (f:=0) aK (Tg Vh rfl rfl (.inl (.inl rfl)) (.inr (.inr ⟨_,rfl⟩))) ?_;refine iN.go (f:=0) aK (by first|exact iJ rfl|exact aL rfl) ?_;refine iN.nil ?_;refine AW.ret ?_;exact .inl rfl
theorem afQ {m:Int}{ev:bt}(aK:aD (cf m) ev)(es:List Tree)(hne:es≠ [])(hu:eP false 1 es)(hl:es.length<=4194304):
 ai (cf m) 49 [.t (.sl es)] [] (.ret (.t (.sl es)) [] []):=by
 refine qC 8 1 Tryz.func49 rfl (by decide) rfl rfl (by decide) ?_
 refine AW.seq ?_
 refine AW.region ?_
 refine iN.go (f:=0) aK (by first|exact iJ rfl|exact aL rfl) ?_
 refine iN.nil ?_
 refine AW.seq ?_
 refine AW.seq ?_
 refine AW.region ?_
 refine iN.go (f:=0) aK (by first|exact nA rfl|exact aJ rfl) ?_
 refine iN.Xe rfl rfl qf rfl (λb hb=> ?_)
 have hb:=hb hne
 subst hb
 refine iN.nil ?_
 refine AW.cond rfl (λh=>absurd h (by decide)) (λh=> ?_)
 refine AW.skip ?_
 refine AW.seq ?_
 refine AW.region ?_
 refine iN.go (f:=0) aK (E8 rfl qf rfl qW rfl rfl) ?_
 refine iN.go (f:=0) aK (by first|exact nA rfl|exact aJ rfl) ?_
 refine iN.go (f:=0) aK (Tf Vh rfl rfl (.inl rfl) hu hne (by show es.length*16<=70368744177664;omega)) ?_
 refine iN.go (f:=0) aK (by first|exact iJ rfl|exact aL rfl) ?_
 refine iN.nil ?_
 refine AW.ret ?_
 exact .inl (Zw rfl (Qe rfl hu (by decide) rfl rfl))
theorem ajN (m:Int):∀x,T .cB x->R1 (cf m) 49 x x:=λx hx=>by
 obtain⟨l,rfl,hl,h2⟩:=T.mF hx;by_cases h:l=[]
 ·subst h;exact afP aF
 ·exact afQ aF l h (j9 h2) hl
theorem abV (m:Int)(hO:∀x,x∈([]:List Tree)->R1 (cf m) 189 (.sl (lsV x)) (.sl (lsV x))):R1 (cf m) 189 (.sl []) (.sl []):=by
 obtain⟨ev,aK,kJ⟩:∃ev,aD (cf m) ev/\Has ev 50 nu:=⟨_,(aq (om m) aF),au⟩;refine ai.gO ?_;refine AX.start 33 1 Tryz.func189 rfl (by decide) rfl rfl (by decide) ?_;refine AX.frames ?_;exact⟨(),qH ah 64 [3] [wg 50 [.t (.sl [])] (.sl []) (kJ _ _ _ rfl),oF]⟩
theorem abW (m:Int)(ls:List Tree)(abU:ls≠ [])(ll:ls.length<=4194304)(hl:∀y∈ls,T .av y)(hO:∀x,x∈ls->R1 (cf m) 189 (.sl (lsV x)) (.sl (lsV x))):R1 (cf m) 189 (.sl ls) (.sl ls):=by
 obtain⟨ev,aK,kJ,anf,GX⟩:∃ev,aD (cf m) ev/\Has ev 50 nu/\Has ev 49 (mY (T .cB) (λx=>x))/\Has ev 189 (mY (λx=>∃y,y∈ls/\x=.sl (lsV y)) (λx=>x)):=⟨_,(aq (om m) (aq (bT (ajN m)) (aq (bT (λx h=>by obtain⟨y,hy,rfl⟩:=h;exact hO y hy)) aF))),au,(az rfl au),(az rfl (az rfl au))⟩;refine ai.gO ?_;refine AX.start 33 1 Tryz.func189 rfl (by decide) rfl rfl (by decide) ?_;refine AX.frames ?_;refine kAt (f:=64) (n:=3000) (once:=[]) (k:=33) (T:=0) (S:=[]) (ks:=[]) (live:=[0,2]) ah aK (Tryz.f189.body.getD .skip) 1 rfl (⟨eD 33 [(0,.t (.sl ls)),(2,.bW)],[],0⟩) [] (by kernel_rfl) ?_;refine AX.region ?_;refine aO.go (f:=0) aK (aJ rfl) ?_;refine aO.go (f:=0) aK (CV (LA rfl) (zX kJ abU (aH hl) (by assumption)) rfl zl) ?_;refine aO.go (f:=0) aK (aL rfl) ?_;refine aO.nil ?_;refine kl (α:=Nat) ah 64 [] 33 1 [.loc [1,5]] [.loc [1,5]] [0,7,8] (λx=>⟨eD 33 [(0,.ref (.loc [0]) 0 ls.length),(7,.t (.int .i64 ((ls.length:Nat):Int))),(8,.t (.int .i64 ((x:Nat):Int)))],[(.loc [0],.arr (32,true) 7 false ((flat ls).map .t))],1⟩) (λx=>(x<=ls.length)) (λx=>ls.length - x) 0 (j6 (Tryz.f189.body.getD .skip) 3) [cZ 32 7 ls] (by show(0<=ls.length);first|trivial|omega|(refine⟨?_, ?_⟩<;>first|omega|exact SM.nil)|simp) (λx hok=> ?_);obtain⟨i_1,zB⟩:∃y,y=x:=⟨x,rfl⟩;subst zB;replace hok:(i_1<=ls.length):=hok;have cM:=hok;rcases aM (decide (((i_1:Nat):Int)<((ls.length:Nat):Int))) with cq|cq
 ·have jP:=of_decide_eq_true cq;obtain⟨e3,lU⟩:=dr ls i_1;have mI:=(hl e3 (fW lU));obtain⟨nQ,BQ,yz,yA,BR,kz,mS,rfl,qM,rU,BS,zF,BT,BU⟩:=T.aB mI;exact⟨.inl ⟨i_1+1,⟨(by show(i_1+1)<=ls.length;omega),(by show(ls.length - (i_1+1))<(ls.length - i_1);omega)⟩⟩,vS ah 64 [] 33 1 [.loc [0]] [.loc [0]] [0,7,8] [oB cq,oW true 7 ls (aH hl),oH lU,oQ ls,oQ ls,oO (nZ (i:=i_1) (j:=5) (eP.lens (aH hl)) lU rfl),oC (cO anf (x:=.sl kz) (.cB _ cc zF)),oW true 7 ls (aH hl),oH lU,oQ ls,oQ ls,oO (nZ (i:=i_1) (j:=6) (eP.lens (aH hl)) lU rfl),oC (cO GX (x:=.sl mS) ⟨_,fW lU,rfl⟩),oW true 7 ls (aH hl),oH lU,oQ ls,oQ ls,oR _ _ (zx (j:=5) (m:=1) (eP.lens (aH hl)) lU (by decide)),oK (HW (j:=5) (m:=1) (eP.lens (aH hl)) lU (by decide)),oW true 7 ls (aH hl),oH lU,oQ ls,oQ ls,oR _ _ (zx (j:=6) (m:=1) (eP.lens (aH hl)) lU (by decide)),oK (HW (j:=6) (m:=1) (eP.lens (aH hl)) lU (by decide)),oI (i_1) (by omega),cZ 32 7 ls]⟩
 ·have jP:=of_decide_eq_false cq;refine Fi ah 64 [] [oB cq] ?_;exact⟨(),qH ah 64 [] [oW true 7 ls (aH hl)]⟩
theorem afR (m:Int):∀l:List Tree,l.length<=4194304->(∀y∈l,T .av y)->R1 (cf m) 189 (.sl l) (.sl l):=by
 have key:∀(k:K) (x:Tree),T k x->k=.av->R1 (cf m) 189 (.sl (lsV x)) (.sl (lsV x)):=by
  intro k x h;induction h with
  |av k1 b1 n1 s1 t1 N1 L1 hs ht h0 h1 h2 h3 _ ih=>
   intro _
   show R1 (cf m) 189 (.sl L1) (.sl L1)
   have hO:∀x,x∈L1->R1 (cf m) 189 (.sl (lsV x)) (.sl (lsV x)):=λx hx=>ih x hx rfl
   rcases L1 with _|⟨c,L⟩
   · exact abV m hO
   · exact abW m _ (by simp) h2 h3 hO
  |_=>exactλe=>(by cases e)
 intro l hl h;rcases l with _|⟨c,L⟩
 ·exact abV m (λx hx=>by cases hx)
 ·exact abW m _ (by simp) hl h (λx hx=>key _ x (h x hx) rfl)
theorem RL (m:Int):∃F:Tree->Tree->Int,∀x y,(T .cB x/\T .string y)->R2 (cf m) 101 x y (.int .i64 (F x y))/\(True):=by
 refine tO (P:=λx y=>T .cB x/\T .string y) (mk:=λ(r:Int)=>.int .i64 r) (Post:=λx y r=>True) λx y hx=> ?_
 obtain⟨hx,hy⟩:=hx;show ∃r:{r:Int // True},ai (cf m) 101 [.t x,.t y] [] (.ret (.t (.int .i64 r.1)) [] []);have bw:=hx;obtain⟨v_1,rfl,cL,cF⟩:=T.mF bw;have dB:=hy;obtain⟨v_2,rfl,gx⟩:=T.bF dB;obtain⟨ev,aK⟩:∃ev,aD (cf m) ev:=⟨_,aF⟩;refine AX.start 19 2 Tryz.func101 rfl (by decide) rfl rfl (by decide) ?_;refine AX.frames ?_;refine kl (α:=Nat) ah 0 [] 19 0 [] [] [0,1,7,8] (λx=>⟨eD 19 [(0,.t (.sl v_1)),(1,.t (.str v_2)),(7,.t (.int .i64 ((v_1.length:Nat):Int))),(8,.t (.int .i64 ((x:Nat):Int)))],[],0⟩) (λx=>(x<=v_1.length)) (λx=>v_1.length - x) 0 (j6 (Tryz.f101.body.getD .skip) 2) [] (by show(0<=v_1.length);first|trivial|omega|(refine⟨?_, ?_⟩<;>first|omega|exact SM.nil)|simp) (λx hok=> ?_);obtain⟨wT,zB⟩:∃y,y=x:=⟨x,rfl⟩;subst zB;replace hok:(wT<=v_1.length):=hok;have gq:=hok;rcases aM (decide (((wT:Nat):Int)<((v_1.length:Nat):Int))) with gP|gP
 ·have tT:=of_decide_eq_true gP;obtain⟨e5,kA⟩:=dr v_1 wT;have lq:=(cF e5 (fW kA));obtain⟨v_6,rfl,pQ⟩:=T.bF lq;rcases aM ((v_2==v_6)) with gi|gi
  ·have mR:=eq_of_beq gi;refine kx ah [oB gP,oE kA,oB gi] ?_;refine⟨⟨((wT:Nat):Int), ?_⟩,kf ah []⟩;trivial
  ·have mR:=ne_of_beq_false gi;exact⟨.inl ⟨wT+1,⟨(by show(wT+1)<=v_1.length;omega),(by show(v_1.length - (wT+1))<(v_1.length - wT);omega)⟩⟩,kr ah 19 0 [] [0,1,7,8] [oB gP,oE kA,oB gi,oI (wT) (by omega)]⟩
 ·have tT:=of_decide_eq_false gP;refine kx ah [oB gP] ?_;refine⟨⟨-1, ?_⟩,kf ah []⟩;trivial
theorem afS (m:Int)(v:Tree)(n:Tree)(h0:T .av v)(h1:T .string n):∃r:{r:Tree×Int // T .av r.1},ai (cf m) 149 [.t v,.t n] [] (.ret (.t (.bU [(r.1).1,.int .i64 (r.1).2])) [] []):=by
 have bw:=h0;obtain⟨cN,jX,n_1,s_1,dH,aU,dm,rfl,cL,cF,fQ,dX,fk,eR⟩:=T.aB bw;have dB:=h1;obtain⟨v_2,rfl,gx⟩:=T.bF dB;obtain⟨RM,abX⟩:=RL m;obtain⟨ev,aK,MM,ajO⟩:∃ev,aD (cf m) ev/\Has ev 101 (rM (λx y=>T .cB x/\T .string y) (λx y=>.int .i64 (RM x y)))/\Has ev 189 (mY (λx=>∃l:List Tree,x=.sl l/\l.length<=4194304/\∀y∈l,T .av y) (λx=>x)):=⟨_,(aq (dA (λx y h=>(abX x y h).1)) (aq (bT (λx h=>by obtain⟨l,rfl,h1,h2⟩:=h;exact afR m l h1 h2)) aF)),au,(az rfl au)⟩;refine AX.start 34 2 Tryz.func149 rfl (by decide) rfl rfl (by decide) ?_;refine AX.frames ?_;rcases aM ((cN != 5)) with bK|bK
 ·have mH:=dM bK;refine⟨⟨((aA 0 false 0 [] [] [] []),7),(.av _ _ _ _ _ _ _ (by simp) (by simp) (by simp) (λ_ h=>by cases h) (by simp) (λ_ h=>by cases h))⟩,kf ah [oB bK]⟩
 ·have mH:=cC bK;rcases afT:RM (.sl aU) (.str v_2) with KN|KN
  ·rcases aM (decide (((KN:Nat):Int)<0)) with nO|nO
   ·have J1:=of_decide_eq_true nO;refine⟨⟨((aA 0 false 0 [] [] [] []),8),(.av _ _ _ _ _ _ _ (by simp) (by simp) (by simp) (λ_ h=>by cases h) (by simp) (λ_ h=>by cases h))⟩,kf ah ([oB bK,wg 101 [.t (.sl aU),.t (.str v_2)] (.int .i64 ((KN:Nat):Int)) ((eL MM (x:=(.sl aU)) (y:=(.str v_2)) ⟨(.cB _ cc dX),dB⟩).trans (congrArg (λz=>some (bh.ret (.t (.int .i64 z)) [] [])) afT))]++rq 6 (oB nO) ([oT]))⟩
   ·have J1:=of_decide_eq_false nO;rcases aM (decide (((KN:Nat):Int)>=((dm.length:Nat):Int))) with lT|lT
    ·have zC:=of_decide_eq_true lT;refine⟨⟨((aA 0 false 0 [] [] [] []),8),(.av _ _ _ _ _ _ _ (by simp) (by simp) (by simp) (λ_ h=>by cases h) (by simp) (λ_ h=>by cases h))⟩,kf ah ([oB bK,wg 101 [.t (.sl aU),.t (.str v_2)] (.int .i64 ((KN:Nat):Int)) ((eL MM (x:=(.sl aU)) (y:=(.str v_2)) ⟨(.cB _ cc dX),dB⟩).trans (congrArg (λz=>some (bh.ret (.t (.int .i64 z)) [] [])) afT))]++rq 6 (oB nO) ([oB lT]))⟩
    ·have zC:=of_decide_eq_false lT;obtain⟨e7,he7⟩:=dr ((dm.take (KN+1)).drop KN) 0;have Ur:=((λy hy=>eR y (List.mem_of_mem_take (List.mem_of_mem_drop hy))) e7 (fW he7));obtain⟨si,HC,LL,Yu,HD,nE,sj,rfl,abY,abZ,ab0,ab1,ab2,ab3⟩:=T.aB Ur;refine⟨⟨((aA si HC LL Yu HD nE sj),0),Ur⟩,kf ah ([oB bK,wg 101 [.t (.sl aU),.t (.str v_2)] (.int .i64 ((KN:Nat):Int)) ((eL MM (x:=(.sl aU)) (y:=(.str v_2)) ⟨(.cB _ cc dX),dB⟩).trans (congrArg (λz=>some (bh.ret (.t (.int .i64 z)) [] [])) afT))]++rq 6 (oB nO) ([oB lT,oI (KN) (by omega),oP (Vn (aH eR)),oR KN (KN+1) cT,oR (KN+1) dm.length cT,oC (cO ajO (x:=.sl ((dm.take (KN+1)).drop KN)) ⟨_,rfl,cc,(λy hy=>eR y (List.mem_of_mem_take (List.mem_of_mem_drop hy)))⟩),oE he7]))⟩
  ·refine⟨⟨((aA 0 false 0 [] [] [] []),8),(.av _ _ _ _ _ _ _ (by simp) (by simp) (by simp) (λ_ h=>by cases h) (by simp) (λ_ h=>by cases h))⟩,kf ah ([oB bK,wg 101 [.t (.sl aU),.t (.str v_2)] (.int .i64 (Int.negSucc KN)) ((eL MM (x:=(.sl aU)) (y:=(.str v_2)) ⟨(.cB _ cc dX),dB⟩).trans (congrArg (λz=>some (bh.ret (.t (.int .i64 z)) [] [])) afT))]++rq 6 (oB (decide_eq_true (Int.negSucc_lt_zero KN))) ([oT]))⟩
def Cb (x:Tree×Tree):List TV×List aP:=([.t x.1,.t x.2],[])
def Cc (x:Tree×Tree):Prop:=(T .av x.1)/\(T .string x.2)
def Us (x:Tree×Tree)(r:Tree×Int):bh:=(.ret (.t (.bU [(r).1,.int .i64 (r).2])) [] [])
theorem RN:∀x y,Cc x->Cc y->Cb x=Cb y->x=y:=by
 rintro ⟨v1,n1⟩ ⟨v2,n2⟩ h1 h2 h;have e_v:v1=v2:=congrArg (pT0 0) h;have e_n:n1=n2:=congrArg (pT0 1) h;rw[e_v,e_n]
theorem ab4 (m:Int):∃F:(Tree×Tree)->Tree×Int,∀v n,Cc (v,n)->ai (cf m) 149 (Cb (v,n)).1 (Cb (v,n)).2 (Us (v,n) (F (v,n)))/\(T .av (F (v,n)).1):=by
 obtain⟨F,hF⟩:=bJ (α:=Tree×Tree) (P:=Cc) (Q:=λx (r:Tree×Int)=>ai (cf m) 149 (Cb x).1 (Cb x).2 (Us x r)/\(T .av r.1)) λx hx=>by
  obtain⟨v,n⟩:=x;obtain⟨h0,h1⟩:=hx;obtain⟨⟨r,hr⟩,h⟩:=afS m v n h0 h1;exact⟨r,h,hr⟩
 exact⟨F,λv n hx=>hF (v,n) hx⟩
end
end Go.Proofs.YtfdnciimclnncaaGreatDoor.w.e
