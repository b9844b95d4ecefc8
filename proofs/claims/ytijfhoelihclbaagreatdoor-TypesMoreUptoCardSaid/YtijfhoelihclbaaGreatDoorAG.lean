/- What an expression comes to, told. -/
import Derived.Test.YtijfhoelihclbaaGreatDoorAF
import Derived.Test.YtijfhoelihclbaaGreatDoorAC
import Derived.Test.YtijfhoelihclbaaGreatDoorH
import Derived.Test.YtijfhoelihclbaaGreatDoorShelf
namespace Go.Proofs.YtijfhoelihclbaaGreatDoor.w.e
open Go Go.Abs Go.Abs.Ty
set_option linter.unusedVariables false
set_option maxRecDepth 100000
set_option maxHeartbeats 2000000
noncomputable section
theorem aec (m:Int)(E:Env)(hE:uM E)(op n:Int)(s t:List UInt8)(ns ks:List Tree)(ln:ns.length≤4194304)(FA:∀y∈ns,T .string y)(lk:ks.length≤4194304)(hks:∀y∈ks,T .bJ y)(n_:Nat)(hD:vV m (.agg [.int .u8 op,.int .i64 n,.str s,.str t,.sl ns,.sl ks])=0→DE n_ (.agg [.int .u8 op,.int .i64 n,.str s,.str t,.sl ns,.sl ks])):ay (cf m) 7 [.t (.agg [.int .u8 op,.int .i64 n,.str s,.str t,.sl ns,.sl ks]),.t (.agg [.sl E.ts,.sl E.ac]),.t (.agg [.str E.p,.str E.r,.sl E.c])] [] (.ret (.t (.bX [(eC m n_ E (.agg [.int .u8 op,.int .i64 n,.str s,.str t,.sl ns,.sl ks])).1,.int .i64 (eC m n_ E (.agg [.int .u8 op,.int .i64 n,.str s,.str t,.sl ns,.sl ks])).2])) [] []):=by
  obtain⟨lt,ht,la,ha,lc,hc⟩:=hE
  obtain⟨ev,ai,PO,uG,NS,GD,Np,PT,e_self,aed⟩:∃ev,aF (cf m) ev∧Has ev 9 (jP (T .bJ) fun x=>.int .i64 (vV m x))∧Has ev 11 (jP (T .dw) fun x=>.int .i64 (Ag m x))∧Has ev 16 (jP (T .dA) fun x=>.int .i64 (Wi m x))∧Has ev 17 (r7 (fun x y=>x=.agg [.sl E.ts,.sl E.ac]∧∃s,y=.str s) fun _ y=>.bX [(cr r6 (Ty.strOf y) E.ts).1,.int .i64 (cr r6 (Ty.strOf y) E.ts).2])∧Has ev 13 (jP (T .aD) fun x=>.int .i64 (ctF m x))∧Has ev 18 (px [] [] (.ret (.map (.loc [1])) [] [(.loc [1],aI)]))∧Has ev 19 (pm [.cells 68 [.t (.sl E.ts),.t (.sl E.ac),.t (.str E.p),.t (.str E.r),.t (.sl E.c),.map (.arg 1)],aI] (fun xs=>xs=[.agg [.int .u8 op,.int .i64 n,.str s,.str t,.sl ns,.sl ks]]∧DE n_ (.agg [.int .u8 op,.int .i64 n,.str s,.str t,.sl ns,.sl ks])) (fun _=>.bX [(qX (OP m) E n_ (.agg [.int .u8 op,.int .i64 n,.str s,.str t,.sl ns,.sl ks])).1,.int .i64 (qX (OP m) E n_ (.agg [.int .u8 op,.int .i64 n,.str s,.str t,.sl ns,.sl ks])).2]))∧Has ev 20 (jP (T .aD) (fun x=>x)):=⟨_,(ax ((bp (Y3 m))) (ax ((bp (IE m))) (ax ((bp (adk m))) (ax ((dH fun x y h=>by obtain⟨e,s,e2⟩:=h;subst e;subst e2;exact Nr m E.ts E.ac lt ht la ha s)) (ax ((bp (adj m))) (ax ((jY (Wu m))) (ax ((TF fun xs h=>by obtain⟨e,h1⟩:=h;subst e;exact(AA m E ⟨lt,ht,la,ha,lc,hc⟩ n_ _ h1).1)) (ax ((bp (adi m))) aH)))))))),az,(aj rfl az),(aj rfl (aj rfl az)),(aj rfl (aj rfl (aj rfl az))),(aj rfl (aj rfl (aj rfl (aj rfl az)))),(aj rfl (aj rfl (aj rfl (aj rfl (aj rfl az))))),(aj rfl (aj rfl (aj rfl (aj rfl (aj rfl (aj rfl az)))))),(aj rfl (aj rfl (aj rfl (aj rfl (aj rfl (aj rfl (aj rfl az)))))))⟩
  refine ay.fu ?_
  refine AX.start 70 3 Tryz.func7 rfl (by decide) rfl rfl (by decide) ?_
  refine AX.frames ?_
  rcases aK (((Wi m (.sl [.int .i64 (vV m (.agg [.int .u8 op,.int .i64 n,.str s,.str t,.sl ns,.sl ks])),.int .i64 (Ag m (.agg [.sl E.ts,.sl E.ac]))])) != 0)) with hc1|hc1
  ·
   have Be:=aA hc1
   have hres:eC m n_ E (.agg [.int .u8 op,.int .i64 n,.str s,.str t,.sl ns,.sl ks])=(.agg [.int .u8 0,.str [],.sl [],.sl []],(Wi m (.sl [.int .i64 (vV m (.agg [.int .u8 op,.int .i64 n,.str s,.str t,.sl ns,.sl ks])),.int .i64 (Ag m (.agg [.sl E.ts,.sl E.ac]))]))):=by
     unfold eC
     refine(if_pos (aA hc1)).trans ?_
     rfl
   show ∃_:Unit,KE (cf m) (cB (cf m) _ 0 (.ret (.t (.bX [(eC m n_ E (.agg [.int .u8 op,.int .i64 n,.str s,.str t,.sl ns,.sl ks])).1,.int .i64 (eC m n_ E (.agg [.int .u8 op,.int .i64 n,.str s,.str t,.sl ns,.sl ks])).2])) [] [])) _ _ _
   rw[hres]
   exact⟨(),kF ah ai [oC (bf PO (x:=.agg [.int .u8 op,.int .i64 n,.str s,.str t,.sl ns,.sl ks]) (.bJ _ _ _ _ _ _ (by first|assumption|omega|(simp;done)|(simp;omega)) FA (by first|assumption|omega|(simp;done)|(simp;omega)) hks)),oC (bf uG (x:=.agg [.sl E.ts,.sl E.ac]) (.dw _ _ (by first|assumption|omega|(simp;done)|(simp;omega)) ht (by first|assumption|omega|(simp;done)|(simp;omega)) ha)),oC (bf NS (x:=.sl [.int .i64 (vV m (.agg [.int .u8 op,.int .i64 n,.str s,.str t,.sl ns,.sl ks])),.int .i64 (Ag m (.agg [.sl E.ts,.sl E.ac]))]) (.dA _ (by simp) (by intro y hy;simp only[List.mem_cons,List.not_mem_nil,or_false] at hy;rcases hy with rfl|rfl|rfl<;>exact .dK _))),oB hc1] (by kernel_rfl)⟩
  ·
   have Be:=aq hc1
   have ej2:=dm GD (x:=.agg [.sl E.ts,.sl E.ac]) (y:=.str E.p) ⟨rfl,_,rfl⟩
   replace ej2:ev 17 [.t (.agg [.sl E.ts,.sl E.ac]),.t (.str E.p)] []=some (bG.ret (.t (.bX [(cr r6 E.p E.ts).1,.int .i64 (cr r6 E.p E.ts).2])) [] []):=ej2
   have Lc:=wM (s:=E.p) Le ht
   obtain⟨name_3,aex,Y5,eq_3,Wn,Wo,Wp,Wq⟩:=T.bg Lc
   rw[eq_3] at Lc
   have Ws:=ej2
   rw[eq_3] at Ws
   have Xx:=dm GD (x:=.agg [.sl E.ts,.sl E.ac]) (y:=.str E.r) ⟨rfl,_,rfl⟩
   replace Xx:ev 17 [.t (.agg [.sl E.ts,.sl E.ac]),.t (.str E.r)] []=some (bG.ret (.t (.bX [(cr r6 E.r E.ts).1,.int .i64 (cr r6 E.r E.ts).2])) [] []):=Xx
   have xS:=wM (s:=E.r) Le ht
   obtain⟨ua,Rx,pU,eq_6,Ns,Nt,Nu,Nv⟩:=T.bg xS
   rw[eq_6] at xS
   have Nw:=Xx
   rw[eq_6] at Nw
   rcases aK (((Wi m (.sl [.int .i64 ((cr r6 E.p E.ts).2),.int .i64 ((cr r6 E.r E.ts).2),.int .i64 (ctF m (.agg [.int .u8 6,.str [],.sl [],.sl E.c]))])) != 0)) with gp|gp
   ·
    have xQ:=aA gp
    have hres:eC m n_ E (.agg [.int .u8 op,.int .i64 n,.str s,.str t,.sl ns,.sl ks])=(.agg [.int .u8 0,.str [],.sl [],.sl []],(Wi m (.sl [.int .i64 ((cr r6 E.p E.ts).2),.int .i64 ((cr r6 E.r E.ts).2),.int .i64 (ctF m (.agg [.int .u8 6,.str [],.sl [],.sl E.c]))]))):=by
      unfold eC
      refine(if_neg (fun q=>q (aq hc1))).trans ?_
      refine(if_pos (aA gp)).trans ?_
      rfl
    show ∃_:Unit,KE (cf m) (cB (cf m) _ 0 (.ret (.t (.bX [(eC m n_ E (.agg [.int .u8 op,.int .i64 n,.str s,.str t,.sl ns,.sl ks])).1,.int .i64 (eC m n_ E (.agg [.int .u8 op,.int .i64 n,.str s,.str t,.sl ns,.sl ks])).2])) [] [])) _ _ _
    rw[hres]
    exact⟨(),kF ah ai [oC (bf PO (x:=.agg [.int .u8 op,.int .i64 n,.str s,.str t,.sl ns,.sl ks]) (.bJ _ _ _ _ _ _ (by first|assumption|omega|(simp;done)|(simp;omega)) FA (by first|assumption|omega|(simp;done)|(simp;omega)) hks)),oC (bf uG (x:=.agg [.sl E.ts,.sl E.ac]) (.dw _ _ (by first|assumption|omega|(simp;done)|(simp;omega)) ht (by first|assumption|omega|(simp;done)|(simp;omega)) ha)),oC (bf NS (x:=.sl [.int .i64 (vV m (.agg [.int .u8 op,.int .i64 n,.str s,.str t,.sl ns,.sl ks])),.int .i64 (Ag m (.agg [.sl E.ts,.sl E.ac]))]) (.dA _ (by simp) (by intro y hy;simp only[List.mem_cons,List.not_mem_nil,or_false] at hy;rcases hy with rfl|rfl|rfl<;>exact .dK _))),oB hc1,oC Ws,oC Nw,oC (bf Np (x:=.agg [.int .u8 6,.str [],.sl [],.sl E.c]) (.aD _ _ _ _ (by first|assumption|omega|(simp;done)|(simp;omega)) (by simp) (by first|assumption|omega|(simp;done)|(simp;omega)) hc)),oC (bf NS (x:=.sl [.int .i64 ((cr r6 E.p E.ts).2),.int .i64 ((cr r6 E.r E.ts).2),.int .i64 (ctF m (.agg [.int .u8 6,.str [],.sl [],.sl E.c]))]) (.dA _ (by simp) (by intro y hy;simp only[List.mem_cons,List.not_mem_nil,or_false] at hy;rcases hy with rfl|rfl|rfl<;>exact .dK _))),oB gp] (by kernel_rfl)⟩
   ·
    have xQ:=aq gp
    have hde:=hD ((I3 m _ _).1 (aq hc1)).1
    have ez9:ev 19 [.ptr (.arg 0) 0,.t (.agg [.int .u8 op,.int .i64 n,.str s,.str t,.sl ns,.sl ks])] [.cells 68 [.t (.sl E.ts),.t (.sl E.ac),.t (.str E.p),.t (.str E.r),.t (.sl E.c),.map (.arg 1)],aI]=some (bG.ret (.t (.bX [(qX (OP m) E n_ (.agg [.int .u8 op,.int .i64 n,.str s,.str t,.sl ns,.sl ks])).1,.int .i64 (qX (OP m) E n_ (.agg [.int .u8 op,.int .i64 n,.str s,.str t,.sl ns,.sl ks])).2])) [.cells 68 [.t (.sl E.ts),.t (.sl E.ac),.t (.str E.p),.t (.str E.r),.t (.sl E.c),.map (.arg 1)],aI] []):=X9 e_self [.agg [.int .u8 op,.int .i64 n,.str s,.str t,.sl ns,.sl ks]] ⟨rfl,hde⟩
    have Ev:=(AA m E ⟨lt,ht,la,ha,lc,hc⟩ n_ _ hde).2
    obtain⟨tW,rP,yc,qL,eq_10,Pf,Pg,Ph,Pj⟩:=T.aR Ev
    rw[eq_10] at Ev
    have aee:=ez9
    rw[eq_10] at aee
    rcases aK (((qX (OP m) E n_ (.agg [.int .u8 op,.int .i64 n,.str s,.str t,.sl ns,.sl ks])).2 != 0)) with iB|iB
    ·
     have qD:=aA iB
     have hres:eC m n_ E (.agg [.int .u8 op,.int .i64 n,.str s,.str t,.sl ns,.sl ks])=(.agg [.int .u8 0,.str [],.sl [],.sl []],(qX (OP m) E n_ (.agg [.int .u8 op,.int .i64 n,.str s,.str t,.sl ns,.sl ks])).2):=by
       unfold eC
       refine(if_neg (fun q=>q (aq hc1))).trans ?_
       refine(if_neg (fun q=>q (aq gp))).trans ?_
       refine(if_pos (aA iB)).trans ?_
       rfl
     show ∃_:Unit,KE (cf m) (cB (cf m) _ 0 (.ret (.t (.bX [(eC m n_ E (.agg [.int .u8 op,.int .i64 n,.str s,.str t,.sl ns,.sl ks])).1,.int .i64 (eC m n_ E (.agg [.int .u8 op,.int .i64 n,.str s,.str t,.sl ns,.sl ks])).2])) [] [])) _ _ _
     rw[hres]
     exact⟨(),kF ah ai [oC (bf PO (x:=.agg [.int .u8 op,.int .i64 n,.str s,.str t,.sl ns,.sl ks]) (.bJ _ _ _ _ _ _ (by first|assumption|omega|(simp;done)|(simp;omega)) FA (by first|assumption|omega|(simp;done)|(simp;omega)) hks)),oC (bf uG (x:=.agg [.sl E.ts,.sl E.ac]) (.dw _ _ (by first|assumption|omega|(simp;done)|(simp;omega)) ht (by first|assumption|omega|(simp;done)|(simp;omega)) ha)),oC (bf NS (x:=.sl [.int .i64 (vV m (.agg [.int .u8 op,.int .i64 n,.str s,.str t,.sl ns,.sl ks])),.int .i64 (Ag m (.agg [.sl E.ts,.sl E.ac]))]) (.dA _ (by simp) (by intro y hy;simp only[List.mem_cons,List.not_mem_nil,or_false] at hy;rcases hy with rfl|rfl|rfl<;>exact .dK _))),oB hc1,oC Ws,oC Nw,oC (bf Np (x:=.agg [.int .u8 6,.str [],.sl [],.sl E.c]) (.aD _ _ _ _ (by first|assumption|omega|(simp;done)|(simp;omega)) (by simp) (by first|assumption|omega|(simp;done)|(simp;omega)) hc)),oC (bf NS (x:=.sl [.int .i64 ((cr r6 E.p E.ts).2),.int .i64 ((cr r6 E.r E.ts).2),.int .i64 (ctF m (.agg [.int .u8 6,.str [],.sl [],.sl E.c]))]) (.dA _ (by simp) (by intro y hy;simp only[List.mem_cons,List.not_mem_nil,or_false] at hy;rcases hy with rfl|rfl|rfl<;>exact .dK _))),oB gp,oC (lH PT),oC aee,oB iB] (by kernel_rfl)⟩
    ·
     have qD:=aq iB
     have hres:eC m n_ E (.agg [.int .u8 op,.int .i64 n,.str s,.str t,.sl ns,.sl ks])=(.agg [.int .u8 tW,.str rP,.sl yc,.sl qL],0):=by
       unfold eC
       refine(if_neg (fun q=>q (aq hc1))).trans ?_
       refine(if_neg (fun q=>q (aq gp))).trans ?_
       refine(if_neg (fun q=>q (aq iB))).trans ?_
       exact Prod.ext eq_10 rfl
     show ∃_:Unit,KE (cf m) (cB (cf m) _ 0 (.ret (.t (.bX [(eC m n_ E (.agg [.int .u8 op,.int .i64 n,.str s,.str t,.sl ns,.sl ks])).1,.int .i64 (eC m n_ E (.agg [.int .u8 op,.int .i64 n,.str s,.str t,.sl ns,.sl ks])).2])) [] [])) _ _ _
     rw[hres]
     exact⟨(),kF ah ai [oC (bf PO (x:=.agg [.int .u8 op,.int .i64 n,.str s,.str t,.sl ns,.sl ks]) (.bJ _ _ _ _ _ _ (by first|assumption|omega|(simp;done)|(simp;omega)) FA (by first|assumption|omega|(simp;done)|(simp;omega)) hks)),oC (bf uG (x:=.agg [.sl E.ts,.sl E.ac]) (.dw _ _ (by first|assumption|omega|(simp;done)|(simp;omega)) ht (by first|assumption|omega|(simp;done)|(simp;omega)) ha)),oC (bf NS (x:=.sl [.int .i64 (vV m (.agg [.int .u8 op,.int .i64 n,.str s,.str t,.sl ns,.sl ks])),.int .i64 (Ag m (.agg [.sl E.ts,.sl E.ac]))]) (.dA _ (by simp) (by intro y hy;simp only[List.mem_cons,List.not_mem_nil,or_false] at hy;rcases hy with rfl|rfl|rfl<;>exact .dK _))),oB hc1,oC Ws,oC Nw,oC (bf Np (x:=.agg [.int .u8 6,.str [],.sl [],.sl E.c]) (.aD _ _ _ _ (by first|assumption|omega|(simp;done)|(simp;omega)) (by simp) (by first|assumption|omega|(simp;done)|(simp;omega)) hc)),oC (bf NS (x:=.sl [.int .i64 ((cr r6 E.p E.ts).2),.int .i64 ((cr r6 E.r E.ts).2),.int .i64 (ctF m (.agg [.int .u8 6,.str [],.sl [],.sl E.c]))]) (.dA _ (by simp) (by intro y hy;simp only[List.mem_cons,List.not_mem_nil,or_false] at hy;rcases hy with rfl|rfl|rfl<;>exact .dK _))),oB gp,oC (lH PT),oC aee,oB iB,oC (bf aed (x:=.agg [.int .u8 tW,.str rP,.sl yc,.sl qL]) Ev)] (by kernel_rfl)⟩
theorem I4 {m:Int}{n:Nat}{E:Env}{e:Tree}(hE:uM E)(hD:vV m e=0→DE n e):T .aD (eC m n E e).1:=by
  by_cases h:(eC m n E e).2=0
  · obtain⟨h1,h2,h3,h4⟩:=PN h
    rw[h4]
    exact(AA m E hE n e (hD ((I3 m _ _).1 h1).1)).2
  · rw[wk h];exact rQ
theorem PU (m:Int)(E:Env)(hE:uM E)(e:Tree)(he:T .bJ e)(n:Nat)(hD:vV m e=0→DE n e):R3 (cf m) 7 e (.agg [.sl E.ts,.sl E.ac]) (.agg [.str E.p,.str E.r,.sl E.c]) (.bX [(eC m n E e).1,.int .i64 (eC m n E e).2]):=by
 obtain⟨op,k,s,t,ns,ks,rfl,g1,g2,g3,g4⟩:=T.eB he
 exact aec m E hE op k s t ns ks g1 g2 g3 g4 n hD
end
end Go.Proofs.YtijfhoelihclbaaGreatDoor.w.e

namespace Go.Proofs.YtijfhoelihclbaaGreatDoor.w.e
open Go Go.Abs Go.Abs.Ty
set_option linter.unusedVariables false
set_option maxRecDepth 100000
set_option maxHeartbeats 2000000
noncomputable section
abbrev akP:TI:={size:=1,bytes:=24,agg:=false,zero:=some (.aL),desc:=.slice 49}
theorem NT {m:Int}:(cf m).P.ty 27=some akP:=by kernel_rfl
theorem aa4 {m:Int}:uA (cf m).P 27 49 agW:=⟨⟨_,NT,rfl⟩,Wt,_,rfl,by decide,rfl,by decide⟩
theorem aef (m:Int)(ts ac:List Tree)(lt:ts.length≤4194304)(ht:∀y∈ts,T .aC y)(la:ac.length≤4194304)(ha:∀y∈ac,T .aY y)(hne:ts=[]):ay (cf m) 10 [.t (.agg [.sl ts,.sl ac])] [] (.ret (.agg [.aL,.t (.sl ac)]) [] []):=by
  obtain⟨ev,ai,Lu,AB⟩:∃ev,aF (cf m) ev∧Has ev 23 (jP (T .aC) (fun x=>x))∧Has ev 24 (jP (T .aY) (fun x=>x)):=⟨_,(ax (bp (Wd m)) (ax (bp (Wf m)) aH)),az,(aj rfl az)⟩
  refine ay.fu ?_
  refine AX.start 39 1 Tryz.func10 rfl (by decide) rfl rfl (by decide) ?_
  refine AX.frames ?_
  refine eo (f:=0) (n:=3000) (once:=[]) (k:=39) (T:=3) (S:=[.loc [0],.loc [1],.loc [2]]) (ks:=[.loc [0],.loc [1],.loc [2]]) (live:=[1,2,3,9,10,11]) ah ai (α:=Nat×List Tree) (fun x=>(match x.2 with| []=>⟨bH 39 [(1,.ptr (.loc [0]) 0),(2,.ptr (.loc [1]) 0),(3,.ptr (.loc [2]) 0),(9,.t (.sl ts)),(10,.t (.int .i64 ((ts.length:Nat):Int))),(11,.t (.int .i64 ((x.1:Nat):Int)))],[(.loc [0],.cells 30 [.t (.sl ts),.t (.sl ac)]),(.loc [1],.cells 30 [.aL,.aL]),(.loc [2],.cells 30 [.aL,.aL])],3⟩|_::_=>⟨bH 39 [(1,.ptr (.loc [0]) 0),(2,.ptr (.loc [1]) 0),(3,.ptr (.loc [2]) 0),(9,.t (.sl ts)),(10,.t (.int .i64 ((ts.length:Nat):Int))),(11,.t (.int .i64 ((x.1:Nat):Int)))],[(.loc [0],.cells 30 [.t (.sl ts),.t (.sl ac)]),(.loc [1],.cells 30 [.aL,.aL]),(.loc [2],.cells 30 [.ref (.loc [3]) 0 x.2.length,.aL]),(.loc [3],.arr (49,true) 3 false ((flat x.2).map .t))],4⟩)) (fun x=>(x.1≤ts.length)∧(x.2=ts.take x.1)∧(cu true 3 x.2)∧(x.2.length≤x.1)) (fun x=>ts.length - x.1) (⟨0,[]⟩) (iA (Tryz.f10.body.getD .skip) 3) [] (by kernel_rfl) ⟨Nat.zero_le _,rfl,cu.nil,Nat.le_refl _⟩ (fun x hok=> ?_)
  obtain⟨i_1,jL⟩:=x
  replace hok:(i_1≤ts.length)∧(jL=ts.take i_1)∧(cu true 3 jL)∧(jL.length≤i_1):=hok
  obtain⟨iX,bN,gW,CG⟩:=hok
  rcases jL with _|⟨dX,dY⟩
  ·
   rcases aK (decide (((i_1:Nat):Int)<((ts.length:Nat):Int))) with bD|bD
   ·
    have gM:=of_decide_eq_true bD
    obtain⟨e3,gY⟩:=lC ts i_1 (by first|omega|(simp;omega))
    have iI:=(ht e3 (List.mem_of_getElem? gY))
    obtain⟨cq,cI,cE,rfl,mO,kU,mP,jR⟩:=T.bg iI
    exact⟨.inl ⟨⟨i_1+1,([.agg [.str cq,.sl cI,.sl cE]]:List Tree)⟩,⟨⟨(by show(i_1+1)≤ts.length;omega),((congrArg (fun l=>l++[_]) bN).trans (dL gY).symm),(by exact(cu.cons ⟨rfl,rfl,rfl⟩ .nil)),(by show([.agg [.str cq,.sl cI,.sl cE]]:List Tree).length≤(i_1+1);first|omega|(simp only[List.length_append,List.length_cons,List.length_nil,List.length_singleton] at*;omega)|(simp;done)|(simp;omega))⟩,(by show(ts.length - (i_1+1))<(ts.length - i_1);omega)⟩⟩,bB (f:=0) (n:=3000) (once:=[]) (k:=39) (T:=4) (S:=[.loc [0],.loc [1],.loc [2],.loc [13]]) (ks:=[.loc [0],.loc [1],.loc [2],.loc [13]]) (live:=[1,2,3,9,10,11]) ah ai [oB bD,oE gY,oC (bf Lu (x:=.agg [.str cq,.sl cI,.sl cE]) iI),oU true 3 ([.agg [.str cq,.sl cI,.sl cE]]:List Tree) (cu.cons ⟨rfl,rfl,rfl⟩ cu.nil) (by simp),oA (([.agg [.str cq,.sl cI,.sl cE]]:List Tree).length*64) (by first|omega|(simp only[List.length_append,List.length_cons,List.length_nil,List.length_singleton] at*;omega)|(simp;done)|(simp;omega)),oI (i_1) (by omega),oN (o:=.arr (49,true) 3 false ((flat ([.agg [.str cq,.sl cI,.sl cE]]:List Tree)).map .t)) (fun _=>bw)] (by kernel_rfl)⟩
   ·
    have gM:=of_decide_eq_false bD
    refine kO ah ai [oB bD] (by kernel_rfl) ?_
    refine eo (f:=0) (n:=3000) (once:=[]) (k:=39) (T:=2) (S:=[.loc [1],.loc [2]]) (ks:=[.loc [1],.loc [2]]) (live:=[2,3,24,25,26]) ah ai (α:=Nat×List Tree) (fun x=>(match x.2 with| []=>⟨bH 39 [(2,.ptr (.loc [0]) 0),(3,.ptr (.loc [1]) 0),(24,.t (.sl ac)),(25,.t (.int .i64 ((ac.length:Nat):Int))),(26,.t (.int .i64 ((x.1:Nat):Int)))],[(.loc [0],.cells 30 [.aL,.aL]),(.loc [1],.cells 30 [.aL,.aL])],2⟩|_::_=>⟨bH 39 [(2,.ptr (.loc [0]) 0),(3,.ptr (.loc [1]) 0),(24,.t (.sl ac)),(25,.t (.int .i64 ((ac.length:Nat):Int))),(26,.t (.int .i64 ((x.1:Nat):Int)))],[(.loc [0],.cells 30 [.aL,.aL]),(.loc [1],.cells 30 [.aL,.ref (.loc [2]) 0 x.2.length]),(.loc [2],.arr (76,true) 4 false ((flat x.2).map .t))],3⟩)) (fun x=>(x.1≤ac.length)∧(x.2=ac.take x.1)∧(cu true 4 x.2)∧(x.2.length≤x.1)) (fun x=>ac.length - x.1) (⟨0,[]⟩) (iA (Tryz.f10.body.getD .skip) 8) [] (by kernel_rfl) ⟨Nat.zero_le _,rfl,cu.nil,Nat.le_refl _⟩ (fun x hok=> ?_)
    obtain⟨nV,AE⟩:=x
    replace hok:(nV≤ac.length)∧(AE=ac.take nV)∧(cu true 4 AE)∧(AE.length≤nV):=hok
    obtain⟨OM,um,uo,Zr⟩:=hok
    rcases AE with _|⟨uq,ur⟩
    ·
     rcases aK (decide (((nV:Nat):Int)<((ac.length:Nat):Int))) with jX|jX
     ·
      have vM:=of_decide_eq_true jX
      obtain⟨e7,OO⟩:=lC ac nV (by first|omega|(simp;omega))
      have Xd:=(ha e7 (List.mem_of_getElem? OO))
      obtain⟨sZ,eH,fA,iD,rfl,aeg,aeh,aei,aej,aek,ael⟩:=T.bP Xd
      exact⟨.inl ⟨⟨nV+1,([.agg [.str sZ,.sl eH,.sl fA,.sl iD]]:List Tree)⟩,⟨⟨(by show(nV+1)≤ac.length;omega),((congrArg (fun l=>l++[_]) um).trans (dL OO).symm),(by exact(cu.cons ⟨rfl,rfl,rfl⟩ .nil)),(by show([.agg [.str sZ,.sl eH,.sl fA,.sl iD]]:List Tree).length≤(nV+1);first|omega|(simp only[List.length_append,List.length_cons,List.length_nil,List.length_singleton] at*;omega)|(simp;done)|(simp;omega))⟩,(by show(ac.length - (nV+1))<(ac.length - nV);omega)⟩⟩,bB (f:=0) (n:=3000) (once:=[]) (k:=39) (T:=3) (S:=[.loc [0],.loc [1],.loc [12]]) (ks:=[.loc [0],.loc [1],.loc [12]]) (live:=[2,3,24,25,26]) ah ai [oB jX,oE OO,oC (bf AB (x:=.agg [.str sZ,.sl eH,.sl fA,.sl iD]) Xd),oU true 4 ([.agg [.str sZ,.sl eH,.sl fA,.sl iD]]:List Tree) (cu.cons ⟨rfl,rfl,rfl⟩ cu.nil) (by simp),oA (([.agg [.str sZ,.sl eH,.sl fA,.sl iD]]:List Tree).length*88) (by first|omega|(simp only[List.length_append,List.length_cons,List.length_nil,List.length_singleton] at*;omega)|(simp;done)|(simp;omega)),oI (nV) (by omega),oN (o:=.arr (76,true) 4 false ((flat ([.agg [.str sZ,.sl eH,.sl fA,.sl iD]]:List Tree)).map .t)) (fun _=>bw)] (by kernel_rfl)⟩
     ·
      have vM:=of_decide_eq_false jX
      refine kO ah ai [oB jX] (by kernel_rfl) ?_
      refine uR (f:=0) (n:=3000) (once:=[]) (k:=39) (T:=2) (S:=[.loc [0],.loc [1]]) (ks:=[.loc [0],.loc [1]]) (live:=[2,3,27]) ah ai (Tryz.f10.body.getD .skip) 12 rfl (⟨bH 39 [(2,.ptr (.loc [0]) 0),(3,.ptr (.loc [1]) 0),(27,.t (.bool (decide (((nV:Nat):Int)<((ac.length:Nat):Int)))))],[(.loc [0],.cells 30 [.aL,.aL]),(.loc [1],.cells 30 [.aL,.aL])],2⟩) [] (by kernel_rfl) ?_
      refine AX.re (Re.zk (k:=.loc [1]) (m:=1) 1 rfl rfl sK) ?_
      refine AX.region ?_
      refine ak.go (f:=0) ai (aS rfl (ld qY rfl rfl)) ?_
      refine ak.lQ (f:=0) ai (br rfl rfl (mX qY rfl rfl)) ?_
      refine ak.nil ?_
      refine Ys (f:=0) (n:=3000) (once:=[]) (k:=39) (T:=1) (S:=[.loc [0]]) (ks:=[.loc [0]]) (live:=[2]) ah ai .ret (⟨bH 39 [(2,.ptr (.loc [0]) 0)],[(.loc [0],.cells 30 [.aL,.t (.sl [])])],1⟩) [] (by kernel_rfl) (by kernel_rfl) ?_
      have hac:([]:List Tree)=ac:=um.trans (List.take_of_length_le (by omega))
      subst hac
      have hts:([]:List Tree)=ts:=bN.trans (List.take_of_length_le (by omega))
      subst hts
      exact⟨(),.inr (J7 rfl rfl)⟩
    ·
     rcases aK (decide (((nV:Nat):Int)<((ac.length:Nat):Int))) with rN|rN
     ·
      have D5:=of_decide_eq_true rN
      obtain⟨e10,NU⟩:=lC ac nV (by first|omega|(simp;omega))
      have Lv:=(ha e10 (List.mem_of_getElem? NU))
      obtain⟨nQ,dM,eL,gu,rfl,Zs,Zt,Zu,Zv,Zw,Zx⟩:=T.bP Lv
      exact⟨.inl ⟨⟨nV+1,(uq::ur)++([.agg [.str nQ,.sl dM,.sl eL,.sl gu]]:List Tree)⟩,⟨⟨(by show(nV+1)≤ac.length;omega),((congrArg (fun l=>l++[_]) um).trans (dL NU).symm),(by exact uo.append (cu.cons ⟨rfl,rfl,rfl⟩ .nil)),(by show((uq::ur)++([.agg [.str nQ,.sl dM,.sl eL,.sl gu]]:List Tree)).length≤(nV+1);first|omega|(simp only[List.length_append,List.length_cons,List.length_nil,List.length_singleton] at*;omega)|(simp;done)|(simp;omega))⟩,(by show(ac.length - (nV+1))<(ac.length - nV);omega)⟩⟩,bB (f:=0) (n:=3000) (once:=[]) (k:=39) (T:=3) (S:=[.loc [0],.loc [1],.loc [2]]) (ks:=[.loc [0],.loc [1],.loc [2]]) (live:=[2,3,24,25,26]) ah ai [oB rN,oE NU,oC (bf AB (x:=.agg [.str nQ,.sl dM,.sl eL,.sl gu]) Lv),oU true 4 ([.agg [.str nQ,.sl dM,.sl eL,.sl gu]]:List Tree) (cu.cons ⟨rfl,rfl,rfl⟩ cu.nil) (by simp),oW true 4 (uq::ur) uo,oA (((uq::ur).length+([.agg [.str nQ,.sl dM,.sl eL,.sl gu]]:List Tree).length) *88) (by first|omega|(simp only[List.length_append,List.length_cons,List.length_nil,List.length_singleton] at*;omega)|(simp;done)|(simp;omega)),oI (nV) (by omega),oN (o:=.arr (76,true) 4 false ((flat ((uq::ur)++([.agg [.str nQ,.sl dM,.sl eL,.sl gu]]:List Tree))).map .t)) (fun _=>bw)] (by kernel_rfl)⟩
     ·
      have D5:=of_decide_eq_false rN
      refine kO ah ai [oB rN] (by kernel_rfl) ?_
      refine uR (f:=0) (n:=3000) (once:=[]) (k:=39) (T:=3) (S:=[.loc [0],.loc [1],.loc [2]]) (ks:=[.loc [0],.loc [1],.loc [2]]) (live:=[2,3,27]) ah ai (Tryz.f10.body.getD .skip) 12 rfl (⟨bH 39 [(2,.ptr (.loc [0]) 0),(3,.ptr (.loc [1]) 0),(27,.t (.bool (decide (((nV:Nat):Int)<((ac.length:Nat):Int)))))],[(.loc [0],.cells 30 [.aL,.aL]),(.loc [1],.cells 30 [.aL,.ref (.loc [2]) 0 ((uq::ur).length)]),(.loc [2],.arr (76,true) 4 false ((flat (uq::ur)).map .t))],3⟩) [oN (o:=.arr (76,true) 4 false ((flat (uq::ur)).map .t)) (fun _=>bw)] (by kernel_rfl) ?_
      refine AX.re (Re.zk (k:=.loc [1]) (m:=1) 1 rfl rfl (kZ rfl uo (by decide) rfl rfl)) ?_
      refine AX.region ?_
      refine ak.go (f:=0) ai (aS rfl (ld qY rfl rfl)) ?_
      refine ak.lQ (f:=0) ai (br rfl rfl (mX qY rfl rfl)) ?_
      refine ak.nil ?_
      refine Ys (f:=0) (n:=3000) (once:=[]) (k:=39) (T:=1) (S:=[.loc [0]]) (ks:=[.loc [0]]) (live:=[2]) ah ai .ret (⟨bH 39 [(2,.ptr (.loc [0]) 0)],[(.loc [0],.cells 30 [.aL,.t (.sl (uq::ur))])],1⟩) [] (by kernel_rfl) (by kernel_rfl) ?_
      have hac:((uq::ur):List Tree)=ac:=um.trans (List.take_of_length_le (by omega))
      subst hac
      have hts:([]:List Tree)=ts:=bN.trans (List.take_of_length_le (by omega))
      subst hts
      exact⟨(),.inr (J7 rfl rfl)⟩
  ·
   rcases aK (decide (((i_1:Nat):Int)<((ts.length:Nat):Int))) with iB|iB
   ·
    have qD:=of_decide_eq_true iB
    obtain⟨e13,tV⟩:=lC ts i_1 (by first|omega|(simp;omega))
    have Em:=(ht e13 (List.mem_of_getElem? tV))
    obtain⟨kP,gy,jm,rfl,O8,O9,Pa,Pb⟩:=T.bg Em
    exact⟨.inl ⟨⟨i_1+1,(dX::dY)++([.agg [.str kP,.sl gy,.sl jm]]:List Tree)⟩,⟨⟨(by show(i_1+1)≤ts.length;omega),((congrArg (fun l=>l++[_]) bN).trans (dL tV).symm),(by exact gW.append (cu.cons ⟨rfl,rfl,rfl⟩ .nil)),(by show((dX::dY)++([.agg [.str kP,.sl gy,.sl jm]]:List Tree)).length≤(i_1+1);first|omega|(simp only[List.length_append,List.length_cons,List.length_nil,List.length_singleton] at*;omega)|(simp;done)|(simp;omega))⟩,(by show(ts.length - (i_1+1))<(ts.length - i_1);omega)⟩⟩,bB (f:=0) (n:=3000) (once:=[]) (k:=39) (T:=4) (S:=[.loc [0],.loc [1],.loc [2],.loc [3]]) (ks:=[.loc [0],.loc [1],.loc [2],.loc [3]]) (live:=[1,2,3,9,10,11]) ah ai [oB iB,oE tV,oC (bf Lu (x:=.agg [.str kP,.sl gy,.sl jm]) Em),oU true 3 ([.agg [.str kP,.sl gy,.sl jm]]:List Tree) (cu.cons ⟨rfl,rfl,rfl⟩ cu.nil) (by simp),oW true 3 (dX::dY) gW,oA (((dX::dY).length+([.agg [.str kP,.sl gy,.sl jm]]:List Tree).length) *64) (by first|omega|(simp only[List.length_append,List.length_cons,List.length_nil,List.length_singleton] at*;omega)|(simp;done)|(simp;omega)),oI (i_1) (by omega),oN (o:=.arr (49,true) 3 false ((flat ((dX::dY)++([.agg [.str kP,.sl gy,.sl jm]]:List Tree))).map .t)) (fun _=>bw)] (by kernel_rfl)⟩
   ·
    have qD:=of_decide_eq_false iB
    refine kO ah ai [oB iB] (by kernel_rfl) ?_
    refine eo (f:=0) (n:=3000) (once:=[]) (k:=39) (T:=3) (S:=[.loc [1],.loc [2],.loc [3]]) (ks:=[.loc [1],.loc [2],.loc [3]]) (live:=[2,3,24,25,26]) ah ai (α:=Nat×List Tree) (fun x=>(match x.2 with| []=>⟨bH 39 [(2,.ptr (.loc [0]) 0),(3,.ptr (.loc [1]) 0),(24,.t (.sl ac)),(25,.t (.int .i64 ((ac.length:Nat):Int))),(26,.t (.int .i64 ((x.1:Nat):Int)))],[(.loc [0],.cells 30 [.aL,.aL]),(.loc [1],.cells 30 [.ref (.loc [2]) 0 ((dX::dY).length),.aL]),(.loc [2],.arr (49,true) 3 false ((flat (dX::dY)).map .t))],3⟩|_::_=>⟨bH 39 [(2,.ptr (.loc [0]) 0),(3,.ptr (.loc [1]) 0),(24,.t (.sl ac)),(25,.t (.int .i64 ((ac.length:Nat):Int))),(26,.t (.int .i64 ((x.1:Nat):Int)))],[(.loc [0],.cells 30 [.aL,.aL]),(.loc [1],.cells 30 [.ref (.loc [2]) 0 ((dX::dY).length),.ref (.loc [3]) 0 x.2.length]),(.loc [2],.arr (49,true) 3 false ((flat (dX::dY)).map .t)),(.loc [3],.arr (76,true) 4 false ((flat x.2).map .t))],4⟩)) (fun x=>(x.1≤ac.length)∧(x.2=ac.take x.1)∧(cu true 4 x.2)∧(x.2.length≤x.1)) (fun x=>ac.length - x.1) (⟨0,[]⟩) (iA (Tryz.f10.body.getD .skip) 8) [oN (o:=.arr (49,true) 3 false ((flat (dX::dY)).map .t)) (fun _=>bw)] (by kernel_rfl) ⟨Nat.zero_le _,rfl,cu.nil,Nat.le_refl _⟩ (fun x hok=> ?_)
    obtain⟨jd,uv⟩:=x
    replace hok:(jd≤ac.length)∧(uv=ac.take jd)∧(cu true 4 uv)∧(uv.length≤jd):=hok
    obtain⟨Xe,qP,qQ,Xf⟩:=hok
    rcases uv with _|⟨mS,mU⟩
    ·
     rcases aK (decide (((jd:Nat):Int)<((ac.length:Nat):Int))) with hc16|hc16
     ·
      have Eh:=of_decide_eq_true hc16
      obtain⟨e17,NV⟩:=lC ac jd (by first|omega|(simp;omega))
      have Lw:=(ha e17 (List.mem_of_getElem? NV))
      obtain⟨nR,dN,eM,gA,rfl,Zy,Zz,ZA,ZB,ZC,ZD⟩:=T.bP Lw
      exact⟨.inl ⟨⟨jd+1,([.agg [.str nR,.sl dN,.sl eM,.sl gA]]:List Tree)⟩,⟨⟨(by show(jd+1)≤ac.length;omega),((congrArg (fun l=>l++[_]) qP).trans (dL NV).symm),(by exact(cu.cons ⟨rfl,rfl,rfl⟩ .nil)),(by show([.agg [.str nR,.sl dN,.sl eM,.sl gA]]:List Tree).length≤(jd+1);first|omega|(simp only[List.length_append,List.length_cons,List.length_nil,List.length_singleton] at*;omega)|(simp;done)|(simp;omega))⟩,(by show(ac.length - (jd+1))<(ac.length - jd);omega)⟩⟩,bB (f:=0) (n:=3000) (once:=[]) (k:=39) (T:=4) (S:=[.loc [0],.loc [1],.loc [2],.loc [13]]) (ks:=[.loc [0],.loc [1],.loc [2],.loc [13]]) (live:=[2,3,24,25,26]) ah ai [oB hc16,oE NV,oC (bf AB (x:=.agg [.str nR,.sl dN,.sl eM,.sl gA]) Lw),oU true 4 ([.agg [.str nR,.sl dN,.sl eM,.sl gA]]:List Tree) (cu.cons ⟨rfl,rfl,rfl⟩ cu.nil) (by simp),oA (([.agg [.str nR,.sl dN,.sl eM,.sl gA]]:List Tree).length*88) (by first|omega|(simp only[List.length_append,List.length_cons,List.length_nil,List.length_singleton] at*;omega)|(simp;done)|(simp;omega)),oI (jd) (by omega),oN (o:=.arr (49,true) 3 false ((flat (dX::dY)).map .t)) (fun _=>bw),oN (o:=.arr (76,true) 4 false ((flat ([.agg [.str nR,.sl dN,.sl eM,.sl gA]]:List Tree)).map .t)) (fun _=>bw)] (by kernel_rfl)⟩
     ·
      have Eh:=of_decide_eq_false hc16
      refine kO ah ai [oB hc16] (by kernel_rfl) ?_
      refine uR (f:=0) (n:=3000) (once:=[]) (k:=39) (T:=3) (S:=[.loc [0],.loc [1],.loc [2]]) (ks:=[.loc [0],.loc [1],.loc [2]]) (live:=[2,3,27]) ah ai (Tryz.f10.body.getD .skip) 12 rfl (⟨bH 39 [(2,.ptr (.loc [0]) 0),(3,.ptr (.loc [1]) 0),(27,.t (.bool (decide (((jd:Nat):Int)<((ac.length:Nat):Int)))))],[(.loc [0],.cells 30 [.aL,.aL]),(.loc [1],.cells 30 [.ref (.loc [2]) 0 ((dX::dY).length),.aL]),(.loc [2],.arr (49,true) 3 false ((flat (dX::dY)).map .t))],3⟩) [oN (o:=.arr (49,true) 3 false ((flat (dX::dY)).map .t)) (fun _=>bw)] (by kernel_rfl) ?_
      refine AX.re (Re.zk (k:=.loc [1]) (m:=1) 1 rfl rfl sK) ?_
      refine AX.region ?_
      refine ak.go (f:=0) ai (aS rfl (ld qY rfl rfl)) ?_
      refine ak.lQ (f:=0) ai (br rfl rfl (mX qY rfl rfl)) ?_
      refine ak.nil ?_
      have hts:((dX::dY):List Tree)=ts:=bN.trans (List.take_of_length_le (by omega))
      exact absurd hts.symm (by rw[hne];simp)
    ·
     rcases aK (decide (((jd:Nat):Int)<((ac.length:Nat):Int))) with iq|iq
     ·
      have K0:=of_decide_eq_true iq
      obtain⟨e20,NW⟩:=lC ac jd (by first|omega|(simp;omega))
      have Lx:=(ha e20 (List.mem_of_getElem? NW))
      obtain⟨nS,dO,eN,gC,rfl,ZE,ZF,ZG,ZH,ZI,ZJ⟩:=T.bP Lx
      exact⟨.inl ⟨⟨jd+1,(mS::mU)++([.agg [.str nS,.sl dO,.sl eN,.sl gC]]:List Tree)⟩,⟨⟨(by show(jd+1)≤ac.length;omega),((congrArg (fun l=>l++[_]) qP).trans (dL NW).symm),(by exact qQ.append (cu.cons ⟨rfl,rfl,rfl⟩ .nil)),(by show((mS::mU)++([.agg [.str nS,.sl dO,.sl eN,.sl gC]]:List Tree)).length≤(jd+1);first|omega|(simp only[List.length_append,List.length_cons,List.length_nil,List.length_singleton] at*;omega)|(simp;done)|(simp;omega))⟩,(by show(ac.length - (jd+1))<(ac.length - jd);omega)⟩⟩,bB (f:=0) (n:=3000) (once:=[]) (k:=39) (T:=4) (S:=[.loc [0],.loc [1],.loc [2],.loc [3]]) (ks:=[.loc [0],.loc [1],.loc [2],.loc [3]]) (live:=[2,3,24,25,26]) ah ai [oB iq,oE NW,oC (bf AB (x:=.agg [.str nS,.sl dO,.sl eN,.sl gC]) Lx),oU true 4 ([.agg [.str nS,.sl dO,.sl eN,.sl gC]]:List Tree) (cu.cons ⟨rfl,rfl,rfl⟩ cu.nil) (by simp),oW true 4 (mS::mU) qQ,oA (((mS::mU).length+([.agg [.str nS,.sl dO,.sl eN,.sl gC]]:List Tree).length) *88) (by first|omega|(simp only[List.length_append,List.length_cons,List.length_nil,List.length_singleton] at*;omega)|(simp;done)|(simp;omega)),oI (jd) (by omega),oN (o:=.arr (49,true) 3 false ((flat (dX::dY)).map .t)) (fun _=>bw),oN (o:=.arr (76,true) 4 false ((flat ((mS::mU)++([.agg [.str nS,.sl dO,.sl eN,.sl gC]]:List Tree))).map .t)) (fun _=>bw)] (by kernel_rfl)⟩
     ·
      have K0:=of_decide_eq_false iq
      refine kO ah ai [oB iq] (by kernel_rfl) ?_
      refine uR (f:=0) (n:=3000) (once:=[]) (k:=39) (T:=4) (S:=[.loc [0],.loc [1],.loc [2],.loc [3]]) (ks:=[.loc [0],.loc [1],.loc [2],.loc [3]]) (live:=[2,3,27]) ah ai (Tryz.f10.body.getD .skip) 12 rfl (⟨bH 39 [(2,.ptr (.loc [0]) 0),(3,.ptr (.loc [1]) 0),(27,.t (.bool (decide (((jd:Nat):Int)<((ac.length:Nat):Int)))))],[(.loc [0],.cells 30 [.aL,.aL]),(.loc [1],.cells 30 [.ref (.loc [2]) 0 ((dX::dY).length),.ref (.loc [3]) 0 ((mS::mU).length)]),(.loc [2],.arr (49,true) 3 false ((flat (dX::dY)).map .t)),(.loc [3],.arr (76,true) 4 false ((flat (mS::mU)).map .t))],4⟩) [oN (o:=.arr (49,true) 3 false ((flat (dX::dY)).map .t)) (fun _=>bw),oN (o:=.arr (76,true) 4 false ((flat (mS::mU)).map .t)) (fun _=>bw)] (by kernel_rfl) ?_
      refine AX.re (Re.zk (k:=.loc [1]) (m:=1) 1 rfl rfl (kZ rfl qQ (by decide) rfl rfl)) ?_
      refine AX.region ?_
      refine ak.go (f:=0) ai (aS rfl (ld qY rfl rfl)) ?_
      refine ak.lQ (f:=0) ai (br rfl rfl (mX qY rfl rfl)) ?_
      refine ak.nil ?_
      have hts:((dX::dY):List Tree)=ts:=bN.trans (List.take_of_length_le (by omega))
      exact absurd hts.symm (by rw[hne];simp)
theorem aem (m:Int)(ts ac:List Tree)(lt:ts.length≤4194304)(ht:∀y∈ts,T .aC y)(la:ac.length≤4194304)(ha:∀y∈ac,T .aY y)(hne:ts≠ []):ay (cf m) 10 [.t (.agg [.sl ts,.sl ac])] [] (.ret (.agg [.ref (.loc [1]) 0 ts.length,.t (.sl ac)]) [] [(.loc [1],.arr (49,true) 3 false ((flat ts).map .t))]):=by
  obtain⟨ev,ai,Lu,AB⟩:∃ev,aF (cf m) ev∧Has ev 23 (jP (T .aC) (fun x=>x))∧Has ev 24 (jP (T .aY) (fun x=>x)):=⟨_,(ax (bp (Wd m)) (ax (bp (Wf m)) aH)),az,(aj rfl az)⟩
  refine ay.fu ?_
  refine AX.start 39 1 Tryz.func10 rfl (by decide) rfl rfl (by decide) ?_
  refine AX.frames ?_
  refine eo (f:=0) (n:=3000) (once:=[]) (k:=39) (T:=3) (S:=[.loc [0],.loc [1],.loc [2]]) (ks:=[.loc [0],.loc [1],.loc [2]]) (live:=[1,2,3,9,10,11]) ah ai (α:=Nat×List Tree) (fun x=>(match x.2 with| []=>⟨bH 39 [(1,.ptr (.loc [0]) 0),(2,.ptr (.loc [1]) 0),(3,.ptr (.loc [2]) 0),(9,.t (.sl ts)),(10,.t (.int .i64 ((ts.length:Nat):Int))),(11,.t (.int .i64 ((x.1:Nat):Int)))],[(.loc [0],.cells 30 [.t (.sl ts),.t (.sl ac)]),(.loc [1],.cells 30 [.aL,.aL]),(.loc [2],.cells 30 [.aL,.aL])],3⟩|_::_=>⟨bH 39 [(1,.ptr (.loc [0]) 0),(2,.ptr (.loc [1]) 0),(3,.ptr (.loc [2]) 0),(9,.t (.sl ts)),(10,.t (.int .i64 ((ts.length:Nat):Int))),(11,.t (.int .i64 ((x.1:Nat):Int)))],[(.loc [0],.cells 30 [.t (.sl ts),.t (.sl ac)]),(.loc [1],.cells 30 [.aL,.aL]),(.loc [2],.cells 30 [.ref (.loc [3]) 0 x.2.length,.aL]),(.loc [3],.arr (49,true) 3 false ((flat x.2).map .t))],4⟩)) (fun x=>(x.1≤ts.length)∧(x.2=ts.take x.1)∧(cu true 3 x.2)∧(x.2.length≤x.1)) (fun x=>ts.length - x.1) (⟨0,[]⟩) (iA (Tryz.f10.body.getD .skip) 3) [] (by kernel_rfl) ⟨Nat.zero_le _,rfl,cu.nil,Nat.le_refl _⟩ (fun x hok=> ?_)
  obtain⟨i_1,jL⟩:=x
  replace hok:(i_1≤ts.length)∧(jL=ts.take i_1)∧(cu true 3 jL)∧(jL.length≤i_1):=hok
  obtain⟨iX,bN,gW,CG⟩:=hok
  rcases jL with _|⟨dX,dY⟩
  ·
   rcases aK (decide (((i_1:Nat):Int)<((ts.length:Nat):Int))) with bD|bD
   ·
    have gM:=of_decide_eq_true bD
    obtain⟨e3,gY⟩:=lC ts i_1 (by first|omega|(simp;omega))
    have iI:=(ht e3 (List.mem_of_getElem? gY))
    obtain⟨cq,cI,cE,rfl,mO,kU,mP,jR⟩:=T.bg iI
    exact⟨.inl ⟨⟨i_1+1,([.agg [.str cq,.sl cI,.sl cE]]:List Tree)⟩,⟨⟨(by show(i_1+1)≤ts.length;omega),((congrArg (fun l=>l++[_]) bN).trans (dL gY).symm),(by exact(cu.cons ⟨rfl,rfl,rfl⟩ .nil)),(by show([.agg [.str cq,.sl cI,.sl cE]]:List Tree).length≤(i_1+1);first|omega|(simp only[List.length_append,List.length_cons,List.length_nil,List.length_singleton] at*;omega)|(simp;done)|(simp;omega))⟩,(by show(ts.length - (i_1+1))<(ts.length - i_1);omega)⟩⟩,bB (f:=0) (n:=3000) (once:=[]) (k:=39) (T:=4) (S:=[.loc [0],.loc [1],.loc [2],.loc [13]]) (ks:=[.loc [0],.loc [1],.loc [2],.loc [13]]) (live:=[1,2,3,9,10,11]) ah ai [oB bD,oE gY,oC (bf Lu (x:=.agg [.str cq,.sl cI,.sl cE]) iI),oU true 3 ([.agg [.str cq,.sl cI,.sl cE]]:List Tree) (cu.cons ⟨rfl,rfl,rfl⟩ cu.nil) (by simp),oA (([.agg [.str cq,.sl cI,.sl cE]]:List Tree).length*64) (by first|omega|(simp only[List.length_append,List.length_cons,List.length_nil,List.length_singleton] at*;omega)|(simp;done)|(simp;omega)),oI (i_1) (by omega),oN (o:=.arr (49,true) 3 false ((flat ([.agg [.str cq,.sl cI,.sl cE]]:List Tree)).map .t)) (fun _=>bw)] (by kernel_rfl)⟩
   ·
    have gM:=of_decide_eq_false bD
    refine kO ah ai [oB bD] (by kernel_rfl) ?_
    refine eo (f:=0) (n:=3000) (once:=[]) (k:=39) (T:=2) (S:=[.loc [1],.loc [2]]) (ks:=[.loc [1],.loc [2]]) (live:=[2,3,24,25,26]) ah ai (α:=Nat×List Tree) (fun x=>(match x.2 with| []=>⟨bH 39 [(2,.ptr (.loc [0]) 0),(3,.ptr (.loc [1]) 0),(24,.t (.sl ac)),(25,.t (.int .i64 ((ac.length:Nat):Int))),(26,.t (.int .i64 ((x.1:Nat):Int)))],[(.loc [0],.cells 30 [.aL,.aL]),(.loc [1],.cells 30 [.aL,.aL])],2⟩|_::_=>⟨bH 39 [(2,.ptr (.loc [0]) 0),(3,.ptr (.loc [1]) 0),(24,.t (.sl ac)),(25,.t (.int .i64 ((ac.length:Nat):Int))),(26,.t (.int .i64 ((x.1:Nat):Int)))],[(.loc [0],.cells 30 [.aL,.aL]),(.loc [1],.cells 30 [.aL,.ref (.loc [2]) 0 x.2.length]),(.loc [2],.arr (76,true) 4 false ((flat x.2).map .t))],3⟩)) (fun x=>(x.1≤ac.length)∧(x.2=ac.take x.1)∧(cu true 4 x.2)∧(x.2.length≤x.1)) (fun x=>ac.length - x.1) (⟨0,[]⟩) (iA (Tryz.f10.body.getD .skip) 8) [] (by kernel_rfl) ⟨Nat.zero_le _,rfl,cu.nil,Nat.le_refl _⟩ (fun x hok=> ?_)
    obtain⟨nV,AE⟩:=x
    replace hok:(nV≤ac.length)∧(AE=ac.take nV)∧(cu true 4 AE)∧(AE.length≤nV):=hok
    obtain⟨OM,um,uo,Zr⟩:=hok
    rcases AE with _|⟨uq,ur⟩
    ·
     rcases aK (decide (((nV:Nat):Int)<((ac.length:Nat):Int))) with jX|jX
     ·
      have vM:=of_decide_eq_true jX
      obtain⟨e7,OO⟩:=lC ac nV (by first|omega|(simp;omega))
      have Xd:=(ha e7 (List.mem_of_getElem? OO))
      obtain⟨sZ,eH,fA,iD,rfl,aeg,aeh,aei,aej,aek,ael⟩:=T.bP Xd
      exact⟨.inl ⟨⟨nV+1,([.agg [.str sZ,.sl eH,.sl fA,.sl iD]]:List Tree)⟩,⟨⟨(by show(nV+1)≤ac.length;omega),((congrArg (fun l=>l++[_]) um).trans (dL OO).symm),(by exact(cu.cons ⟨rfl,rfl,rfl⟩ .nil)),(by show([.agg [.str sZ,.sl eH,.sl fA,.sl iD]]:List Tree).length≤(nV+1);first|omega|(simp only[List.length_append,List.length_cons,List.length_nil,List.length_singleton] at*;omega)|(simp;done)|(simp;omega))⟩,(by show(ac.length - (nV+1))<(ac.length - nV);omega)⟩⟩,bB (f:=0) (n:=3000) (once:=[]) (k:=39) (T:=3) (S:=[.loc [0],.loc [1],.loc [12]]) (ks:=[.loc [0],.loc [1],.loc [12]]) (live:=[2,3,24,25,26]) ah ai [oB jX,oE OO,oC (bf AB (x:=.agg [.str sZ,.sl eH,.sl fA,.sl iD]) Xd),oU true 4 ([.agg [.str sZ,.sl eH,.sl fA,.sl iD]]:List Tree) (cu.cons ⟨rfl,rfl,rfl⟩ cu.nil) (by simp),oA (([.agg [.str sZ,.sl eH,.sl fA,.sl iD]]:List Tree).length*88) (by first|omega|(simp only[List.length_append,List.length_cons,List.length_nil,List.length_singleton] at*;omega)|(simp;done)|(simp;omega)),oI (nV) (by omega),oN (o:=.arr (76,true) 4 false ((flat ([.agg [.str sZ,.sl eH,.sl fA,.sl iD]]:List Tree)).map .t)) (fun _=>bw)] (by kernel_rfl)⟩
     ·
      have vM:=of_decide_eq_false jX
      refine kO ah ai [oB jX] (by kernel_rfl) ?_
      refine uR (f:=0) (n:=3000) (once:=[]) (k:=39) (T:=2) (S:=[.loc [0],.loc [1]]) (ks:=[.loc [0],.loc [1]]) (live:=[2,3,27]) ah ai (Tryz.f10.body.getD .skip) 12 rfl (⟨bH 39 [(2,.ptr (.loc [0]) 0),(3,.ptr (.loc [1]) 0),(27,.t (.bool (decide (((nV:Nat):Int)<((ac.length:Nat):Int)))))],[(.loc [0],.cells 30 [.aL,.aL]),(.loc [1],.cells 30 [.aL,.aL])],2⟩) [] (by kernel_rfl) ?_
      refine AX.re (Re.zk (k:=.loc [1]) (m:=1) 1 rfl rfl sK) ?_
      refine AX.region ?_
      refine ak.go (f:=0) ai (aS rfl (ld qY rfl rfl)) ?_
      refine ak.lQ (f:=0) ai (br rfl rfl (mX qY rfl rfl)) ?_
      refine ak.nil ?_
      have hts:([]:List Tree)=ts:=bN.trans (List.take_of_length_le (by omega))
      exact absurd hts.symm (hne)
    ·
     rcases aK (decide (((nV:Nat):Int)<((ac.length:Nat):Int))) with rN|rN
     ·
      have D5:=of_decide_eq_true rN
      obtain⟨e10,NU⟩:=lC ac nV (by first|omega|(simp;omega))
      have Lv:=(ha e10 (List.mem_of_getElem? NU))
      obtain⟨nQ,dM,eL,gu,rfl,Zs,Zt,Zu,Zv,Zw,Zx⟩:=T.bP Lv
      exact⟨.inl ⟨⟨nV+1,(uq::ur)++([.agg [.str nQ,.sl dM,.sl eL,.sl gu]]:List Tree)⟩,⟨⟨(by show(nV+1)≤ac.length;omega),((congrArg (fun l=>l++[_]) um).trans (dL NU).symm),(by exact uo.append (cu.cons ⟨rfl,rfl,rfl⟩ .nil)),(by show((uq::ur)++([.agg [.str nQ,.sl dM,.sl eL,.sl gu]]:List Tree)).length≤(nV+1);first|omega|(simp only[List.length_append,List.length_cons,List.length_nil,List.length_singleton] at*;omega)|(simp;done)|(simp;omega))⟩,(by show(ac.length - (nV+1))<(ac.length - nV);omega)⟩⟩,bB (f:=0) (n:=3000) (once:=[]) (k:=39) (T:=3) (S:=[.loc [0],.loc [1],.loc [2]]) (ks:=[.loc [0],.loc [1],.loc [2]]) (live:=[2,3,24,25,26]) ah ai [oB rN,oE NU,oC (bf AB (x:=.agg [.str nQ,.sl dM,.sl eL,.sl gu]) Lv),oU true 4 ([.agg [.str nQ,.sl dM,.sl eL,.sl gu]]:List Tree) (cu.cons ⟨rfl,rfl,rfl⟩ cu.nil) (by simp),oW true 4 (uq::ur) uo,oA (((uq::ur).length+([.agg [.str nQ,.sl dM,.sl eL,.sl gu]]:List Tree).length) *88) (by first|omega|(simp only[List.length_append,List.length_cons,List.length_nil,List.length_singleton] at*;omega)|(simp;done)|(simp;omega)),oI (nV) (by omega),oN (o:=.arr (76,true) 4 false ((flat ((uq::ur)++([.agg [.str nQ,.sl dM,.sl eL,.sl gu]]:List Tree))).map .t)) (fun _=>bw)] (by kernel_rfl)⟩
     ·
      have D5:=of_decide_eq_false rN
      refine kO ah ai [oB rN] (by kernel_rfl) ?_
      refine uR (f:=0) (n:=3000) (once:=[]) (k:=39) (T:=3) (S:=[.loc [0],.loc [1],.loc [2]]) (ks:=[.loc [0],.loc [1],.loc [2]]) (live:=[2,3,27]) ah ai (Tryz.f10.body.getD .skip) 12 rfl (⟨bH 39 [(2,.ptr (.loc [0]) 0),(3,.ptr (.loc [1]) 0),(27,.t (.bool (decide (((nV:Nat):Int)<((ac.length:Nat):Int)))))],[(.loc [0],.cells 30 [.aL,.aL]),(.loc [1],.cells 30 [.aL,.ref (.loc [2]) 0 ((uq::ur).length)]),(.loc [2],.arr (76,true) 4 false ((flat (uq::ur)).map .t))],3⟩) [oN (o:=.arr (76,true) 4 false ((flat (uq::ur)).map .t)) (fun _=>bw)] (by kernel_rfl) ?_
      refine AX.re (Re.zk (k:=.loc [1]) (m:=1) 1 rfl rfl (kZ rfl uo (by decide) rfl rfl)) ?_
      refine AX.region ?_
      refine ak.go (f:=0) ai (aS rfl (ld qY rfl rfl)) ?_
      refine ak.lQ (f:=0) ai (br rfl rfl (mX qY rfl rfl)) ?_
      refine ak.nil ?_
      have hts:([]:List Tree)=ts:=bN.trans (List.take_of_length_le (by omega))
      exact absurd hts.symm (hne)
  ·
   rcases aK (decide (((i_1:Nat):Int)<((ts.length:Nat):Int))) with iB|iB
   ·
    have qD:=of_decide_eq_true iB
    obtain⟨e13,tV⟩:=lC ts i_1 (by first|omega|(simp;omega))
    have Em:=(ht e13 (List.mem_of_getElem? tV))
    obtain⟨kP,gy,jm,rfl,O8,O9,Pa,Pb⟩:=T.bg Em
    exact⟨.inl ⟨⟨i_1+1,(dX::dY)++([.agg [.str kP,.sl gy,.sl jm]]:List Tree)⟩,⟨⟨(by show(i_1+1)≤ts.length;omega),((congrArg (fun l=>l++[_]) bN).trans (dL tV).symm),(by exact gW.append (cu.cons ⟨rfl,rfl,rfl⟩ .nil)),(by show((dX::dY)++([.agg [.str kP,.sl gy,.sl jm]]:List Tree)).length≤(i_1+1);first|omega|(simp only[List.length_append,List.length_cons,List.length_nil,List.length_singleton] at*;omega)|(simp;done)|(simp;omega))⟩,(by show(ts.length - (i_1+1))<(ts.length - i_1);omega)⟩⟩,bB (f:=0) (n:=3000) (once:=[]) (k:=39) (T:=4) (S:=[.loc [0],.loc [1],.loc [2],.loc [3]]) (ks:=[.loc [0],.loc [1],.loc [2],.loc [3]]) (live:=[1,2,3,9,10,11]) ah ai [oB iB,oE tV,oC (bf Lu (x:=.agg [.str kP,.sl gy,.sl jm]) Em),oU true 3 ([.agg [.str kP,.sl gy,.sl jm]]:List Tree) (cu.cons ⟨rfl,rfl,rfl⟩ cu.nil) (by simp),oW true 3 (dX::dY) gW,oA (((dX::dY).length+([.agg [.str kP,.sl gy,.sl jm]]:List Tree).length) *64) (by first|omega|(simp only[List.length_append,List.length_cons,List.length_nil,List.length_singleton] at*;omega)|(simp;done)|(simp;omega)),oI (i_1) (by omega),oN (o:=.arr (49,true) 3 false ((flat ((dX::dY)++([.agg [.str kP,.sl gy,.sl jm]]:List Tree))).map .t)) (fun _=>bw)] (by kernel_rfl)⟩
   ·
    have qD:=of_decide_eq_false iB
    refine kO ah ai [oB iB] (by kernel_rfl) ?_
    refine eo (f:=0) (n:=3000) (once:=[]) (k:=39) (T:=3) (S:=[.loc [1],.loc [2],.loc [3]]) (ks:=[.loc [1],.loc [2],.loc [3]]) (live:=[2,3,24,25,26]) ah ai (α:=Nat×List Tree) (fun x=>(match x.2 with| []=>⟨bH 39 [(2,.ptr (.loc [0]) 0),(3,.ptr (.loc [1]) 0),(24,.t (.sl ac)),(25,.t (.int .i64 ((ac.length:Nat):Int))),(26,.t (.int .i64 ((x.1:Nat):Int)))],[(.loc [0],.cells 30 [.aL,.aL]),(.loc [1],.cells 30 [.ref (.loc [2]) 0 ((dX::dY).length),.aL]),(.loc [2],.arr (49,true) 3 false ((flat (dX::dY)).map .t))],3⟩|_::_=>⟨bH 39 [(2,.ptr (.loc [0]) 0),(3,.ptr (.loc [1]) 0),(24,.t (.sl ac)),(25,.t (.int .i64 ((ac.length:Nat):Int))),(26,.t (.int .i64 ((x.1:Nat):Int)))],[(.loc [0],.cells 30 [.aL,.aL]),(.loc [1],.cells 30 [.ref (.loc [2]) 0 ((dX::dY).length),.ref (.loc [3]) 0 x.2.length]),(.loc [2],.arr (49,true) 3 false ((flat (dX::dY)).map .t)),(.loc [3],.arr (76,true) 4 false ((flat x.2).map .t))],4⟩)) (fun x=>(x.1≤ac.length)∧(x.2=ac.take x.1)∧(cu true 4 x.2)∧(x.2.length≤x.1)) (fun x=>ac.length - x.1) (⟨0,[]⟩) (iA (Tryz.f10.body.getD .skip) 8) [oN (o:=.arr (49,true) 3 false ((flat (dX::dY)).map .t)) (fun _=>bw)] (by kernel_rfl) ⟨Nat.zero_le _,rfl,cu.nil,Nat.le_refl _⟩ (fun x hok=> ?_)
    obtain⟨jd,uv⟩:=x
    replace hok:(jd≤ac.length)∧(uv=ac.take jd)∧(cu true 4 uv)∧(uv.length≤jd):=hok
    obtain⟨Xe,qP,qQ,Xf⟩:=hok
    rcases uv with _|⟨mS,mU⟩
    ·
     rcases aK (decide (((jd:Nat):Int)<((ac.length:Nat):Int))) with hc16|hc16
     ·
      have Eh:=of_decide_eq_true hc16
      obtain⟨e17,NV⟩:=lC ac jd (by first|omega|(simp;omega))
      have Lw:=(ha e17 (List.mem_of_getElem? NV))
      obtain⟨nR,dN,eM,gA,rfl,Zy,Zz,ZA,ZB,ZC,ZD⟩:=T.bP Lw
      exact⟨.inl ⟨⟨jd+1,([.agg [.str nR,.sl dN,.sl eM,.sl gA]]:List Tree)⟩,⟨⟨(by show(jd+1)≤ac.length;omega),((congrArg (fun l=>l++[_]) qP).trans (dL NV).symm),(by exact(cu.cons ⟨rfl,rfl,rfl⟩ .nil)),(by show([.agg [.str nR,.sl dN,.sl eM,.sl gA]]:List Tree).length≤(jd+1);first|omega|(simp only[List.length_append,List.length_cons,List.length_nil,List.length_singleton] at*;omega)|(simp;done)|(simp;omega))⟩,(by show(ac.length - (jd+1))<(ac.length - jd);omega)⟩⟩,bB (f:=0) (n:=3000) (once:=[]) (k:=39) (T:=4) (S:=[.loc [0],.loc [1],.loc [2],.loc [13]]) (ks:=[.loc [0],.loc [1],.loc [2],.loc [13]]) (live:=[2,3,24,25,26]) ah ai [oB hc16,oE NV,oC (bf AB (x:=.agg [.str nR,.sl dN,.sl eM,.sl gA]) Lw),oU true 4 ([.agg [.str nR,.sl dN,.sl eM,.sl gA]]:List Tree) (cu.cons ⟨rfl,rfl,rfl⟩ cu.nil) (by simp),oA (([.agg [.str nR,.sl dN,.sl eM,.sl gA]]:List Tree).length*88) (by first|omega|(simp only[List.length_append,List.length_cons,List.length_nil,List.length_singleton] at*;omega)|(simp;done)|(simp;omega)),oI (jd) (by omega),oN (o:=.arr (49,true) 3 false ((flat (dX::dY)).map .t)) (fun _=>bw),oN (o:=.arr (76,true) 4 false ((flat ([.agg [.str nR,.sl dN,.sl eM,.sl gA]]:List Tree)).map .t)) (fun _=>bw)] (by kernel_rfl)⟩
     ·
      have Eh:=of_decide_eq_false hc16
      refine kO ah ai [oB hc16] (by kernel_rfl) ?_
      refine uR (f:=0) (n:=3000) (once:=[]) (k:=39) (T:=3) (S:=[.loc [0],.loc [1],.loc [2]]) (ks:=[.loc [0],.loc [1],.loc [2]]) (live:=[2,3,27]) ah ai (Tryz.f10.body.getD .skip) 12 rfl (⟨bH 39 [(2,.ptr (.loc [0]) 0),(3,.ptr (.loc [1]) 0),(27,.t (.bool (decide (((jd:Nat):Int)<((ac.length:Nat):Int)))))],[(.loc [0],.cells 30 [.aL,.aL]),(.loc [1],.cells 30 [.ref (.loc [2]) 0 ((dX::dY).length),.aL]),(.loc [2],.arr (49,true) 3 false ((flat (dX::dY)).map .t))],3⟩) [oN (o:=.arr (49,true) 3 false ((flat (dX::dY)).map .t)) (fun _=>bw)] (by kernel_rfl) ?_
      refine AX.re (Re.zk (k:=.loc [1]) (m:=1) 1 rfl rfl sK) ?_
      refine AX.region ?_
      refine ak.go (f:=0) ai (aS rfl (ld qY rfl rfl)) ?_
      refine ak.lQ (f:=0) ai (br rfl rfl (mX qY rfl rfl)) ?_
      refine ak.nil ?_
      refine Ys (f:=0) (n:=3000) (once:=[]) (k:=39) (T:=2) (S:=[.loc [0],.loc [2]]) (ks:=[.loc [0],.loc [2]]) (live:=[2]) ah ai .ret (⟨bH 39 [(2,.ptr (.loc [0]) 0)],[(.loc [0],.cells 30 [.ref (.loc [1]) 0 ((dX::dY).length),.t (.sl [])]),(.loc [1],.arr (49,true) 3 false ((flat (dX::dY)).map .t))],2⟩) [oN (o:=.arr (49,true) 3 false ((flat (dX::dY)).map .t)) (fun _=>bw)] (by kernel_rfl) (by kernel_rfl) ?_
      have hac:([]:List Tree)=ac:=qP.trans (List.take_of_length_le (by omega))
      subst hac
      have hts:((dX::dY):List Tree)=ts:=bN.trans (List.take_of_length_le (by omega))
      subst hts
      exact⟨(),.inr (Oo rfl rfl rfl rfl)⟩
    ·
     rcases aK (decide (((jd:Nat):Int)<((ac.length:Nat):Int))) with iq|iq
     ·
      have K0:=of_decide_eq_true iq
      obtain⟨e20,NW⟩:=lC ac jd (by first|omega|(simp;omega))
      have Lx:=(ha e20 (List.mem_of_getElem? NW))
      obtain⟨nS,dO,eN,gC,rfl,ZE,ZF,ZG,ZH,ZI,ZJ⟩:=T.bP Lx
      exact⟨.inl ⟨⟨jd+1,(mS::mU)++([.agg [.str nS,.sl dO,.sl eN,.sl gC]]:List Tree)⟩,⟨⟨(by show(jd+1)≤ac.length;omega),((congrArg (fun l=>l++[_]) qP).trans (dL NW).symm),(by exact qQ.append (cu.cons ⟨rfl,rfl,rfl⟩ .nil)),(by show((mS::mU)++([.agg [.str nS,.sl dO,.sl eN,.sl gC]]:List Tree)).length≤(jd+1);first|omega|(simp only[List.length_append,List.length_cons,List.length_nil,List.length_singleton] at*;omega)|(simp;done)|(simp;omega))⟩,(by show(ac.length - (jd+1))<(ac.length - jd);omega)⟩⟩,bB (f:=0) (n:=3000) (once:=[]) (k:=39) (T:=4) (S:=[.loc [0],.loc [1],.loc [2],.loc [3]]) (ks:=[.loc [0],.loc [1],.loc [2],.loc [3]]) (live:=[2,3,24,25,26]) ah ai [oB iq,oE NW,oC (bf AB (x:=.agg [.str nS,.sl dO,.sl eN,.sl gC]) Lx),oU true 4 ([.agg [.str nS,.sl dO,.sl eN,.sl gC]]:List Tree) (cu.cons ⟨rfl,rfl,rfl⟩ cu.nil) (by simp),oW true 4 (mS::mU) qQ,oA (((mS::mU).length+([.agg [.str nS,.sl dO,.sl eN,.sl gC]]:List Tree).length) *88) (by first|omega|(simp only[List.length_append,List.length_cons,List.length_nil,List.length_singleton] at*;omega)|(simp;done)|(simp;omega)),oI (jd) (by omega),oN (o:=.arr (49,true) 3 false ((flat (dX::dY)).map .t)) (fun _=>bw),oN (o:=.arr (76,true) 4 false ((flat ((mS::mU)++([.agg [.str nS,.sl dO,.sl eN,.sl gC]]:List Tree))).map .t)) (fun _=>bw)] (by kernel_rfl)⟩
     ·
      have K0:=of_decide_eq_false iq
      refine kO ah ai [oB iq] (by kernel_rfl) ?_
      refine uR (f:=0) (n:=3000) (once:=[]) (k:=39) (T:=4) (S:=[.loc [0],.loc [1],.loc [2],.loc [3]]) (ks:=[.loc [0],.loc [1],.loc [2],.loc [3]]) (live:=[2,3,27]) ah ai (Tryz.f10.body.getD .skip) 12 rfl (⟨bH 39 [(2,.ptr (.loc [0]) 0),(3,.ptr (.loc [1]) 0),(27,.t (.bool (decide (((jd:Nat):Int)<((ac.length:Nat):Int)))))],[(.loc [0],.cells 30 [.aL,.aL]),(.loc [1],.cells 30 [.ref (.loc [2]) 0 ((dX::dY).length),.ref (.loc [3]) 0 ((mS::mU).length)]),(.loc [2],.arr (49,true) 3 false ((flat (dX::dY)).map .t)),(.loc [3],.arr (76,true) 4 false ((flat (mS::mU)).map .t))],4⟩) [oN (o:=.arr (49,true) 3 false ((flat (dX::dY)).map .t)) (fun _=>bw),oN (o:=.arr (76,true) 4 false ((flat (mS::mU)).map .t)) (fun _=>bw)] (by kernel_rfl) ?_
      refine AX.re (Re.zk (k:=.loc [1]) (m:=1) 1 rfl rfl (kZ rfl qQ (by decide) rfl rfl)) ?_
      refine AX.region ?_
      refine ak.go (f:=0) ai (aS rfl (ld qY rfl rfl)) ?_
      refine ak.lQ (f:=0) ai (br rfl rfl (mX qY rfl rfl)) ?_
      refine ak.nil ?_
      refine Ys (f:=0) (n:=3000) (once:=[]) (k:=39) (T:=2) (S:=[.loc [0],.loc [2]]) (ks:=[.loc [0],.loc [2]]) (live:=[2]) ah ai .ret (⟨bH 39 [(2,.ptr (.loc [0]) 0)],[(.loc [0],.cells 30 [.ref (.loc [1]) 0 ((dX::dY).length),.t (.sl (mS::mU))]),(.loc [1],.arr (49,true) 3 false ((flat (dX::dY)).map .t))],2⟩) [oN (o:=.arr (49,true) 3 false ((flat (dX::dY)).map .t)) (fun _=>bw)] (by kernel_rfl) (by kernel_rfl) ?_
      have hac:((mS::mU):List Tree)=ac:=qP.trans (List.take_of_length_le (by omega))
      subst hac
      have hts:((dX::dY):List Tree)=ts:=bN.trans (List.take_of_length_le (by omega))
      subst hts
      exact⟨(),.inr (Oo rfl rfl rfl rfl)⟩
end
end Go.Proofs.YtijfhoelihclbaaGreatDoor.w.e

namespace Go.Proofs.YtijfhoelihclbaaGreatDoor.w.e
open Go Go.Abs Go.Abs.Ty
set_option linter.unusedVariables false
set_option maxRecDepth 100000
set_option maxHeartbeats 2000000
noncomputable section
abbrev akQ:TI:={size:=6,bytes:=96,agg:=true,zero:=some (.agg [.t (.int .u8 0),.t (.int .i64 0),.t (.str []),.t (.str []),.aL,.aL]),desc:=descOf 26}
theorem ahE {m:Int}:(cf m).P.ty 26=some akQ:=by kernel_rfl
abbrev akR:TI:={size:=3,bytes:=56,agg:=true,zero:=some (.agg [.t (.str []),.t (.str []),.aL]),desc:=descOf 33}
theorem ahF {m:Int}:(cf m).P.ty 33=some akR:=by kernel_rfl
theorem ahG {m:Int}:bld (cf m).P 49=some ([.t (.str []),.aL,.aL],[(0,1),(1,1),(2,1)]):=by kernel_rfl
theorem I5 {m:Int}:eX (cf m).P 30 0=some 0:=by kernel_rfl
theorem rR {l:List Tree}(h:∀y∈l,T .aC y):cu true 3 l:=fun y hy=>by
 obtain⟨name,parents,attrs,rfl,_,_,_,_⟩:=T.bg (h y hy)
 exact⟨rfl,rfl,rfl⟩
def vT (E:Env):Tree:=.agg [.str E.p,.str E.r,.sl E.c]
def RB (p:Tree×Int):Tree:=.bX [p.1,.int .i64 p.2]
def EY (m:Int)(n:Nat)(e:Tree)(E1 E2:Env):List TV→List aV→Option bG:=Iw (px [.t e,.t (NR E1),.t (vT E1)] [] (.ret (.t (RB (eC m n E1 e))) [] [])) (px [.t e,.t (NR E2),.t (vT E2)] [] (.ret (.t (RB (eC m n E2 e))) [] []))
theorem GH (m:Int)(n:Nat)(e:Tree)(E1 E2:Env)(h1:R3 (cf m) 7 e (NR E1) (vT E1) (RB (eC m n E1 e)))(h2:R3 (cf m) 7 e (NR E2) (vT E2) (RB (eC m n E2 e))):kY (cf m) 7 (EY m n e E1 E2):=Iy (jY h1) (jY h2)
theorem Lz {ev:aW}{m:Int}{n:Nat}{e:Tree}{E1 E2:Env}(h:Has ev 7 (EY m n e E1 E2)):ev 7 [.t e,.t (NR E1),.t (vT E1)] []=some (.ret (.t (RB (eC m n E1 e))) [] []):=lH (Iz h)
theorem LM {ev:aW}{m:Int}{n:Nat}{e:Tree}{E1 E2:Env}(h:Has ev 7 (EY m n e E1 E2))(hne:E2.ts.length≠E1.ts.length):ev 7 [.t e,.t (NR E2),.t (vT E2)] []=some (.ret (.t (RB (eC m n E2 e))) [] []):=VC h (by
 unfold px
 rw[if_neg]
 rintro ⟨q,_⟩
 unfold NR at q
 simp only[List.cons.injEq,TV.t.injEq,Tree.agg.injEq,Tree.sl.injEq] at q
 exact hne (by rw[q.2.1.1]))
theorem aen (m:Int)(op n:Int)(s t:List UInt8)(ns ks:List Tree)(ln:ns.length≤4194304)(FA:∀y∈ns,T .string y)(lk:ks.length≤4194304)(hks:∀y∈ks,T .bJ y)(t0:Tree)(tr:List Tree)(lt1:(t0::tr).length+1≤4194304)(ht:∀y∈(t0::tr),T .aC y)(ac:List Tree)(la:ac.length≤4194304)(ha:∀y∈ac,T .aY y)(p r:List UInt8)(c:List Tree)(lc:c.length≤4194304)(hc:∀y∈c,T .bh y)(nm:List UInt8)(n_:Nat)(hD:vV m (.agg [.int .u8 op,.int .i64 n,.str s,.str t,.sl ns,.sl ks])=0→DE n_ (.agg [.int .u8 op,.int .i64 n,.str s,.str t,.sl ns,.sl ks])):ay (cf m) 4 [.t (.agg [.int .u8 op,.int .i64 n,.str s,.str t,.sl ns,.sl ks]),.t (.agg [.sl (t0::tr),.sl ac]),.t (.agg [.str p,.str r,.sl c]),.t (.str nm)] [] (.ret (.t (.bool true)) [] []):=by
  have lt:((t0::tr)).length≤4194304:=by omega
  have hXE:T .bJ (.agg [.int .u8 op,.int .i64 n,.str s,.str t,.sl ns,.sl ks]):=.bJ _ _ _ _ _ _ ln FA lk hks
  have hNT:T .aC (.agg [.str nm,.sl [],.sl []]):=.aC _ _ _ (by simp) (by simp) (by simp) (by simp)
  have ZK:∀y∈(t0::tr)++([.agg [.str nm,.sl [],.sl []]]:List Tree),T .aC y:=fun y hy=>by
    rcases List.mem_append.1 hy with hy|hy
    · exact ht y hy
    · rw[List.mem_singleton.1 hy];exact hNT
  have hyl:((t0::tr)++([.agg [.str nm,.sl [],.sl []]]:List Tree)).length≤4194304:=by simp only[List.length_append,List.length_singleton];omega
  let E1:Env:=⟨(t0::tr),ac,p,r,c⟩
  let E2:Env:=⟨(t0::tr)++([.agg [.str nm,.sl [],.sl []]]:List Tree),ac,p,r,c⟩
  have hE1:uM E1:=⟨lt,ht,la,ha,lc,hc⟩
  have hE2:uM E2:=⟨hyl,ZK,la,ha,lc,hc⟩
  have Xg:=PU m E1 hE1 _ hXE n_ hD
  have Xh:=PU m E2 hE2 _ hXE n_ hD
  obtain⟨ev,ai,aeo,aep,LN,uG,vI⟩:∃ev,aF (cf m) ev∧Has ev 6 (pc0 (.bool true))∧Has ev 10 (px [.t (.agg [.sl (t0::tr),.sl ac])] [] (.ret (.agg [.ref (.loc [1]) 0 (t0::tr).length,.t (.sl ac)]) [] [(.loc [1],.arr (49,true) 3 false ((flat (t0::tr)).map .t))]))∧Has ev 7 (EY m n_ (.agg [.int .u8 op,.int .i64 n,.str s,.str t,.sl ns,.sl ks]) E1 E2)∧Has ev 11 (jP (T .dw) fun x=>.int .i64 (Ag m x))∧Has ev 8 (r7 (fun x y=>T .aD x∧T .aD y) fun x y=>.bool (same x y)):=⟨_,(ax ((Tt (KO m))) (ax ((jY (aem m _ ac lt ht la ha (by simp)))) (ax ((GH m n_ (.agg [.int .u8 op,.int .i64 n,.str s,.str t,.sl ns,.sl ks]) E1 E2 Xg Xh)) (ax ((bp (IE m))) (ax ((dH (Po m))) aH))))),az,(aj rfl az),(aj rfl (aj rfl az)),(aj rfl (aj rfl (aj rfl az))),(aj rfl (aj rfl (aj rfl (aj rfl az))))⟩
  refine ay.fu ?_
  refine AX.start 60 4 Tryz.func4 rfl (by decide) rfl rfl (by decide) ?_
  refine AX.frames ?_
  refine uR (f:=0) (n:=3000) (once:=[]) (k:=60) (T:=3) (S:=[.loc [0],.loc [1],.loc [2]]) (ks:=[.loc [0],.loc [1],.loc [2]]) (live:=[3,4,5,6,8,15]) ah ai (Tryz.f4.body.getD .skip) 3 rfl (⟨bH 60 [(3,.t (.str nm)),(4,.ptr (.loc [0]) 0),(5,.ptr (.loc [1]) 0),(6,.ptr (.loc [2]) 0),(8,.t (.bool false)),(15,.t (.bool false))],[(.loc [0],.cells 26 [.t (.int .u8 op),.t (.int .i64 n),.t (.str s),.t (.str t),.t (.sl ns),.t (.sl ks)]),(.loc [1],.cells 30 [.t (.sl (t0::tr)),.t (.sl ac)]),(.loc [2],.cells 33 [.t (.str p),.t (.str r),.t (.sl c)])],3⟩) [oC (ae7 aeo),oF] (by kernel_rfl) ?_
  refine AX.region ?_
  refine ak.go (f:=0) ai (aS rfl (ld qY rfl rfl)) ?_
  refine ak.go (f:=0) ai (rH (eU rfl) rfl rfl (by decide) rfl rfl (lH aep) rfl rfl Ba) ?_
  refine ak.go (f:=0) ai (gQ qY rfl rfl) ?_
  refine ak.lQ (f:=0) ai (br rfl rfl (mX qY rfl rfl)) ?_
  refine ak.nil ?_
  refine uR (f:=0) (n:=3000) (once:=[]) (k:=60) (T:=5) (S:=[.loc [0],.loc [1],.loc [2],.loc [5],.loc [4,1]]) (ks:=[.loc [0],.loc [1],.loc [2],.loc [5],.loc [4,1]]) (live:=[3,4,5,6,8,9,15]) ah ai (Tryz.f4.body.getD .skip) 4 rfl (⟨bH 60 [(3,.t (.str nm)),(4,.ptr (.loc [0]) 0),(5,.ptr (.loc [1]) 0),(6,.ptr (.loc [2]) 0),(8,.t (.bool false)),(9,.ptr (.loc [3]) 0),(15,.t (.bool false))],[(.loc [0],.cells 26 [.t (.int .u8 op),.t (.int .i64 n),.t (.str s),.t (.str t),.t (.sl ns),.t (.sl ks)]),(.loc [1],.cells 30 [.t (.sl (t0::tr)),.t (.sl ac)]),(.loc [2],.cells 33 [.t (.str p),.t (.str r),.t (.sl c)]),(.loc [3],.cells 30 [.ref (.loc [4]) 0 ((t0::tr).length),.t (.sl ac)]),(.loc [4],.arr (49,true) 3 false ((flat (t0::tr)).map .t))],5⟩) [oN (o:=.arr (49,true) 3 false ((flat (t0::tr)).map .t)) (fun _=>bw)] (by kernel_rfl) ?_
  refine AX.region ?_
  refine ak.go (f:=0) ai (aB rfl I5 rfl) ?_
  refine ak.go (f:=0) ai (aS rfl (ld NT rfl rfl)) ?_
  refine ak.go (f:=0) ai (av rfl) ?_
  refine ak.go (f:=0) ai (rE rfl ahG rfl rfl) ?_
  refine ak.re (Re.dat 21 rfl rfl) ?_
  refine ak.go (f:=0) ai (Ms rfl rfl NT rfl Wt rfl rfl ⟨rfl,rfl,rfl⟩) ?_
  refine ak.go (f:=0) ai (X5 aa4 rfl rfl (.inr rfl) rfl (by first|rfl|(simp;done)|(simp;omega)) (rR ht) (cu.cons ⟨rfl,rfl,rfl⟩ cu.nil) (by simp) (by show _*64≤70368744177664;first|omega|(simp only[List.length_append,List.length_cons,List.length_nil,List.length_singleton] at*;omega)|(simp;done)|(simp;omega))) ?_
  refine ak.go (f:=0) ai (aB rfl I5 rfl) ?_
  refine ak.lQ (f:=0) ai (br rfl rfl (mX NT rfl rfl)) ?_
  refine ak.nil ?_
  refine uR (f:=0) (n:=3000) (once:=[]) (k:=60) (T:=5) (S:=[.loc [0],.loc [1],.loc [2],.loc [3],.loc [4]]) (ks:=[.loc [0],.loc [1],.loc [2],.loc [3],.loc [4]]) (live:=[4,5,6,8,9,15]) ah ai (Tryz.f4.body.getD .skip) 5 rfl (⟨bH 60 [(4,.ptr (.loc [0]) 0),(5,.ptr (.loc [1]) 0),(6,.ptr (.loc [2]) 0),(8,.t (.bool false)),(9,.ptr (.loc [3]) 0),(15,.t (.bool false))],[(.loc [0],.cells 26 [.t (.int .u8 op),.t (.int .i64 n),.t (.str s),.t (.str t),.t (.sl ns),.t (.sl ks)]),(.loc [1],.cells 30 [.t (.sl (t0::tr)),.t (.sl ac)]),(.loc [2],.cells 33 [.t (.str p),.t (.str r),.t (.sl c)]),(.loc [3],.cells 30 [.ref (.loc [4]) 0 (((t0::tr)++([.agg [.str nm,.sl [],.sl []]]:List Tree)).length),.t (.sl ac)]),(.loc [4],.arr (49,true) 3 false ((flat ((t0::tr)++([.agg [.str nm,.sl [],.sl []]]:List Tree))).map .t))],5⟩) [oN (o:=.arr (49,true) 3 false ((flat ((t0::tr)++([.agg [.str nm,.sl [],.sl []]]:List Tree))).map .t)) (fun _=>bw)] (by kernel_rfl) ?_
  refine AX.re (Re.zk (k:=.loc [3]) (m:=1) 0 rfl rfl (kZ (es:=(t0::tr)++([.agg [.str nm,.sl [],.sl []]]:List Tree)) rfl ((rR ht).append (cu.cons ⟨rfl,rfl,rfl⟩ .nil)) (by decide) (by first|rfl|simp) rfl)) ?_
  refine AX.re (st':=⟨bH 60 [(4,.ptr (.loc [0]) 0),(5,.ptr (.loc [1]) 0),(6,.ptr (.loc [2]) 0),(8,.t (.bool false)),(9,.ptr (.loc [3]) 0),(15,.t (.bool false))],[(.loc [0],.cells 26 [.t (.int .u8 op),.t (.int .i64 n),.t (.str s),.t (.str t),.t (.sl ns),.t (.sl ks)]),(.loc [1],.cells 30 [.t (.sl (t0::tr)),.t (.sl ac)]),(.loc [2],.cells 33 [.t (.str p),.t (.str r),.t (.sl c)]),(.loc [3],.cells 30 [.t (.sl ((t0::tr)++([.agg [.str nm,.sl [],.sl []]]:List Tree))),.t (.sl ac)])],4⟩) (Re.sq [.loc [0],.loc [1],.loc [2],.loc [3]] ⟨rfl,rfl,rfl,rfl,rfl,rfl,trivial⟩ ⟨⟨.loc [0],_,rfl,rfl,.inl rfl⟩,⟨.loc [1],_,rfl,rfl,.inl rfl⟩,⟨.loc [2],_,rfl,rfl,.inl rfl⟩,⟨.loc [3],_,rfl,rfl,.inl rfl⟩,trivial⟩ (by decide) rfl rfl (by decide)) ?_
  refine AX.region ?_
  refine ak.go (f:=0) ai (aS rfl (ld ahE rfl rfl)) ?_
  refine ak.go (f:=0) ai (aS rfl (ld qY rfl rfl)) ?_
  refine ak.go (f:=0) ai (aS rfl (ld ahF rfl rfl)) ?_
  have ez1:ev 7 [.t (.agg [.int .u8 op,.int .i64 n,.str s,.str t,.sl ns,.sl ks]),.t (.agg [.sl (t0::tr),.sl ac]),.t (.agg [.str p,.str r,.sl c])] []=some (bG.ret (.t (.bX [(eC m n_ E1 (.agg [.int .u8 op,.int .i64 n,.str s,.str t,.sl ns,.sl ks])).1,.int .i64 (eC m n_ E1 (.agg [.int .u8 op,.int .i64 n,.str s,.str t,.sl ns,.sl ks])).2])) [] []):=Lz (E1:=E1) (E2:=E2) LN
  have ng:=I4 hE1 hD
  obtain⟨cO,cH,bK,aQ,eq_2,Nk,yb,Vv,Eu⟩:=T.aR ng
  rw[eq_2] at ng
  have Za:=ez1
  rw[eq_2] at Za
  refine ak.go (f:=0) ai (bU (rh3 rfl rfl rfl) Za) ?_
  refine ak.go (f:=0) ai (av rfl) ?_
  refine ak.go (f:=0) ai (cW rfl rfl) ?_
  refine ak.go (f:=0) ai (cW rfl rfl) ?_
  refine ak.go (f:=0) ai (gQ eu rfl rfl) ?_
  refine ak.lQ (f:=0) ai (br rfl rfl (mX eu rfl rfl)) ?_
  refine ak.go (f:=0) ai (au rfl) ?_
  refine ak.nil ?_
  rcases aK (((eC m n_ E1 (.agg [.int .u8 op,.int .i64 n,.str s,.str t,.sl ns,.sl ks])).2 != 0)) with hg4|hg4
  ·
   have D4:=aA hg4
   rcases aK ((same (.agg [.int .u8 cO,.str cH,.sl bK,.sl aQ]) (.agg [.int .u8 0,.str [],.sl [],.sl []]))) with bu|bu
   ·
    exact⟨(),kF ah ai [oB hg4,oB hg4,oB hg4,oB hg4,oT,oC (show ev 8 [.t (.agg [.int .u8 cO,.str cH,.sl bK,.sl aQ]),.t (.agg [.int .u8 0,.str [],.sl [],.sl []])] []=some (bG.ret (.t (.bool (same (.agg [.int .u8 cO,.str cH,.sl bK,.sl aQ]) (.agg [.int .u8 0,.str [],.sl [],.sl []])))) [] []) from(dm vI (x:=(.agg [.int .u8 cO,.str cH,.sl bK,.sl aQ])) (y:=(.agg [.int .u8 0,.str [],.sl [],.sl []])) ⟨ng,(.aD _ _ _ _ (by first|assumption|omega|(simp;done)|(simp;omega)) (by simp) (by first|assumption|omega|(simp;done)|(simp;omega)) (by simp))⟩)),oB bu,oB bu,oB bu] (by kernel_rfl)⟩
   ·
    have hs:((eC m n_ E1 (.agg [.int .u8 op,.int .i64 n,.str s,.str t,.sl ns,.sl ks])).2==0)=true:=by
      by_cases hw:(eC m n_ E1 (.agg [.int .u8 op,.int .i64 n,.str s,.str t,.sl ns,.sl ks])).2=0
      · exact beq_iff_eq.2 hw
      · exact absurd ((eq_2.symm).trans (wk hw)) (nK bu)
    exact⟨(),cast (congrArg (fun z=>KE (cf m) (cB (cf m) _ 0 (.ret (.t (.bool z)) [] [])) _ _ _) hs) (kF ah ai [oB hg4,oB hg4,oB hg4,oB hg4,oT,oC (show ev 8 [.t (.agg [.int .u8 cO,.str cH,.sl bK,.sl aQ]),.t (.agg [.int .u8 0,.str [],.sl [],.sl []])] []=some (bG.ret (.t (.bool (same (.agg [.int .u8 cO,.str cH,.sl bK,.sl aQ]) (.agg [.int .u8 0,.str [],.sl [],.sl []])))) [] []) from(dm vI (x:=(.agg [.int .u8 cO,.str cH,.sl bK,.sl aQ])) (y:=(.agg [.int .u8 0,.str [],.sl [],.sl []])) ⟨ng,(.aD _ _ _ _ (by first|assumption|omega|(simp;done)|(simp;omega)) (by simp) (by first|assumption|omega|(simp;done)|(simp;omega)) (by simp))⟩)),oB bu,oB bu,oB bu] (by kernel_rfl))⟩
  ·
   have D4:=aq hg4
   rcases aK (((Ag m (.agg [.sl ((t0::tr)++([.agg [.str nm,.sl [],.sl []]]:List Tree)),.sl ac])) != 0)) with jX|jX
   ·
    have vM:=aA jX
    rcases aK ((same (.agg [.int .u8 cO,.str cH,.sl bK,.sl aQ]) (.agg [.int .u8 0,.str [],.sl [],.sl []]))) with rK|rK
    ·
     exact⟨(),kF ah ai [oB hg4,oB hg4,oC (bf uG (x:=.agg [.sl ((t0::tr)++([.agg [.str nm,.sl [],.sl []]]:List Tree)),.sl ac]) (.dw _ _ (by first|assumption|omega|(simp;done)|(simp;omega)) ZK (by first|assumption|omega|(simp;done)|(simp;omega)) ha)),oB hg4,oB hg4,oB jX,oC (show ev 8 [.t (.agg [.int .u8 cO,.str cH,.sl bK,.sl aQ]),.t (.agg [.int .u8 0,.str [],.sl [],.sl []])] []=some (bG.ret (.t (.bool (same (.agg [.int .u8 cO,.str cH,.sl bK,.sl aQ]) (.agg [.int .u8 0,.str [],.sl [],.sl []])))) [] []) from(dm vI (x:=(.agg [.int .u8 cO,.str cH,.sl bK,.sl aQ])) (y:=(.agg [.int .u8 0,.str [],.sl [],.sl []])) ⟨ng,(.aD _ _ _ _ (by first|assumption|omega|(simp;done)|(simp;omega)) (by simp) (by first|assumption|omega|(simp;done)|(simp;omega)) (by simp))⟩)),oB rK,oB rK,oB rK] (by kernel_rfl)⟩
    ·
     have hs:((eC m n_ E1 (.agg [.int .u8 op,.int .i64 n,.str s,.str t,.sl ns,.sl ks])).2==0)=true:=by
       by_cases hw:(eC m n_ E1 (.agg [.int .u8 op,.int .i64 n,.str s,.str t,.sl ns,.sl ks])).2=0
       · exact beq_iff_eq.2 hw
       · exact absurd ((eq_2.symm).trans (wk hw)) (nK rK)
     exact⟨(),cast (congrArg (fun z=>KE (cf m) (cB (cf m) _ 0 (.ret (.t (.bool z)) [] [])) _ _ _) hs) (kF ah ai [oB hg4,oB hg4,oC (bf uG (x:=.agg [.sl ((t0::tr)++([.agg [.str nm,.sl [],.sl []]]:List Tree)),.sl ac]) (.dw _ _ (by first|assumption|omega|(simp;done)|(simp;omega)) ZK (by first|assumption|omega|(simp;done)|(simp;omega)) ha)),oB hg4,oB hg4,oB jX,oC (show ev 8 [.t (.agg [.int .u8 cO,.str cH,.sl bK,.sl aQ]),.t (.agg [.int .u8 0,.str [],.sl [],.sl []])] []=some (bG.ret (.t (.bool (same (.agg [.int .u8 cO,.str cH,.sl bK,.sl aQ]) (.agg [.int .u8 0,.str [],.sl [],.sl []])))) [] []) from(dm vI (x:=(.agg [.int .u8 cO,.str cH,.sl bK,.sl aQ])) (y:=(.agg [.int .u8 0,.str [],.sl [],.sl []])) ⟨ng,(.aD _ _ _ _ (by first|assumption|omega|(simp;done)|(simp;omega)) (by simp) (by first|assumption|omega|(simp;done)|(simp;omega)) (by simp))⟩)),oB rK,oB rK,oB rK] (by kernel_rfl))⟩
   ·
    have vM:=aq jX
    have ez8:ev 7 [.t (.agg [.int .u8 op,.int .i64 n,.str s,.str t,.sl ns,.sl ks]),.t (.agg [.sl ((t0::tr)++([.agg [.str nm,.sl [],.sl []]]:List Tree)),.sl ac]),.t (.agg [.str p,.str r,.sl c])] []=some (bG.ret (.t (.bX [(eC m n_ E2 (.agg [.int .u8 op,.int .i64 n,.str s,.str t,.sl ns,.sl ks])).1,.int .i64 (eC m n_ E2 (.agg [.int .u8 op,.int .i64 n,.str s,.str t,.sl ns,.sl ks])).2])) [] []):=LM (E1:=E1) (E2:=E2) LN (by simp[E1,E2])
    have Ig:=I4 hE2 hD
    obtain⟨qR,qT,wm,mV,eq_9,Ve,Vf,Vg,Vh⟩:=T.aR Ig
    rw[eq_9] at Ig
    have Xi:=ez8
    rw[eq_9] at Xi
    rcases aK (((eC m n_ E2 (.agg [.int .u8 op,.int .i64 n,.str s,.str t,.sl ns,.sl ks])).2==0)) with pg|pg
    ·
     have Xj:=eq_of_beq pg
     have AG:eC m n_ E2 (.agg [.int .u8 op,.int .i64 n,.str s,.str t,.sl ns,.sl ks])=eC m n_ E1 (.agg [.int .u8 op,.int .i64 n,.str s,.str t,.sl ns,.sl ks]):=wP (r:=[.agg [.str nm,.sl [],.sl []]]) (aq hg4) (aq jX)
     have hw2:((eC m n_ E2 (.agg [.int .u8 op,.int .i64 n,.str s,.str t,.sl ns,.sl ks])).2==0)=true:=beq_iff_eq.2 (by rw[AG];exact aq hg4)
     have hab:(.agg [.int .u8 cO,.str cH,.sl bK,.sl aQ]:Tree)=.agg [.int .u8 qR,.str qT,.sl wm,.sl mV]:=by rw[← eq_2,← eq_9,AG]
     have hs:(same (.agg [.int .u8 cO,.str cH,.sl bK,.sl aQ]) (.agg [.int .u8 qR,.str qT,.sl wm,.sl mV]))=true:=HP hab
     exact⟨(),cast (congrArg (fun z=>KE (cf m) (cB (cf m) _ 0 (.ret (.t (.bool z)) [] [])) _ _ _) hs) (kF ah ai [oB hg4,oB hg4,oC (bf uG (x:=.agg [.sl ((t0::tr)++([.agg [.str nm,.sl [],.sl []]]:List Tree)),.sl ac]) (.dw _ _ (by first|assumption|omega|(simp;done)|(simp;omega)) ZK (by first|assumption|omega|(simp;done)|(simp;omega)) ha)),oB hg4,oB hg4,oB jX,oC Xi,oB pg,oB pg,oB pg,oC (show ev 8 [.t (.agg [.int .u8 cO,.str cH,.sl bK,.sl aQ]),.t (.agg [.int .u8 qR,.str qT,.sl wm,.sl mV])] []=some (bG.ret (.t (.bool (same (.agg [.int .u8 cO,.str cH,.sl bK,.sl aQ]) (.agg [.int .u8 qR,.str qT,.sl wm,.sl mV])))) [] []) from(dm vI (x:=(.agg [.int .u8 cO,.str cH,.sl bK,.sl aQ])) (y:=(.agg [.int .u8 qR,.str qT,.sl wm,.sl mV])) ⟨ng,Ig⟩)),oB pg] (by kernel_rfl))⟩
    ·
     have Xj:=ne_of_beq_false pg
     have AG:eC m n_ E2 (.agg [.int .u8 op,.int .i64 n,.str s,.str t,.sl ns,.sl ks])=eC m n_ E1 (.agg [.int .u8 op,.int .i64 n,.str s,.str t,.sl ns,.sl ks]):=wP (r:=[.agg [.str nm,.sl [],.sl []]]) (aq hg4) (aq jX)
     have hw2:((eC m n_ E2 (.agg [.int .u8 op,.int .i64 n,.str s,.str t,.sl ns,.sl ks])).2==0)=true:=beq_iff_eq.2 (by rw[AG];exact aq hg4)
     exact absurd hw2 (ff pg)
theorem aeq (m:Int)(op n:Int)(s t:List UInt8)(ns ks:List Tree)(ln:ns.length≤4194304)(FA:∀y∈ns,T .string y)(lk:ks.length≤4194304)(hks:∀y∈ks,T .bJ y)(lt1:([]:List Tree).length+1≤4194304)(ht:∀y∈([]:List Tree),T .aC y)(ac:List Tree)(la:ac.length≤4194304)(ha:∀y∈ac,T .aY y)(p r:List UInt8)(c:List Tree)(lc:c.length≤4194304)(hc:∀y∈c,T .bh y)(nm:List UInt8)(n_:Nat)(hD:vV m (.agg [.int .u8 op,.int .i64 n,.str s,.str t,.sl ns,.sl ks])=0→DE n_ (.agg [.int .u8 op,.int .i64 n,.str s,.str t,.sl ns,.sl ks])):ay (cf m) 4 [.t (.agg [.int .u8 op,.int .i64 n,.str s,.str t,.sl ns,.sl ks]),.t (.agg [.sl ([]:List Tree),.sl ac]),.t (.agg [.str p,.str r,.sl c]),.t (.str nm)] [] (.ret (.t (.bool true)) [] []):=by
  have lt:(([]:List Tree)).length≤4194304:=by omega
  have hXE:T .bJ (.agg [.int .u8 op,.int .i64 n,.str s,.str t,.sl ns,.sl ks]):=.bJ _ _ _ _ _ _ ln FA lk hks
  have hNT:T .aC (.agg [.str nm,.sl [],.sl []]):=.aC _ _ _ (by simp) (by simp) (by simp) (by simp)
  have ZK:∀y∈([.agg [.str nm,.sl [],.sl []]]:List Tree),T .aC y:=fun y hy=>by
    rw[List.mem_singleton.1 hy];exact hNT
  have hyl:(([.agg [.str nm,.sl [],.sl []]]:List Tree)).length≤4194304:=by simp
  let E1:Env:=⟨([]:List Tree),ac,p,r,c⟩
  let E2:Env:=⟨([.agg [.str nm,.sl [],.sl []]]:List Tree),ac,p,r,c⟩
  have hE1:uM E1:=⟨lt,ht,la,ha,lc,hc⟩
  have hE2:uM E2:=⟨hyl,ZK,la,ha,lc,hc⟩
  have Xg:=PU m E1 hE1 _ hXE n_ hD
  have Xh:=PU m E2 hE2 _ hXE n_ hD
  obtain⟨ev,ai,aeo,aep,LN,uG,vI⟩:∃ev,aF (cf m) ev∧Has ev 6 (pc0 (.bool true))∧Has ev 10 (px [.t (.agg [.sl ([]:List Tree),.sl ac])] [] (.ret (.agg [.aL,.t (.sl ac)]) [] []))∧Has ev 7 (EY m n_ (.agg [.int .u8 op,.int .i64 n,.str s,.str t,.sl ns,.sl ks]) E1 E2)∧Has ev 11 (jP (T .dw) fun x=>.int .i64 (Ag m x))∧Has ev 8 (r7 (fun x y=>T .aD x∧T .aD y) fun x y=>.bool (same x y)):=⟨_,(ax ((Tt (KO m))) (ax ((jY (aef m _ ac lt ht la ha (by simp)))) (ax ((GH m n_ (.agg [.int .u8 op,.int .i64 n,.str s,.str t,.sl ns,.sl ks]) E1 E2 Xg Xh)) (ax ((bp (IE m))) (ax ((dH (Po m))) aH))))),az,(aj rfl az),(aj rfl (aj rfl az)),(aj rfl (aj rfl (aj rfl az))),(aj rfl (aj rfl (aj rfl (aj rfl az))))⟩
  refine ay.fu ?_
  refine AX.start 60 4 Tryz.func4 rfl (by decide) rfl rfl (by decide) ?_
  refine AX.frames ?_
  refine uR (f:=0) (n:=3000) (once:=[]) (k:=60) (T:=4) (S:=[.loc [0],.loc [1],.loc [2],.loc [8]]) (ks:=[.loc [0],.loc [1],.loc [2],.loc [8]]) (live:=[3,4,5,6,8,9,15]) ah ai (Tryz.f4.body.getD .skip) 4 rfl (⟨bH 60 [(3,.t (.str nm)),(4,.ptr (.loc [0]) 0),(5,.ptr (.loc [1]) 0),(6,.ptr (.loc [2]) 0),(8,.t (.bool false)),(9,.ptr (.loc [3]) 0),(15,.t (.bool false))],[(.loc [0],.cells 26 [.t (.int .u8 op),.t (.int .i64 n),.t (.str s),.t (.str t),.t (.sl ns),.t (.sl ks)]),(.loc [1],.cells 30 [.t (.sl ([]:List Tree)),.t (.sl ac)]),(.loc [2],.cells 33 [.t (.str p),.t (.str r),.t (.sl c)]),(.loc [3],.cells 30 [.aL,.t (.sl ac)])],4⟩) [oC (ae7 aeo),oF,oC (lH aep)] (by kernel_rfl) ?_
  refine AX.region ?_
  refine ak.go (f:=0) ai (aB rfl I5 rfl) ?_
  refine ak.go (f:=0) ai (aS rfl (ld NT rfl rfl)) ?_
  refine ak.go (f:=0) ai (av rfl) ?_
  refine ak.go (f:=0) ai (rE rfl ahG rfl rfl) ?_
  refine ak.re (Re.dat 21 rfl rfl) ?_
  refine ak.go (f:=0) ai (Ms rfl rfl NT rfl Wt rfl rfl ⟨rfl,rfl,rfl⟩) ?_
  refine ak.go (f:=0) ai (abq aa4 rfl rfl (.inr rfl) (cu.cons ⟨rfl,rfl,rfl⟩ cu.nil) (by simp) (by show _*64≤70368744177664;first|omega|(simp only[List.length_append,List.length_cons,List.length_nil,List.length_singleton] at*;omega)|(simp;done)|(simp;omega))) ?_
  refine ak.go (f:=0) ai (aB rfl I5 rfl) ?_
  refine ak.lQ (f:=0) ai (br rfl rfl (mX NT rfl rfl)) ?_
  refine ak.nil ?_
  refine uR (f:=0) (n:=3000) (once:=[]) (k:=60) (T:=5) (S:=[.loc [0],.loc [1],.loc [2],.loc [3],.loc [9]]) (ks:=[.loc [0],.loc [1],.loc [2],.loc [3],.loc [9]]) (live:=[4,5,6,8,9,15]) ah ai (Tryz.f4.body.getD .skip) 5 rfl (⟨bH 60 [(4,.ptr (.loc [0]) 0),(5,.ptr (.loc [1]) 0),(6,.ptr (.loc [2]) 0),(8,.t (.bool false)),(9,.ptr (.loc [3]) 0),(15,.t (.bool false))],[(.loc [0],.cells 26 [.t (.int .u8 op),.t (.int .i64 n),.t (.str s),.t (.str t),.t (.sl ns),.t (.sl ks)]),(.loc [1],.cells 30 [.t (.sl ([]:List Tree)),.t (.sl ac)]),(.loc [2],.cells 33 [.t (.str p),.t (.str r),.t (.sl c)]),(.loc [3],.cells 30 [.ref (.loc [4]) 0 (([.agg [.str nm,.sl [],.sl []]]:List Tree).length),.t (.sl ac)]),(.loc [4],.arr (49,true) 3 false ((flat ([.agg [.str nm,.sl [],.sl []]]:List Tree)).map .t))],5⟩) [oN (o:=.arr (49,true) 3 false ((flat ([.agg [.str nm,.sl [],.sl []]]:List Tree)).map .t)) (fun _=>bw)] (by kernel_rfl) ?_
  refine AX.re (Re.zk (k:=.loc [3]) (m:=1) 0 rfl rfl (kZ (es:=([.agg [.str nm,.sl [],.sl []]]:List Tree)) rfl (cu.cons ⟨rfl,rfl,rfl⟩ .nil) (by decide) (by first|rfl|simp) rfl)) ?_
  refine AX.re (st':=⟨bH 60 [(4,.ptr (.loc [0]) 0),(5,.ptr (.loc [1]) 0),(6,.ptr (.loc [2]) 0),(8,.t (.bool false)),(9,.ptr (.loc [3]) 0),(15,.t (.bool false))],[(.loc [0],.cells 26 [.t (.int .u8 op),.t (.int .i64 n),.t (.str s),.t (.str t),.t (.sl ns),.t (.sl ks)]),(.loc [1],.cells 30 [.t (.sl ([]:List Tree)),.t (.sl ac)]),(.loc [2],.cells 33 [.t (.str p),.t (.str r),.t (.sl c)]),(.loc [3],.cells 30 [.t (.sl ([.agg [.str nm,.sl [],.sl []]]:List Tree)),.t (.sl ac)])],4⟩) (Re.sq [.loc [0],.loc [1],.loc [2],.loc [3]] ⟨rfl,rfl,rfl,rfl,rfl,rfl,trivial⟩ ⟨⟨.loc [0],_,rfl,rfl,.inl rfl⟩,⟨.loc [1],_,rfl,rfl,.inl rfl⟩,⟨.loc [2],_,rfl,rfl,.inl rfl⟩,⟨.loc [3],_,rfl,rfl,.inl rfl⟩,trivial⟩ (by decide) rfl rfl (by decide)) ?_
  refine AX.region ?_
  refine ak.go (f:=0) ai (aS rfl (ld ahE rfl rfl)) ?_
  refine ak.go (f:=0) ai (aS rfl (ld qY rfl rfl)) ?_
  refine ak.go (f:=0) ai (aS rfl (ld ahF rfl rfl)) ?_
  have ez1:ev 7 [.t (.agg [.int .u8 op,.int .i64 n,.str s,.str t,.sl ns,.sl ks]),.t (.agg [.sl ([]:List Tree),.sl ac]),.t (.agg [.str p,.str r,.sl c])] []=some (bG.ret (.t (.bX [(eC m n_ E1 (.agg [.int .u8 op,.int .i64 n,.str s,.str t,.sl ns,.sl ks])).1,.int .i64 (eC m n_ E1 (.agg [.int .u8 op,.int .i64 n,.str s,.str t,.sl ns,.sl ks])).2])) [] []):=Lz (E1:=E1) (E2:=E2) LN
  have ng:=I4 hE1 hD
  obtain⟨cO,cH,bK,aQ,eq_2,Nk,yb,Vv,Eu⟩:=T.aR ng
  rw[eq_2] at ng
  have Za:=ez1
  rw[eq_2] at Za
  refine ak.go (f:=0) ai (bU (rh3 rfl rfl rfl) Za) ?_
  refine ak.go (f:=0) ai (av rfl) ?_
  refine ak.go (f:=0) ai (cW rfl rfl) ?_
  refine ak.go (f:=0) ai (cW rfl rfl) ?_
  refine ak.go (f:=0) ai (gQ eu rfl rfl) ?_
  refine ak.lQ (f:=0) ai (br rfl rfl (mX eu rfl rfl)) ?_
  refine ak.go (f:=0) ai (au rfl) ?_
  refine ak.nil ?_
  rcases aK (((eC m n_ E1 (.agg [.int .u8 op,.int .i64 n,.str s,.str t,.sl ns,.sl ks])).2 != 0)) with hg4|hg4
  ·
   have D4:=aA hg4
   rcases aK ((same (.agg [.int .u8 cO,.str cH,.sl bK,.sl aQ]) (.agg [.int .u8 0,.str [],.sl [],.sl []]))) with bu|bu
   ·
    exact⟨(),kF ah ai [oB hg4,oB hg4,oB hg4,oB hg4,oT,oC (show ev 8 [.t (.agg [.int .u8 cO,.str cH,.sl bK,.sl aQ]),.t (.agg [.int .u8 0,.str [],.sl [],.sl []])] []=some (bG.ret (.t (.bool (same (.agg [.int .u8 cO,.str cH,.sl bK,.sl aQ]) (.agg [.int .u8 0,.str [],.sl [],.sl []])))) [] []) from(dm vI (x:=(.agg [.int .u8 cO,.str cH,.sl bK,.sl aQ])) (y:=(.agg [.int .u8 0,.str [],.sl [],.sl []])) ⟨ng,(.aD _ _ _ _ (by first|assumption|omega|(simp;done)|(simp;omega)) (by simp) (by first|assumption|omega|(simp;done)|(simp;omega)) (by simp))⟩)),oB bu,oB bu,oB bu] (by kernel_rfl)⟩
   ·
    have hs:((eC m n_ E1 (.agg [.int .u8 op,.int .i64 n,.str s,.str t,.sl ns,.sl ks])).2==0)=true:=by
      by_cases hw:(eC m n_ E1 (.agg [.int .u8 op,.int .i64 n,.str s,.str t,.sl ns,.sl ks])).2=0
      · exact beq_iff_eq.2 hw
      · exact absurd ((eq_2.symm).trans (wk hw)) (nK bu)
    exact⟨(),cast (congrArg (fun z=>KE (cf m) (cB (cf m) _ 0 (.ret (.t (.bool z)) [] [])) _ _ _) hs) (kF ah ai [oB hg4,oB hg4,oB hg4,oB hg4,oT,oC (show ev 8 [.t (.agg [.int .u8 cO,.str cH,.sl bK,.sl aQ]),.t (.agg [.int .u8 0,.str [],.sl [],.sl []])] []=some (bG.ret (.t (.bool (same (.agg [.int .u8 cO,.str cH,.sl bK,.sl aQ]) (.agg [.int .u8 0,.str [],.sl [],.sl []])))) [] []) from(dm vI (x:=(.agg [.int .u8 cO,.str cH,.sl bK,.sl aQ])) (y:=(.agg [.int .u8 0,.str [],.sl [],.sl []])) ⟨ng,(.aD _ _ _ _ (by first|assumption|omega|(simp;done)|(simp;omega)) (by simp) (by first|assumption|omega|(simp;done)|(simp;omega)) (by simp))⟩)),oB bu,oB bu,oB bu] (by kernel_rfl))⟩
  ·
   have D4:=aq hg4
   rcases aK (((Ag m (.agg [.sl ([.agg [.str nm,.sl [],.sl []]]:List Tree),.sl ac])) != 0)) with jX|jX
   ·
    have vM:=aA jX
    rcases aK ((same (.agg [.int .u8 cO,.str cH,.sl bK,.sl aQ]) (.agg [.int .u8 0,.str [],.sl [],.sl []]))) with rK|rK
    ·
     exact⟨(),kF ah ai [oB hg4,oB hg4,oC (bf uG (x:=.agg [.sl ([.agg [.str nm,.sl [],.sl []]]:List Tree),.sl ac]) (.dw _ _ (by first|assumption|omega|(simp;done)|(simp;omega)) ZK (by first|assumption|omega|(simp;done)|(simp;omega)) ha)),oB hg4,oB hg4,oB jX,oC (show ev 8 [.t (.agg [.int .u8 cO,.str cH,.sl bK,.sl aQ]),.t (.agg [.int .u8 0,.str [],.sl [],.sl []])] []=some (bG.ret (.t (.bool (same (.agg [.int .u8 cO,.str cH,.sl bK,.sl aQ]) (.agg [.int .u8 0,.str [],.sl [],.sl []])))) [] []) from(dm vI (x:=(.agg [.int .u8 cO,.str cH,.sl bK,.sl aQ])) (y:=(.agg [.int .u8 0,.str [],.sl [],.sl []])) ⟨ng,(.aD _ _ _ _ (by first|assumption|omega|(simp;done)|(simp;omega)) (by simp) (by first|assumption|omega|(simp;done)|(simp;omega)) (by simp))⟩)),oB rK,oB rK,oB rK] (by kernel_rfl)⟩
    ·
     have hs:((eC m n_ E1 (.agg [.int .u8 op,.int .i64 n,.str s,.str t,.sl ns,.sl ks])).2==0)=true:=by
       by_cases hw:(eC m n_ E1 (.agg [.int .u8 op,.int .i64 n,.str s,.str t,.sl ns,.sl ks])).2=0
       · exact beq_iff_eq.2 hw
       · exact absurd ((eq_2.symm).trans (wk hw)) (nK rK)
     exact⟨(),cast (congrArg (fun z=>KE (cf m) (cB (cf m) _ 0 (.ret (.t (.bool z)) [] [])) _ _ _) hs) (kF ah ai [oB hg4,oB hg4,oC (bf uG (x:=.agg [.sl ([.agg [.str nm,.sl [],.sl []]]:List Tree),.sl ac]) (.dw _ _ (by first|assumption|omega|(simp;done)|(simp;omega)) ZK (by first|assumption|omega|(simp;done)|(simp;omega)) ha)),oB hg4,oB hg4,oB jX,oC (show ev 8 [.t (.agg [.int .u8 cO,.str cH,.sl bK,.sl aQ]),.t (.agg [.int .u8 0,.str [],.sl [],.sl []])] []=some (bG.ret (.t (.bool (same (.agg [.int .u8 cO,.str cH,.sl bK,.sl aQ]) (.agg [.int .u8 0,.str [],.sl [],.sl []])))) [] []) from(dm vI (x:=(.agg [.int .u8 cO,.str cH,.sl bK,.sl aQ])) (y:=(.agg [.int .u8 0,.str [],.sl [],.sl []])) ⟨ng,(.aD _ _ _ _ (by first|assumption|omega|(simp;done)|(simp;omega)) (by simp) (by first|assumption|omega|(simp;done)|(simp;omega)) (by simp))⟩)),oB rK,oB rK,oB rK] (by kernel_rfl))⟩
   ·
    have vM:=aq jX
    have ez8:ev 7 [.t (.agg [.int .u8 op,.int .i64 n,.str s,.str t,.sl ns,.sl ks]),.t (.agg [.sl ([.agg [.str nm,.sl [],.sl []]]:List Tree),.sl ac]),.t (.agg [.str p,.str r,.sl c])] []=some (bG.ret (.t (.bX [(eC m n_ E2 (.agg [.int .u8 op,.int .i64 n,.str s,.str t,.sl ns,.sl ks])).1,.int .i64 (eC m n_ E2 (.agg [.int .u8 op,.int .i64 n,.str s,.str t,.sl ns,.sl ks])).2])) [] []):=LM (E1:=E1) (E2:=E2) LN (by simp[E1,E2])
    have Ig:=I4 hE2 hD
    obtain⟨qR,qT,wm,mV,eq_9,Ve,Vf,Vg,Vh⟩:=T.aR Ig
    rw[eq_9] at Ig
    have Xi:=ez8
    rw[eq_9] at Xi
    rcases aK (((eC m n_ E2 (.agg [.int .u8 op,.int .i64 n,.str s,.str t,.sl ns,.sl ks])).2==0)) with pg|pg
    ·
     have Xj:=eq_of_beq pg
     have AG:eC m n_ E2 (.agg [.int .u8 op,.int .i64 n,.str s,.str t,.sl ns,.sl ks])=eC m n_ E1 (.agg [.int .u8 op,.int .i64 n,.str s,.str t,.sl ns,.sl ks]):=wP (r:=[.agg [.str nm,.sl [],.sl []]]) (aq hg4) (aq jX)
     have hw2:((eC m n_ E2 (.agg [.int .u8 op,.int .i64 n,.str s,.str t,.sl ns,.sl ks])).2==0)=true:=beq_iff_eq.2 (by rw[AG];exact aq hg4)
     have hab:(.agg [.int .u8 cO,.str cH,.sl bK,.sl aQ]:Tree)=.agg [.int .u8 qR,.str qT,.sl wm,.sl mV]:=by rw[← eq_2,← eq_9,AG]
     have hs:(same (.agg [.int .u8 cO,.str cH,.sl bK,.sl aQ]) (.agg [.int .u8 qR,.str qT,.sl wm,.sl mV]))=true:=HP hab
     exact⟨(),cast (congrArg (fun z=>KE (cf m) (cB (cf m) _ 0 (.ret (.t (.bool z)) [] [])) _ _ _) hs) (kF ah ai [oB hg4,oB hg4,oC (bf uG (x:=.agg [.sl ([.agg [.str nm,.sl [],.sl []]]:List Tree),.sl ac]) (.dw _ _ (by first|assumption|omega|(simp;done)|(simp;omega)) ZK (by first|assumption|omega|(simp;done)|(simp;omega)) ha)),oB hg4,oB hg4,oB jX,oC Xi,oB pg,oB pg,oB pg,oC (show ev 8 [.t (.agg [.int .u8 cO,.str cH,.sl bK,.sl aQ]),.t (.agg [.int .u8 qR,.str qT,.sl wm,.sl mV])] []=some (bG.ret (.t (.bool (same (.agg [.int .u8 cO,.str cH,.sl bK,.sl aQ]) (.agg [.int .u8 qR,.str qT,.sl wm,.sl mV])))) [] []) from(dm vI (x:=(.agg [.int .u8 cO,.str cH,.sl bK,.sl aQ])) (y:=(.agg [.int .u8 qR,.str qT,.sl wm,.sl mV])) ⟨ng,Ig⟩)),oB pg] (by kernel_rfl))⟩
    ·
     have Xj:=ne_of_beq_false pg
     have AG:eC m n_ E2 (.agg [.int .u8 op,.int .i64 n,.str s,.str t,.sl ns,.sl ks])=eC m n_ E1 (.agg [.int .u8 op,.int .i64 n,.str s,.str t,.sl ns,.sl ks]):=wP (r:=[.agg [.str nm,.sl [],.sl []]]) (aq hg4) (aq jX)
     have hw2:((eC m n_ E2 (.agg [.int .u8 op,.int .i64 n,.str s,.str t,.sl ns,.sl ks])).2==0)=true:=beq_iff_eq.2 (by rw[AG];exact aq hg4)
     exact absurd hw2 (ff pg)
end
end Go.Proofs.YtijfhoelihclbaaGreatDoor.w.e

namespace Go.Proofs.YtijfhoelihclbaaGreatDoor.w.e
open Go Go.Abs Go.Abs.Ty
set_option linter.unusedVariables false
set_option maxRecDepth 100000
set_option maxHeartbeats 2000000
noncomputable section
open Go.Proofs.YtijfhoelihclbaaGreatDoor.arg
noncomputable abbrev PP:Program:=Tryz.prog
theorem ahH {B n:Nat}{cs:List Tree}(h:iT PP B n 22 cs):∃k,cs=[.int .u8 k]:=by
 cases n with
 |zero=>exact h.elim
 |succ n=>
  simp only[iT,PP,Tryz.underlying22] at h
  obtain⟨x,h1,_⟩:=h
  exact⟨x,h1⟩
theorem akS {B n:Nat}{cs:List Tree}(h:iT PP B n 2 cs):∃k,cs=[.int .i64 k]:=by
 cases n with
 |zero=>exact h.elim
 |succ n=>
  simp only[iT,PP,Tryz.underlying2] at h
  obtain⟨x,h1,_⟩:=h
  exact⟨x,h1⟩
theorem Ci {B n:Nat}{cs:List Tree}(h:iT PP B n 9 cs):∃s,cs=[.str s]:=by
 cases n with
 |zero=>exact h.elim
 |succ n=>
  simp only[iT,PP,Tryz.underlying9] at h
  obtain⟨x,h1,_⟩:=h
  exact⟨x,h1⟩
theorem LO {B n:Nat}{cs:List Tree}(h:iT PP B n 23 cs):∃l,cs=[.sl l]∧l.length≤B∧∀x∈l,∃m,m<n∧∃ds,iT PP B m 9 ds∧x=jO PP 9 ds:=by
 cases n with
 |zero=>exact h.elim
 |succ n=>
  simp only[iT,PP,Tryz.underlying23] at h
  obtain⟨l,h1,h2,h3⟩:=h
  exact⟨l,h1,h2,fun x hx=>by obtain⟨ds,h4,h5⟩:=h3 x hx;exact⟨n,Nat.lt_succ_self n,ds,h4,h5⟩⟩
theorem aa5 {B n:Nat}{cs:List Tree}(h:iT PP B n 24 cs):∃l,cs=[.sl l]∧l.length≤B∧∀x∈l,∃m,m<n∧∃ds,iT PP B m 26 ds∧x=jO PP 26 ds:=by
 cases n with
 |zero=>exact h.elim
 |succ n=>
  simp only[iT,PP,Tryz.underlying24] at h
  obtain⟨l,h1,h2,h3⟩:=h
  exact⟨l,h1,h2,fun x hx=>by obtain⟨ds,h4,h5⟩:=h3 x hx;exact⟨n,Nat.lt_succ_self n,ds,h4,h5⟩⟩
theorem akT (cs:List Tree):jO PP 26 cs=.agg cs:=by simp only[jO,PP,Tryz.underlying26]
theorem mk9 (cs:List Tree):jO PP 9 cs=cs.headD .cG:=by simp only[jO,PP,Tryz.underlying9]
theorem Xk {B n:Nat}{cs:List Tree}(h:iT PP B n 27 cs):∃l,cs=[.sl l]∧l.length≤B∧∀x∈l,∃m,m<n∧∃ds,iT PP B m 49 ds∧x=jO PP 49 ds:=by
 cases n with
 |zero=>exact h.elim
 |succ n=>
  simp only[iT,PP,Tryz.underlying27] at h
  obtain⟨l,h1,h2,h3⟩:=h
  exact⟨l,h1,h2,fun x hx=>by obtain⟨ds,h4,h5⟩:=h3 x hx;exact⟨n,Nat.lt_succ_self n,ds,h4,h5⟩⟩
theorem Xl {B n:Nat}{cs:List Tree}(h:iT PP B n 28 cs):∃l,cs=[.sl l]∧l.length≤B∧∀x∈l,∃m,m<n∧∃ds,iT PP B m 76 ds∧x=jO PP 76 ds:=by
 cases n with
 |zero=>exact h.elim
 |succ n=>
  simp only[iT,PP,Tryz.underlying28] at h
  obtain⟨l,h1,h2,h3⟩:=h
  exact⟨l,h1,h2,fun x hx=>by obtain⟨ds,h4,h5⟩:=h3 x hx;exact⟨n,Nat.lt_succ_self n,ds,h4,h5⟩⟩
theorem akU (cs:List Tree):jO PP 30 cs=.agg cs:=by simp only[jO,PP,Tryz.underlying30]
theorem GI {B n:Nat}{cs:List Tree}(h:iT PP B n 31 cs):∃l,cs=[.sl l]∧l.length≤B∧∀x∈l,∃m,m<n∧∃ds,iT PP B m 45 ds∧x=jO PP 45 ds:=by
 cases n with
 |zero=>exact h.elim
 |succ n=>
  simp only[iT,PP,Tryz.underlying31] at h
  obtain⟨l,h1,h2,h3⟩:=h
  exact⟨l,h1,h2,fun x hx=>by obtain⟨ds,h4,h5⟩:=h3 x hx;exact⟨n,Nat.lt_succ_self n,ds,h4,h5⟩⟩
theorem akV (cs:List Tree):jO PP 49 cs=.agg cs:=by simp only[jO,PP,Tryz.underlying49]
theorem aa6 {B n:Nat}{cs:List Tree}(h:iT PP B n 35 cs):∃k,cs=[.int .u8 k]:=by
 cases n with
 |zero=>exact h.elim
 |succ n=>
  simp only[iT,PP,Tryz.underlying35] at h
  obtain⟨x,h1,_⟩:=h
  exact⟨x,h1⟩
theorem Xm {B n:Nat}{cs:List Tree}(h:iT PP B n 36 cs):∃l,cs=[.sl l]∧l.length≤B∧∀x∈l,∃m,m<n∧∃ds,iT PP B m 38 ds∧x=jO PP 38 ds:=by
 cases n with
 |zero=>exact h.elim
 |succ n=>
  simp only[iT,PP,Tryz.underlying36] at h
  obtain⟨l,h1,h2,h3⟩:=h
  exact⟨l,h1,h2,fun x hx=>by obtain⟨ds,h4,h5⟩:=h3 x hx;exact⟨n,Nat.lt_succ_self n,ds,h4,h5⟩⟩
theorem akW (cs:List Tree):jO PP 45 cs=.agg cs:=by simp only[jO,PP,Tryz.underlying45]
theorem akX (cs:List Tree):jO PP 38 cs=.agg cs:=by simp only[jO,PP,Tryz.underlying38]
theorem akY (cs:List Tree):jO PP 76 cs=.agg cs:=by simp only[jO,PP,Tryz.underlying76]
theorem akZ (cs:List Tree):jO PP 79 cs=.agg cs:=by simp only[jO,PP,Tryz.underlying79]
theorem ahI (cs:List Tree):jO PP 168 cs=.agg cs:=by simp only[jO,PP,Tryz.underlying168]
theorem ak0 (cs:List Tree):jO PP 33 cs=.agg cs:=by simp only[jO,PP,Tryz.underlying33]
theorem ak1 (cs:List Tree):jO PP 27 cs=cs.headD .cG:=by simp only[jO,PP,Tryz.underlying27]
theorem ak2 (cs:List Tree):jO PP 28 cs=cs.headD .cG:=by simp only[jO,PP,Tryz.underlying28]
theorem ak3 (cs:List Tree):jO PP 23 cs=cs.headD .cG:=by simp only[jO,PP,Tryz.underlying23]
theorem ak4 (cs:List Tree):jO PP 31 cs=cs.headD .cG:=by simp only[jO,PP,Tryz.underlying31]
theorem ak5 (cs:List Tree):jO PP 36 cs=cs.headD .cG:=by simp only[jO,PP,Tryz.underlying36]
theorem ak6 (cs:List Tree):jO PP 24 cs=cs.headD .cG:=by simp only[jO,PP,Tryz.underlying24]
theorem aer {B n:Nat}{cs:List Tree}(h:iT PP B n 104 cs):∃l,cs=[.sl l]∧l.length≤B∧∀x∈l,∃m,m<n∧∃ds,iT PP B m 39 ds∧x=jO PP 39 ds:=by
 cases n with
 |zero=>exact h.elim
 |succ n=>
  simp only[iT,PP,Tryz.underlying104] at h
  obtain⟨l,h1,h2,h3⟩:=h
  exact⟨l,h1,h2,fun x hx=>by obtain⟨ds,h4,h5⟩:=h3 x hx;exact⟨n,Nat.lt_succ_self n,ds,h4,h5⟩⟩
theorem ahJ (cs:List Tree):jO PP 104 cs=cs.headD .cG:=by simp only[jO,PP,Tryz.underlying104]
theorem ahK {B n:Nat}{cs:List Tree}(h:iT PP B n 39 cs):∃k,cs=[.int .i64 k]:=by
 cases n with
 |zero=>exact h.elim
 |succ n=>
  simp only[iT,PP,Tryz.underlying39] at h
  obtain⟨x,h1,_⟩:=h
  exact⟨x,h1⟩
theorem ak7 (cs:List Tree):jO PP 39 cs=cs.headD .cG:=by simp only[jO,PP,Tryz.underlying39]
theorem ak8 {B n:Nat}{cs:List Tree}(h:iT PP B n 4 cs):∃b,cs=[.bool b]:=by
 cases n with
 |zero=>exact h.elim
 |succ n=>
  simp only[iT,PP,Tryz.underlying4] at h
  exact h
theorem mk4 (cs:List Tree):jO PP 4 cs=cs.headD .cG:=by simp only[jO,PP,Tryz.underlying4]
theorem I6 {B:Nat}(hB:B≤4194304):∀n,(∀cs,iT PP B n 26 cs→T .bJ (jO PP 26 cs))∧(∀cs,iT PP B n 9 cs→T .string (jO PP 9 cs))∧(∀cs,iT PP B n 30 cs→T .dw (jO PP 30 cs))∧(∀cs,iT PP B n 49 cs→T .aC (jO PP 49 cs))∧(∀cs,iT PP B n 45 cs→T .bh (jO PP 45 cs))∧(∀cs,iT PP B n 38 cs→T .aD (jO PP 38 cs))∧(∀cs,iT PP B n 76 cs→T .aY (jO PP 76 cs))∧(∀cs,iT PP B n 79 cs→T .bO (jO PP 79 cs))∧(∀cs,iT PP B n 168 cs→T .o9 (jO PP 168 cs))∧(∀cs,iT PP B n 33 cs→T .xO (jO PP 33 cs))∧(∀cs,iT PP B n 27 cs→T .aZ (jO PP 27 cs))∧(∀cs,iT PP B n 28 cs→T .bY (jO PP 28 cs))∧(∀cs,iT PP B n 23 cs→T .bl (jO PP 23 cs))∧(∀cs,iT PP B n 31 cs→T .dW (jO PP 31 cs))∧(∀cs,iT PP B n 36 cs→T .zf (jO PP 36 cs))∧(∀cs,iT PP B n 24 cs→T .zg (jO PP 24 cs))∧(∀cs,iT PP B n 104 cs→T .dA (jO PP 104 cs))∧(∀cs,iT PP B n 39 cs→T .dK (jO PP 39 cs))∧(∀cs,iT PP B n 4 cs→T .bool (jO PP 4 cs)):=by
  intro n
  induction n using Nat.strongRecOn with
  |_ n ih=>
  refine⟨fun cs h=> ?_,fun cs h=> ?_,fun cs h=> ?_,fun cs h=> ?_,fun cs h=> ?_,fun cs h=> ?_,fun cs h=> ?_,fun cs h=> ?_,fun cs h=> ?_,fun cs h=> ?_,fun cs h=> ?_,fun cs h=> ?_,fun cs h=> ?_,fun cs h=> ?_,fun cs h=> ?_,fun cs h=> ?_,fun cs h=> ?_,fun cs h=> ?_,fun cs h=> ?_⟩
  · rw[akT]
    rcases n with _|n1
    · exact h.elim
    simp only[iT,PP,Tryz.underlying26,sB] at h
    obtain⟨a8,_,rfl,h2,a9,_,rfl,h3,a10,_,rfl,h4,a11,_,rfl,h5,a12,_,rfl,h6,a13,_,rfl,h7,rfl⟩:=h
    obtain⟨v14,rfl⟩:=ahH h2
    obtain⟨v15,rfl⟩:=akS h3
    obtain⟨v16,rfl⟩:=Ci h4
    obtain⟨v17,rfl⟩:=Ci h5
    obtain⟨l18,rfl,q19,x20⟩:=LO h6
    obtain⟨l21,rfl,q22,x23⟩:=aa5 h7
    exact T.bJ v14 v15 v16 v17 l18 l21 (by omega) (fun y hy=>by obtain⟨m,hm,ds,hd,rfl⟩:=x20 y hy;exact(ih m (by omega)).2.1 _ hd) (by omega) (fun y hy=>by obtain⟨m,hm,ds,hd,rfl⟩:=x23 y hy;exact(ih m (by omega)).1 _ hd)
  · rw[mk9]
    obtain⟨v24,rfl⟩:=Ci h
    exact T.string v24
  · rw[akU]
    rcases n with _|n25
    · exact h.elim
    simp only[iT,PP,Tryz.underlying30,sB] at h
    obtain⟨a28,_,rfl,h26,a29,_,rfl,h27,rfl⟩:=h
    obtain⟨l30,rfl,q31,x32⟩:=Xk h26
    obtain⟨l33,rfl,q34,x35⟩:=Xl h27
    exact T.dw l30 l33 (by omega) (fun y hy=>by obtain⟨m,hm,ds,hd,rfl⟩:=x32 y hy;exact(ih m (by omega)).2.2.2.1 _ hd) (by omega) (fun y hy=>by obtain⟨m,hm,ds,hd,rfl⟩:=x35 y hy;exact(ih m (by omega)).2.2.2.2.2.2.1 _ hd)
  · rw[akV]
    rcases n with _|n36
    · exact h.elim
    simp only[iT,PP,Tryz.underlying49,sB] at h
    obtain⟨a40,_,rfl,h37,a41,_,rfl,h38,a42,_,rfl,h39,rfl⟩:=h
    obtain⟨v43,rfl⟩:=Ci h37
    obtain⟨l44,rfl,q45,x46⟩:=LO h38
    obtain⟨l47,rfl,q48,x49⟩:=GI h39
    exact T.aC v43 l44 l47 (by omega) (fun y hy=>by obtain⟨m,hm,ds,hd,rfl⟩:=x46 y hy;exact(ih m (by omega)).2.1 _ hd) (by omega) (fun y hy=>by obtain⟨m,hm,ds,hd,rfl⟩:=x49 y hy;exact(ih m (by omega)).2.2.2.2.1 _ hd)
  · rw[akW]
    rcases n with _|n50
    · exact h.elim
    simp only[iT,PP,Tryz.underlying45,sB] at h
    obtain⟨a53,_,rfl,h51,a54,_,rfl,h52,rfl⟩:=h
    obtain⟨v55,rfl⟩:=Ci h51
    rcases n50 with _|n56
    · exact h52.elim
    simp only[iT,PP,Tryz.underlying38,sB] at h52
    obtain⟨a61,_,rfl,h57,a62,_,rfl,h58,a63,_,rfl,h59,a64,_,rfl,h60,rfl⟩:=h52
    obtain⟨v65,rfl⟩:=aa6 h57
    obtain⟨v66,rfl⟩:=Ci h58
    obtain⟨l67,rfl,q68,x69⟩:=Xm h59
    obtain⟨l70,rfl,q71,x72⟩:=GI h60
    exact T.bh v55 v65 v66 l67 l70 (by omega) (fun y hy=>by obtain⟨m,hm,ds,hd,rfl⟩:=x69 y hy;exact(ih m (by omega)).2.2.2.2.2.1 _ hd) (by omega) (fun y hy=>by obtain⟨m,hm,ds,hd,rfl⟩:=x72 y hy;exact(ih m (by omega)).2.2.2.2.1 _ hd)
  · rw[akX]
    rcases n with _|n73
    · exact h.elim
    simp only[iT,PP,Tryz.underlying38,sB] at h
    obtain⟨a78,_,rfl,h74,a79,_,rfl,h75,a80,_,rfl,h76,a81,_,rfl,h77,rfl⟩:=h
    obtain⟨v82,rfl⟩:=aa6 h74
    obtain⟨v83,rfl⟩:=Ci h75
    obtain⟨l84,rfl,q85,x86⟩:=Xm h76
    obtain⟨l87,rfl,q88,x89⟩:=GI h77
    exact T.aD v82 v83 l84 l87 (by omega) (fun y hy=>by obtain⟨m,hm,ds,hd,rfl⟩:=x86 y hy;exact(ih m (by omega)).2.2.2.2.2.1 _ hd) (by omega) (fun y hy=>by obtain⟨m,hm,ds,hd,rfl⟩:=x89 y hy;exact(ih m (by omega)).2.2.2.2.1 _ hd)
  · rw[akY]
    rcases n with _|n90
    · exact h.elim
    simp only[iT,PP,Tryz.underlying76,sB] at h
    obtain⟨a95,_,rfl,h91,a96,_,rfl,h92,a97,_,rfl,h93,a98,_,rfl,h94,rfl⟩:=h
    obtain⟨v99,rfl⟩:=Ci h91
    obtain⟨ak9,rfl,ami,x102⟩:=LO h92
    obtain⟨ala,rfl,amj,alb⟩:=LO h93
    obtain⟨alc,rfl,amk,ald⟩:=GI h94
    exact T.aY v99 ak9 ala alc (by omega) (fun y hy=>by obtain⟨m,hm,ds,hd,rfl⟩:=x102 y hy;exact(ih m (by omega)).2.1 _ hd) (by omega) (fun y hy=>by obtain⟨m,hm,ds,hd,rfl⟩:=alb y hy;exact(ih m (by omega)).2.1 _ hd) (by omega) (fun y hy=>by obtain⟨m,hm,ds,hd,rfl⟩:=ald y hy;exact(ih m (by omega)).2.2.2.2.1 _ hd)
  · rw[akZ]
    rcases n with _|n109
    · exact h.elim
    simp only[iT,PP,Tryz.underlying79,sB] at h
    obtain⟨aml,_,rfl,aes,rfl⟩:=h
    rcases n109 with _|n112
    · exact aes.elim
    simp only[iT,PP,Tryz.underlying30,sB] at aes
    obtain⟨amm,_,rfl,ale,a116,_,rfl,alf,rfl⟩:=aes
    obtain⟨alg,rfl,amn,alh⟩:=Xk ale
    obtain⟨ali,rfl,amo,alj⟩:=Xl alf
    exact T.bO alg ali (by omega) (fun y hy=>by obtain⟨m,hm,ds,hd,rfl⟩:=alh y hy;exact(ih m (by omega)).2.2.2.1 _ hd) (by omega) (fun y hy=>by obtain⟨m,hm,ds,hd,rfl⟩:=alj y hy;exact(ih m (by omega)).2.2.2.2.2.2.1 _ hd)
  · rw[ahI]
    rcases n with _|n123
    · exact h.elim
    simp only[iT,PP,Tryz.underlying168,sB] at h
    obtain⟨amq,_,rfl,alk,a127,_,rfl,abY,rfl⟩:=h
    obtain⟨alm,rfl⟩:=Ci alk
    obtain⟨aln,rfl⟩:=Ci abY
    exact T.o9 alm aln
  · rw[ak0]
    rcases n with _|n130
    · exact h.elim
    simp only[iT,PP,Tryz.underlying33,sB] at h
    obtain⟨amr,_,rfl,alo,ams,_,rfl,alp,amt,_,rfl,alq,rfl⟩:=h
    obtain⟨alr,rfl⟩:=Ci alo
    obtain⟨v138,rfl⟩:=Ci alp
    obtain⟨als,rfl,amu,alu⟩:=GI alq
    exact T.xO alr v138 als (by omega) (fun y hy=>by obtain⟨m,hm,ds,hd,rfl⟩:=alu y hy;exact(ih m (by omega)).2.2.2.2.1 _ hd)
  · rw[ak1]
    obtain⟨alv,rfl,amv,alw⟩:=Xk h
    exact T.aZ alv (by omega) (fun y hy=>by obtain⟨m,hm,ds,hd,rfl⟩:=alw y hy;exact(ih m (by omega)).2.2.2.1 _ hd)
  · rw[ak2]
    obtain⟨alx,rfl,amw,aly⟩:=Xl h
    exact T.bY alx (by omega) (fun y hy=>by obtain⟨m,hm,ds,hd,rfl⟩:=aly y hy;exact(ih m (by omega)).2.2.2.2.2.2.1 _ hd)
  · rw[ak3]
    obtain⟨alz,rfl,amx,x150⟩:=LO h
    exact T.bl alz (by omega) (fun y hy=>by obtain⟨m,hm,ds,hd,rfl⟩:=x150 y hy;exact(ih m (by omega)).2.1 _ hd)
  · rw[ak4]
    obtain⟨alA,rfl,amy,x153⟩:=GI h
    exact T.dW alA (by omega) (fun y hy=>by obtain⟨m,hm,ds,hd,rfl⟩:=x153 y hy;exact(ih m (by omega)).2.2.2.2.1 _ hd)
  · rw[ak5]
    obtain⟨alB,rfl,amz,alC⟩:=Xm h
    exact T.zf alB (by omega) (fun y hy=>by obtain⟨m,hm,ds,hd,rfl⟩:=alC y hy;exact(ih m (by omega)).2.2.2.2.2.1 _ hd)
  · rw[ak6]
    obtain⟨alD,rfl,amA,x159⟩:=aa5 h
    exact T.zg alD (by omega) (fun y hy=>by obtain⟨m,hm,ds,hd,rfl⟩:=x159 y hy;exact(ih m (by omega)).1 _ hd)
  · rw[ahJ]
    obtain⟨alE,rfl,amB,alF⟩:=aer h
    exact T.dA alE (by omega) (fun y hy=>by obtain⟨m,hm,ds,hd,rfl⟩:=alF y hy;exact(ih m (by omega)).2.2.2.2.2.2.2.2.2.2.2.2.2.2.2.2.2.1 _ hd)
  · rw[ak7]
    obtain⟨alG,rfl⟩:=ahK h
    exact T.dK alG
  · rw[mk4]
    obtain⟨v164,rfl⟩:=ak8 h
    exact T.bool v164
theorem LP {B:Nat}(hB:B≤4194304){x:Tree}(h:ShT PP B 26 x):T .bJ x:=by
 obtain⟨n,ds,_,h1,rfl⟩:=h
 exact(I6 hB n).1 ds h1
theorem NX {B:Nat}(hB:B≤4194304){x:Tree}(h:ShT PP B 9 x):T .string x:=by
 obtain⟨n,ds,_,h1,rfl⟩:=h
 exact(I6 hB n).2.1 ds h1
theorem Fl {B:Nat}(hB:B≤4194304){x:Tree}(h:ShT PP B 30 x):T .dw x:=by
 obtain⟨n,ds,_,h1,rfl⟩:=h
 exact(I6 hB n).2.2.1 ds h1
theorem NY {B:Nat}(hB:B≤4194304){x:Tree}(h:ShT PP B 33 x):T .xO x:=by
 obtain⟨n,ds,_,h1,rfl⟩:=h
 exact(I6 hB n).2.2.2.2.2.2.2.2.2.1 ds h1
theorem GJ:∀(l:List Tree),l.length≤bulks l
 | []=>Nat.le_refl _
 |x::r=>by
  have h:=GJ r
  have h2:=yW x
  show r.length+1≤bulk x+bulks r
  omega
theorem aet (m:Int){x:Tree}(hx:T .bJ x):∃n,vV m x=0→DE n x:=by
  by_cases h:vV m x=0
  · obtain⟨n,hn⟩:=ahD (Y4 m hx h) hx
    exact⟨n,fun _=>hn⟩
  · exact⟨0,fun q=>absurd q h⟩
theorem aeu (m:Int)(Ts:List Tree)(h:N7 PP 1048576 [26,30,33,9] Ts):ay (cf m) 4 (Ts.map .t) [] (.ret (.t (.bool true)) [] []):=by
 match Ts,h with
 | [e,x,v,s],⟨h1,h2,h3,h4,_⟩=>
  have he:=LP (by decide) h1
  have hx:=Fl (by decide) h2
  have hv:=NY (by decide) h3
  have hs:=NX (by decide) h4
  obtain⟨n_,hD⟩:=aet m he
  obtain⟨_,_,⟨_,hb⟩,_,_⟩:=h2
  obtain⟨op,n,s1,t1,ns,ks,rfl,a1,a2,a3,a4⟩:=T.eB he
  obtain⟨ts,ac,rfl,b1,b2,b3,b4⟩:=T.xb hx
  obtain⟨p,r,c,rfl,c1,c2⟩:=T.MI hv
  obtain⟨nm,rfl⟩:=T.cT hs
  simp only[bulk,bulks] at hb
  have hl:=GJ ts
  cases ts with
  |nil=>exact aeq m op n s1 t1 ns ks a1 a2 a3 a4 (by simp) (fun y hy=>by cases hy) ac b3 b4 p r c c1 c2 nm n_ hD
  |cons t0 tr=>exact aen m op n s1 t1 ns ks a1 a2 a3 a4 t0 tr (by omega) b2 ac b3 b4 p r c c1 c2 nm n_ hD
end
end Go.Proofs.YtijfhoelihclbaaGreatDoor.w.e
