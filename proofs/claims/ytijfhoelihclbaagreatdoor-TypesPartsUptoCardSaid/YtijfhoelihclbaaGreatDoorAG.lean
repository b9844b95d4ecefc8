/- What an expression comes to, told. -/
import Derived.Test.YtijfhoelihclbaaGreatDoorAF
import Derived.Test.YtijfhoelihclbaaGreatDoorAC
import Derived.Test.YtijfhoelihclbaaGreatDoorH
import Derived.Test.YtijfhoelihclbaaGreatDoorShelf
namespace Go.Proofs.YtijfhoelihclbaaGreatDoor.w.e
open Go Go.Abs Go.Abs.Ty
set_option linter.unusedVariables false
set_option maxRecDepth 100000
set_option maxHeartbeats 2000000
noncomputable section
theorem ada (m:Int)(E:Env)(hE:qK E)(op n:Int)(s t:List UInt8)(ns ks:List Tree)(ln:ns.length≤4194304)(Il:∀y∈ns,T .string y)(lk:ks.length≤4194304)(hks:∀y∈ks,T .aW y)(n_:Nat)(hD:pT m (.agg [.int .u8 op,.int .i64 n,.str s,.str t,.sl ns,.sl ks])=0→DE n_ (.agg [.int .u8 op,.int .i64 n,.str s,.str t,.sl ns,.sl ks])):ay (cf m) 7 [.t (.agg [.int .u8 op,.int .i64 n,.str s,.str t,.sl ns,.sl ks]),.t (.agg [.sl E.ts,.sl E.ac]),.t (.agg [.str E.p,.str E.r,.sl E.c])] [] (.ret (.t (.bN [(kJ m n_ E (.agg [.int .u8 op,.int .i64 n,.str s,.str t,.sl ns,.sl ks])).1,.int .i64 (kJ m n_ E (.agg [.int .u8 op,.int .i64 n,.str s,.str t,.sl ns,.sl ks])).2])) [] []):=by
  obtain⟨lt,ht,la,ha,lc,hc⟩:=hE
  obtain⟨ev,ai,Em,OZ,Nb,FX,MF,O0,e_self,adb⟩:∃ev,aF (cf m) ev∧Has ev 9 (kY (T .aW) fun x=>.int .i64 (pT m x))∧Has ev 11 (kY (T .eE) fun x=>.int .i64 (EE m x))∧Has ev 16 (kY (T .cR) fun x=>.int .i64 (Vl m x))∧Has ev 17 (rD (fun x y=>x=.agg [.sl E.ts,.sl E.ac]∧∃s,y=.str s) fun _ y=>.bN [(cu qB (Ty.strOf y) E.ts).1,.int .i64 (cu qB (Ty.strOf y) E.ts).2])∧Has ev 13 (kY (T .aB) fun x=>.int .i64 (Yb m x))∧Has ev 18 (px [] [] (.ret (.map (.loc [1])) [] [(.loc [1],aI)]))∧Has ev 19 (pm [.cells 68 [.t (.sl E.ts),.t (.sl E.ac),.t (.str E.p),.t (.str E.r),.t (.sl E.c),.map (.arg 1)],aI] (fun xs=>xs=[.agg [.int .u8 op,.int .i64 n,.str s,.str t,.sl ns,.sl ks]]∧DE n_ (.agg [.int .u8 op,.int .i64 n,.str s,.str t,.sl ns,.sl ks])) (fun _=>.bN [(gI (OP m) E n_ (.agg [.int .u8 op,.int .i64 n,.str s,.str t,.sl ns,.sl ks])).1,.int .i64 (gI (OP m) E n_ (.agg [.int .u8 op,.int .i64 n,.str s,.str t,.sl ns,.sl ks])).2]))∧Has ev 20 (kY (T .aB) (fun x=>x)):=⟨_,(ax ((bD (OC m))) (ax ((bD (Ya m))) (ax ((bD (acd m))) (ax ((dn fun x y h=>by obtain⟨e,s,e2⟩:=h;subst e;subst e2;exact MI m E.ts E.ac lt ht la ha s)) (ax ((bD (ab9 m))) (ax ((kV (Vp m))) (ax ((SV fun xs h=>by obtain⟨e,h1⟩:=h;subst e;exact(vt m E ⟨lt,ht,la,ha,lc,hc⟩ n_ _ h1).1)) (ax ((bD (ab8 m))) aH)))))))),az,(aq rfl az),(aq rfl (aq rfl az)),(aq rfl (aq rfl (aq rfl az))),(aq rfl (aq rfl (aq rfl (aq rfl az)))),(aq rfl (aq rfl (aq rfl (aq rfl (aq rfl az))))),(aq rfl (aq rfl (aq rfl (aq rfl (aq rfl (aq rfl az)))))),(aq rfl (aq rfl (aq rfl (aq rfl (aq rfl (aq rfl (aq rfl az)))))))⟩
  refine ay.gL ?_
  refine AX.start 70 3 Tryz.func7 rfl (by decide) rfl rfl (by decide) ?_
  refine AX.frames ?_
  rcases aL (((Vl m (.sl [.int .i64 (pT m (.agg [.int .u8 op,.int .i64 n,.str s,.str t,.sl ns,.sl ks])),.int .i64 (EE m (.agg [.sl E.ts,.sl E.ac]))])) != 0)) with hc1|hc1
  ·
   have Aj:=aA hc1
   have hres:kJ m n_ E (.agg [.int .u8 op,.int .i64 n,.str s,.str t,.sl ns,.sl ks])=(.agg [.int .u8 0,.str [],.sl [],.sl []],(Vl m (.sl [.int .i64 (pT m (.agg [.int .u8 op,.int .i64 n,.str s,.str t,.sl ns,.sl ks])),.int .i64 (EE m (.agg [.sl E.ts,.sl E.ac]))]))):=by
     unfold kJ
     refine(if_pos (aA hc1)).trans ?_
     rfl
   show ∃_:Unit,KE (cf m) (cv (cf m) _ 0 (.ret (.t (.bN [(kJ m n_ E (.agg [.int .u8 op,.int .i64 n,.str s,.str t,.sl ns,.sl ks])).1,.int .i64 (kJ m n_ E (.agg [.int .u8 op,.int .i64 n,.str s,.str t,.sl ns,.sl ks])).2])) [] [])) _ _ _
   rw[hres]
   exact⟨(),kF ah ai [oC (bk Em (x:=.agg [.int .u8 op,.int .i64 n,.str s,.str t,.sl ns,.sl ks]) (.aW _ _ _ _ _ _ (by first|assumption|omega|(simp;done)|(simp;omega)) Il (by first|assumption|omega|(simp;done)|(simp;omega)) hks)),oC (bk OZ (x:=.agg [.sl E.ts,.sl E.ac]) (.eE _ _ (by first|assumption|omega|(simp;done)|(simp;omega)) ht (by first|assumption|omega|(simp;done)|(simp;omega)) ha)),oC (bk Nb (x:=.sl [.int .i64 (pT m (.agg [.int .u8 op,.int .i64 n,.str s,.str t,.sl ns,.sl ks])),.int .i64 (EE m (.agg [.sl E.ts,.sl E.ac]))]) (.cR _ (by simp) (by intro y hy;simp only[List.mem_cons,List.not_mem_nil,or_false] at hy;rcases hy with rfl|rfl|rfl<;>exact .dw _))),oB hc1] (by kernel_rfl)⟩
  ·
   have Aj:=av hc1
   have ej2:=dr FX (x:=.agg [.sl E.ts,.sl E.ac]) (y:=.str E.p) ⟨rfl,_,rfl⟩
   replace ej2:ev 17 [.t (.agg [.sl E.ts,.sl E.ac]),.t (.str E.p)] []=some (bG.ret (.t (.bN [(cu qB E.p E.ts).1,.int .i64 (cu qB E.p E.ts).2])) [] []):=ej2
   have vD:=vp (s:=E.p) Kn ht
   obtain⟨name_3,ado,iy,eq_3,MJ,MK,ML,MM⟩:=T.bu vD
   rw[eq_3] at vD
   have MN:=ej2
   rw[eq_3] at MN
   have Ws:=dr FX (x:=.agg [.sl E.ts,.sl E.ac]) (y:=.str E.r) ⟨rfl,_,rfl⟩
   replace Ws:ev 17 [.t (.agg [.sl E.ts,.sl E.ac]),.t (.str E.r)] []=some (bG.ret (.t (.bN [(cu qB E.r E.ts).1,.int .i64 (cu qB E.r E.ts).2])) [] []):=Ws
   have wI:=vp (s:=E.r) Kn ht
   obtain⟨sY,QH,oe,eq_6,MO,MQ,MS,MT⟩:=T.bu wI
   rw[eq_6] at wI
   have MU:=Ws
   rw[eq_6] at MU
   rcases aL (((Vl m (.sl [.int .i64 ((cu qB E.p E.ts).2),.int .i64 ((cu qB E.r E.ts).2),.int .i64 (Yb m (.agg [.int .u8 6,.str [],.sl [],.sl E.c]))])) != 0)) with fF|fF
   ·
    have wH:=aA fF
    have hres:kJ m n_ E (.agg [.int .u8 op,.int .i64 n,.str s,.str t,.sl ns,.sl ks])=(.agg [.int .u8 0,.str [],.sl [],.sl []],(Vl m (.sl [.int .i64 ((cu qB E.p E.ts).2),.int .i64 ((cu qB E.r E.ts).2),.int .i64 (Yb m (.agg [.int .u8 6,.str [],.sl [],.sl E.c]))]))):=by
      unfold kJ
      refine(if_neg (fun q=>q (av hc1))).trans ?_
      refine(if_pos (aA fF)).trans ?_
      rfl
    show ∃_:Unit,KE (cf m) (cv (cf m) _ 0 (.ret (.t (.bN [(kJ m n_ E (.agg [.int .u8 op,.int .i64 n,.str s,.str t,.sl ns,.sl ks])).1,.int .i64 (kJ m n_ E (.agg [.int .u8 op,.int .i64 n,.str s,.str t,.sl ns,.sl ks])).2])) [] [])) _ _ _
    rw[hres]
    exact⟨(),kF ah ai [oC (bk Em (x:=.agg [.int .u8 op,.int .i64 n,.str s,.str t,.sl ns,.sl ks]) (.aW _ _ _ _ _ _ (by first|assumption|omega|(simp;done)|(simp;omega)) Il (by first|assumption|omega|(simp;done)|(simp;omega)) hks)),oC (bk OZ (x:=.agg [.sl E.ts,.sl E.ac]) (.eE _ _ (by first|assumption|omega|(simp;done)|(simp;omega)) ht (by first|assumption|omega|(simp;done)|(simp;omega)) ha)),oC (bk Nb (x:=.sl [.int .i64 (pT m (.agg [.int .u8 op,.int .i64 n,.str s,.str t,.sl ns,.sl ks])),.int .i64 (EE m (.agg [.sl E.ts,.sl E.ac]))]) (.cR _ (by simp) (by intro y hy;simp only[List.mem_cons,List.not_mem_nil,or_false] at hy;rcases hy with rfl|rfl|rfl<;>exact .dw _))),oB hc1,oC MN,oC MU,oC (bk MF (x:=.agg [.int .u8 6,.str [],.sl [],.sl E.c]) (.aB _ _ _ _ (by first|assumption|omega|(simp;done)|(simp;omega)) (by simp) (by first|assumption|omega|(simp;done)|(simp;omega)) hc)),oC (bk Nb (x:=.sl [.int .i64 ((cu qB E.p E.ts).2),.int .i64 ((cu qB E.r E.ts).2),.int .i64 (Yb m (.agg [.int .u8 6,.str [],.sl [],.sl E.c]))]) (.cR _ (by simp) (by intro y hy;simp only[List.mem_cons,List.not_mem_nil,or_false] at hy;rcases hy with rfl|rfl|rfl<;>exact .dw _))),oB fF] (by kernel_rfl)⟩
   ·
    have wH:=av fF
    have hde:=hD ((s7 m _ _).1 (av hc1)).1
    have ez9:ev 19 [.ptr (.arg 0) 0,.t (.agg [.int .u8 op,.int .i64 n,.str s,.str t,.sl ns,.sl ks])] [.cells 68 [.t (.sl E.ts),.t (.sl E.ac),.t (.str E.p),.t (.str E.r),.t (.sl E.c),.map (.arg 1)],aI]=some (bG.ret (.t (.bN [(gI (OP m) E n_ (.agg [.int .u8 op,.int .i64 n,.str s,.str t,.sl ns,.sl ks])).1,.int .i64 (gI (OP m) E n_ (.agg [.int .u8 op,.int .i64 n,.str s,.str t,.sl ns,.sl ks])).2])) [.cells 68 [.t (.sl E.ts),.t (.sl E.ac),.t (.str E.p),.t (.str E.r),.t (.sl E.c),.map (.arg 1)],aI] []):=Xe e_self [.agg [.int .u8 op,.int .i64 n,.str s,.str t,.sl ns,.sl ks]] ⟨rfl,hde⟩
    have DO:=(vt m E ⟨lt,ht,la,ha,lc,hc⟩ n_ _ hde).2
    obtain⟨sU,qx,wX,pS,eq_10,Oo,Oq,Ot,Ou⟩:=T.aT DO
    rw[eq_10] at DO
    have ade:=ez9
    rw[eq_10] at ade
    rcases aL (((gI (OP m) E n_ (.agg [.int .u8 op,.int .i64 n,.str s,.str t,.sl ns,.sl ks])).2 != 0)) with jv|jv
    ·
     have uC:=aA jv
     have hres:kJ m n_ E (.agg [.int .u8 op,.int .i64 n,.str s,.str t,.sl ns,.sl ks])=(.agg [.int .u8 0,.str [],.sl [],.sl []],(gI (OP m) E n_ (.agg [.int .u8 op,.int .i64 n,.str s,.str t,.sl ns,.sl ks])).2):=by
       unfold kJ
       refine(if_neg (fun q=>q (av hc1))).trans ?_
       refine(if_neg (fun q=>q (av fF))).trans ?_
       refine(if_pos (aA jv)).trans ?_
       rfl
     show ∃_:Unit,KE (cf m) (cv (cf m) _ 0 (.ret (.t (.bN [(kJ m n_ E (.agg [.int .u8 op,.int .i64 n,.str s,.str t,.sl ns,.sl ks])).1,.int .i64 (kJ m n_ E (.agg [.int .u8 op,.int .i64 n,.str s,.str t,.sl ns,.sl ks])).2])) [] [])) _ _ _
     rw[hres]
     exact⟨(),kF ah ai [oC (bk Em (x:=.agg [.int .u8 op,.int .i64 n,.str s,.str t,.sl ns,.sl ks]) (.aW _ _ _ _ _ _ (by first|assumption|omega|(simp;done)|(simp;omega)) Il (by first|assumption|omega|(simp;done)|(simp;omega)) hks)),oC (bk OZ (x:=.agg [.sl E.ts,.sl E.ac]) (.eE _ _ (by first|assumption|omega|(simp;done)|(simp;omega)) ht (by first|assumption|omega|(simp;done)|(simp;omega)) ha)),oC (bk Nb (x:=.sl [.int .i64 (pT m (.agg [.int .u8 op,.int .i64 n,.str s,.str t,.sl ns,.sl ks])),.int .i64 (EE m (.agg [.sl E.ts,.sl E.ac]))]) (.cR _ (by simp) (by intro y hy;simp only[List.mem_cons,List.not_mem_nil,or_false] at hy;rcases hy with rfl|rfl|rfl<;>exact .dw _))),oB hc1,oC MN,oC MU,oC (bk MF (x:=.agg [.int .u8 6,.str [],.sl [],.sl E.c]) (.aB _ _ _ _ (by first|assumption|omega|(simp;done)|(simp;omega)) (by simp) (by first|assumption|omega|(simp;done)|(simp;omega)) hc)),oC (bk Nb (x:=.sl [.int .i64 ((cu qB E.p E.ts).2),.int .i64 ((cu qB E.r E.ts).2),.int .i64 (Yb m (.agg [.int .u8 6,.str [],.sl [],.sl E.c]))]) (.cR _ (by simp) (by intro y hy;simp only[List.mem_cons,List.not_mem_nil,or_false] at hy;rcases hy with rfl|rfl|rfl<;>exact .dw _))),oB fF,oC (lX O0),oC ade,oB jv] (by kernel_rfl)⟩
    ·
     have uC:=av jv
     have hres:kJ m n_ E (.agg [.int .u8 op,.int .i64 n,.str s,.str t,.sl ns,.sl ks])=(.agg [.int .u8 sU,.str qx,.sl wX,.sl pS],0):=by
       unfold kJ
       refine(if_neg (fun q=>q (av hc1))).trans ?_
       refine(if_neg (fun q=>q (av fF))).trans ?_
       refine(if_neg (fun q=>q (av jv))).trans ?_
       exact Prod.ext eq_10 rfl
     show ∃_:Unit,KE (cf m) (cv (cf m) _ 0 (.ret (.t (.bN [(kJ m n_ E (.agg [.int .u8 op,.int .i64 n,.str s,.str t,.sl ns,.sl ks])).1,.int .i64 (kJ m n_ E (.agg [.int .u8 op,.int .i64 n,.str s,.str t,.sl ns,.sl ks])).2])) [] [])) _ _ _
     rw[hres]
     exact⟨(),kF ah ai [oC (bk Em (x:=.agg [.int .u8 op,.int .i64 n,.str s,.str t,.sl ns,.sl ks]) (.aW _ _ _ _ _ _ (by first|assumption|omega|(simp;done)|(simp;omega)) Il (by first|assumption|omega|(simp;done)|(simp;omega)) hks)),oC (bk OZ (x:=.agg [.sl E.ts,.sl E.ac]) (.eE _ _ (by first|assumption|omega|(simp;done)|(simp;omega)) ht (by first|assumption|omega|(simp;done)|(simp;omega)) ha)),oC (bk Nb (x:=.sl [.int .i64 (pT m (.agg [.int .u8 op,.int .i64 n,.str s,.str t,.sl ns,.sl ks])),.int .i64 (EE m (.agg [.sl E.ts,.sl E.ac]))]) (.cR _ (by simp) (by intro y hy;simp only[List.mem_cons,List.not_mem_nil,or_false] at hy;rcases hy with rfl|rfl|rfl<;>exact .dw _))),oB hc1,oC MN,oC MU,oC (bk MF (x:=.agg [.int .u8 6,.str [],.sl [],.sl E.c]) (.aB _ _ _ _ (by first|assumption|omega|(simp;done)|(simp;omega)) (by simp) (by first|assumption|omega|(simp;done)|(simp;omega)) hc)),oC (bk Nb (x:=.sl [.int .i64 ((cu qB E.p E.ts).2),.int .i64 ((cu qB E.r E.ts).2),.int .i64 (Yb m (.agg [.int .u8 6,.str [],.sl [],.sl E.c]))]) (.cR _ (by simp) (by intro y hy;simp only[List.mem_cons,List.not_mem_nil,or_false] at hy;rcases hy with rfl|rfl|rfl<;>exact .dw _))),oB fF,oC (lX O0),oC ade,oB jv,oC (bk adb (x:=.agg [.int .u8 sU,.str qx,.sl wX,.sl pS]) DO)] (by kernel_rfl)⟩
theorem adf {m:Int}{n:Nat}{E:Env}{e:Tree}(hE:qK E)(hD:pT m e=0→DE n e):T .aB (kJ m n E e).1:=by
  by_cases h:(kJ m n E e).2=0
  · obtain⟨h1,h2,h3,h4⟩:=zG h
    rw[h4]
    exact(vt m E hE n e (hD ((s7 m _ _).1 h1).1)).2
  · rw[KM h];exact nx
theorem agw (m:Int)(E:Env)(hE:qK E)(e:Tree)(he:T .aW e)(n:Nat)(hD:pT m e=0→DE n e):R3 (cf m) 7 e (.agg [.sl E.ts,.sl E.ac]) (.agg [.str E.p,.str E.r,.sl E.c]) (.bN [(kJ m n E e).1,.int .i64 (kJ m n E e).2]):=by
 obtain⟨op,k,s,t,ns,ks,rfl,g1,g2,g3,g4⟩:=T.cG he
 exact ada m E hE op k s t ns ks g1 g2 g3 g4 n hD
end
end Go.Proofs.YtijfhoelihclbaaGreatDoor.w.e

namespace Go.Proofs.YtijfhoelihclbaaGreatDoor.w.e
open Go Go.Abs Go.Abs.Ty
set_option linter.unusedVariables false
set_option maxRecDepth 100000
set_option maxHeartbeats 2000000
noncomputable section
end
end Go.Proofs.YtijfhoelihclbaaGreatDoor.w.e

namespace Go.Proofs.YtijfhoelihclbaaGreatDoor.w.e
open Go Go.Abs Go.Abs.Ty
set_option linter.unusedVariables false
set_option maxRecDepth 100000
set_option maxHeartbeats 2000000
noncomputable section
def vT (E:Env):Tree:=.agg [.str E.p,.str E.r,.sl E.c]
def Yw (p:Tree×Int):Tree:=.bN [p.1,.int .i64 p.2]
end
end Go.Proofs.YtijfhoelihclbaaGreatDoor.w.e

namespace Go.Proofs.YtijfhoelihclbaaGreatDoor.w.e
open Go Go.Abs Go.Abs.Ty
set_option linter.unusedVariables false
set_option maxRecDepth 100000
set_option maxHeartbeats 2000000
noncomputable section
theorem Yx (m:Int){x:Tree}(hT:T .aB x)(h:iK x):JF m x x=(x,0):=by
 obtain⟨n,d1,d2,e⟩:=acf m hT hT
 obtain⟨k,g⟩:=h
 rw[e];exact pq n x (Gd.deep n k x d1 g)
theorem Yy (m:Int){x:Tree}(hT:T .aB x)(h:iK x):JF m ei x=(x,0):=by
 obtain⟨n,d1,d2,e⟩:=acf m nx hT
 obtain⟨k,g⟩:=h
 rw[e];exact Lm n x (Gd.deep n k x d2 g)
theorem adg (m:Int){a b:Tree}(ha:T .aB a)(hb:T .aB b)(ga:iK a)(gb:iK b)(h:(JF m a b).2=0):iK (JF m a b).1:=by
 obtain⟨n,d1,d2,e⟩:=acf m ha hb
 obtain⟨k,g1⟩:=ga
 obtain⟨j,g2⟩:=gb
 rw[e] at h ⊢
 exact⟨n,Li (Gd.deep n k a d1 g1) (Gd.deep n j b d2 g2) h⟩
theorem KN (op:Int):(aO op).2.2<7∧(aO op).2.2≠5:=by
 unfold aO
 repeat' split
 all_goals exact⟨by decide,by decide⟩
theorem KO (m:Int)(E:Env)(hE:qK E)(hG:RV E):∀(n:Nat) (x:Tree),DE n x→(gI (OP m) E n x).2=0→iK (gI (OP m) E n x).1
 |0,x,h,_=>h.elim
 | n+1,x,⟨h1,h2,h3⟩,hz=>by
  obtain⟨op,k,s,t,ns,ks,rfl,g1,g2,g3,g4⟩:=T.cG h1
  have hk:=Fa (show(bQ (OP m) E (gI (OP m) E n) _).2=0 from hz)
  have e:gI (OP m) E (n+1) (.agg [.int .u8 op,.int .i64 k,.str s,.str t,.sl ns,.sl ks])=jg (OP m) E op s t ns (ks.map fun k=>(gI (OP m) E n k).1):=bH hk
  rw[e] at hz ⊢
  exact PF (O:=OP m) (Tp:=T .aB) nx (JFT m) (fun a b ha hb ga gb h=>adg m ha hb ga gb h) KN (fun l e he=>rO he) hG (fun y hy=>by
   obtain⟨k,hk',rfl⟩:=List.mem_map.1 hy
   exact⟨(vt m E hE n k (h3 k hk')).2,KO m E hE hG n k (h3 k hk') (uh hk k hk')⟩) hz
theorem KP:∀{n:Nat} {x:Tree},DE n x→Dx n x
 |0,_,h=>h.elim
 |n+1,x,⟨_,_,h⟩=>fun k hk=>KP (h k hk)
theorem qy {O:WN}{E:Env}:∀(n k:Nat) (x:Tree),DE n x→DE k x→gI O E n x=gI O E k x
 |0,_,_,h,_=>h.elim
 |_+1,0,_,_,h=>h.elim
 |n+1,k+1,x,⟨h1,_,h2⟩,⟨_,_,h3⟩=>by
  obtain⟨op,j,s,t,ns,ks,rfl,g1,g2,g3,g4⟩:=T.cG h1
  have hc:∀y∈ks,gI O E n y=gI O E k y:=fun y hy=>qy n k y (h2 y hy) (h3 y hy)
  have hf:fZ (gI O E n) ks=fZ (gI O E k) ks:=xX hc
  have hm:ks.map (fun y=>(gI O E n y).1)=ks.map fun y=>(gI O E k y).1:=List.map_congr_left fun y hy=>by rw[hc y hy]
  show bQ O E (gI O E n) _=bQ O E (gI O E k) _
  simp only[bQ,hf,hm]
def jV (x:Tree):Nat:= @dite _ (∃n,DE n x) (Classical.propDecidable _) (fun h=>h.choose) fun _=>0
theorem BX {x:Tree}{n:Nat}(h:DE n x):DE (jV x) x:=by
 have hx:∃n,DE n x:=⟨n,h⟩
 have e:jV x=hx.choose:=dif_pos hx
 rw[e];exact hx.choose_spec
def mM (m:Int)(E:Env)(x:Tree):Tree×Int:=kJ m (jV x) E x
theorem vu {m:Int}{x:Tree}(hx:T .aW x)(h:pT m x=0):DE (jV x) x:=by
 obtain⟨n,hn⟩:=agv (X8 m hx h) hx
 exact BX hn
theorem adh (m:Int)(E:Env)(hE:qK E)(e:Tree)(he:T .aW e):R3 (cf m) 7 e (aj5 E) (vT E) (Yw (mM m E e)):=agw m E hE e he _ fun h=>vu he h
theorem Nc {m:Int}{E:Env}{e:Tree}(hE:qK E)(he:T .aW e):T .aB (mM m E e).1:=adf hE fun h=>vu he h
theorem V8 {m:Int}{E:Env}{e:Tree}(h:(mM m E e).2≠0):(mM m E e).1=ei:=KM h
theorem V9 {m:Int}{E:Env}{e:Tree}(hE:qK E)(he:T .aW e)(h:(mM m E e).2=0):iK (mM m E e).1∧pT m e=0:=by
 obtain⟨h1,h2,h3,h4⟩:=zG h
 obtain⟨a1,a2⟩:=(s7 m _ _).1 h1
 obtain⟨b1,b2,b3⟩:=(V7 m _ _ _).1 h2
 have hs:=Vk m (x:=.agg [.sl E.ts,.sl E.ac]) (.eE _ _ hE.lt hE.ht hE.la hE.ha) a2
 have hc:=Yc m (x:=.agg [.int .u8 6,.str [],.sl [],.sl E.c]) (.aB _ _ _ _ (by simp) (by simp) hE.lc hE.hc) b3
 refine⟨?_,a1⟩
 rw[show mM m E e=_ from h4]
 exact KO m E hE ⟨fun d hd=>(hs d hd).attrs,iK.attrs (k:=6) (s:=[]) (os:=[]) hc⟩ _ e (vu he a1) h3
theorem Ie {m:Int}{x:Tree}{n:Nat}(hx:T .aW x)(hd:Dx n x):pT m x=wm (zK (ny m) n x):=by
 obtain⟨k,h1,h2⟩:=X9 m hx
 rw[h2,wk k n x h1 hd]
theorem Wa {m:Int}{E:Env}{e k:Tree}(he:T .aW e)(hb:bulk e≤1048576)(h:(mM m E e).2=0)(hk:k∈eR e)(hkT:T .aW k):(mM m E k).2=0:=by
 obtain⟨h1,h2,h3,h4⟩:=zG h
 obtain⟨a1,a2⟩:=(s7 m _ _).1 h1
 have hd:=vu he a1
 generalize jV e=d at*
 cases d with
 |zero=>exact hd.elim
 | succ d=>
  have hdk:DE d k:=hd.2.2 k hk
  have Pm:pT m k=0:=by
   rw[Ie hkT (KP hdk)]
   refine WR (x:=e) ?_ ?_ hk
   · have:=CM (d+1) e;omega
   · rw[← Ie he (KP hd)];exact a1
  have hi:(gI (OP m) E (jV k) k).2=0:=by
   rw[qy (jV k) d k (BX hdk) hdk]
   obtain⟨op,j,s,t,ns,ks,rfl,g1,g2,g3,g4⟩:=T.cG he
   exact uh (Fa (show(bQ (OP m) E (gI (OP m) E d) _).2=0 from h3)) k hk
  have:=Ic (m:=m) (n:=jV k) (E:=E) (e:=k) ((s7 m _ _).2 ⟨Pm,a2⟩) h2 hi
  rw[show mM m E k=_ from this]
theorem FY (a:Tree):gM [a]=[a]:=by
 have h1:=gu [a]
 have h2:∀x∈gM [a],x=a:=fun x hx=>List.mem_singleton.1 (rO hx)
 match hs:gM [a],h1 with
 | [x],_=>rw[h2 x (by rw[hs];exact List.mem_cons_self)]
def rT (e:Tree):Tree:=.agg [.int .u8 6,.int .i64 0,.str [],.str [],.sl [],.sl [e,e]]
theorem En {e:Tree}(he:T .aW e):T .aW (rT e):=.aW _ _ _ _ _ _ (by simp) (by simp) (by simp) (fun y hy=>by
 simp only[List.mem_cons,List.not_mem_nil,or_false] at hy
 rcases hy with rfl|rfl<;>exact he)
theorem Ig {e:Tree}(he:T .aW e):T .aW (dA e):=.aW _ _ _ _ _ _ (by simp) (fun y hy=>by rw[List.mem_singleton.1 hy];exact .string _) (by simp) (fun y hy=>by rw[List.mem_singleton.1 hy];exact he)
theorem Wb {m:Int}{E:Env}{e:Tree}(hE:qK E)(he:T .aW e)(h:(mM m E e).2=0)(hs:pT m (rT e)=0):mM m E (rT e)=(aC 5 [] [(mM m E e).1] [],0):=by
  obtain⟨h1,h2,h3,h4⟩:=zG h
  obtain⟨a1,a2⟩:=(s7 m _ _).1 h1
  have hd:=vu he a1
  have hT:=Nc (m:=m) hE he
  have hR:=(V9 hE he h).1
  have hds:DE (jV e+1) (rT e):=⟨En he,⟨by decide,by simp,by simp,by simp⟩,fun k hk=>by
    simp only[rT,eR,List.mem_cons,List.not_mem_nil,or_false] at hk
    rcases hk with rfl|rfl<;>exact hd⟩
  have e4:mM m E e=_:=h4
  rw[e4] at hT hR ⊢
  simp only at hT hR ⊢
  have hi:gI (OP m) E (jV e+1) (rT e)=(aC 5 [] [(gI (OP m) E (jV e) e).1] [],0):=by
    refine(bH (qX fun k hk=> ?_)).trans ?_
    · simp only[List.mem_cons,List.not_mem_nil,or_false] at hk
      rcases hk with rfl|rfl<;>exact h3
    · have hj:br (OP m).J ei ([e,e].map fun k=>(gI (OP m) E (jV e) k).1)=((gI (OP m) E (jV e) e).1,0):=by
        show br (JF m) ei [(gI (OP m) E (jV e) e).1,(gI (OP m) E (jV e) e).1]=_
        simp only[br,Yy m hT hR,Yx m hT hR]
        rfl
      unfold jg
      rw[if_neg (by decide),if_neg (by decide),if_neg (by decide),if_pos rfl,hj]
      rfl
  have hi2:gI (OP m) E (jV (rT e)) (rT e)=_:=(qy _ _ _ (BX hds) hds).trans hi
  have:=Ic (m:=m) (n:=jV (rT e)) (E:=E) (e:=rT e) ((s7 m _ _).2 ⟨hs,a2⟩) h2 (by rw[hi2])
  rw[hi2] at this
  exact this
theorem Wc {m:Int}{E:Env}{e:Tree}(hE:qK E)(he:T .aW e)(hb:bulk e≤1048576)(h:(mM m E e).2=0)(hs:pT m (rT e)=0):mM m E (dA e)=(aC 6 [] [] [Im [97] (mM m E e).1],0):=by
  obtain⟨h1,h2,h3,h4⟩:=zG h
  obtain⟨a1,a2⟩:=(s7 m _ _).1 h1
  have hd:=vu he a1
  have hdx:=KP hd
  have hds:Dx (jV e+1) (rT e):=fun k hk=>by
    simp only[rT,eR,List.mem_cons,List.not_mem_nil,or_false] at hk
    rcases hk with rfl|rfl<;>exact hdx
  have hdr:DE (jV e+1) (dA e):=⟨Ig he,⟨by decide,by simp,by simp,by simp⟩,fun k hk=>by
    simp only[dA,eR,List.mem_cons,List.not_mem_nil,or_false] at hk
    subst hk;exact hd⟩
  have hc:=CM (jV e) e
  have hcs:lU (jV e+1) (rT e)=lU (jV e) e+lU (jV e) e+1:=by simp[lU,rT,eR]
  have hcr:lU (jV e+1) (dA e)=lU (jV e) e+1:=by simp[lU,dA,eR]
  have hls:tE (jV e+1) (rT e)=tE (jV e) e+1:=by simp[tE,rT,eR]
  have hlr:tE (jV e+1) (dA e)=tE (jV e) e+1:=by simp[tE,dA,eR]
  have aj6:pT m (dA e)=0:=by
    rw[Ie (Ig he) (KP hdr)]
    refine RW (x:=rT e) (by omega) ?_ (XU m (Ig he)) (fun k hk=> ?_) (by omega) (by omega)
    · rw[← Ie (En he) hds];exact hs
    · simp only[dA,eR,List.mem_cons,List.not_mem_nil,or_false] at hk
      subst hk;simp[rT,eR]
  have hi:gI (OP m) E (jV e+1) (dA e)=(aC 6 [] [] [Im [97] (gI (OP m) E (jV e) e).1],0):=by
    refine(bH (qX fun k hk=> ?_)).trans ?_
    · simp only[List.mem_cons,List.not_mem_nil,or_false] at hk
      subst hk;exact h3
    · unfold jg
      rw[if_neg (by decide),if_neg (by decide),if_neg (by decide),if_neg (by decide),if_pos rfl]
      show(aC 6 [] [] (gM [Im [97] (gI (OP m) E (jV e) e).1]),0)=_
      rw[FY]
  have hi2:gI (OP m) E (jV (dA e)) (dA e)=_:=(qy _ _ _ (BX hdr) hdr).trans hi
  have:=Ic (m:=m) (n:=jV (dA e)) (E:=E) (e:=dA e) ((s7 m _ _).2 ⟨aj6,a2⟩) h2 (by rw[hi2])
  rw[hi2] at this
  rw[show mM m E e=_ from h4]
  exact this
end
end Go.Proofs.YtijfhoelihclbaaGreatDoor.w.e

namespace Go.Proofs.YtijfhoelihclbaaGreatDoor.w.e
open Go Go.Abs Go.Abs.Ty
set_option linter.unusedVariables false
set_option maxRecDepth 100000
set_option maxHeartbeats 2000000
noncomputable section
theorem adi {a b:Int}(h:a=b):(a != b)=false:=by subst h;simp
theorem Ih {g:FuncId}{ev:aS}{args:List TV}{aR:List aQ}{a b:Tree}(h:ev g args aR=some (.ret (.t a) [] []))(e:a=b):ev g args aR=some (.ret (.t b) [] []):=e▸h
theorem Wd (m:Int)(E:Env)(hE:qK E)(op n:Int)(s t:List UInt8)(ns ks:List Tree)(ln:ns.length≤4194304)(Il:∀y∈ns,T .string y)(lk:ks.length≤4194304)(hks:∀y∈ks,T .aW y)(hb:bulk (.agg [.int .u8 op,.int .i64 n,.str s,.str t,.sl ns,.sl ks])≤1048576):ay (cf m) 3 [.t (.agg [.int .u8 op,.int .i64 n,.str s,.str t,.sl ns,.sl ks]),.t (.agg [.sl E.ts,.sl E.ac]),.t (.agg [.str E.p,.str E.r,.sl E.c])] [] (.ret (.t (.bool true)) [] []):=by
  obtain⟨lt,ht,la,ha,lc,hc⟩:=hE
  have Yz:T .aW (.agg [.int .u8 op,.int .i64 n,.str s,.str t,.sl ns,.sl ks]):=.aW _ _ _ _ _ _ ln Il lk hks
  obtain⟨ev,ai,agx,O1,G6,Em⟩:∃ev,aF (cf m) ev∧Has ev 6 (pc0 (.bool true))∧Has ev 7 (pc3 (fun a x v=>T .aW a∧x=.agg [.sl E.ts,.sl E.ac]∧v=.agg [.str E.p,.str E.r,.sl E.c]) fun a _ _=>Yw (mM m E a))∧Has ev 8 (rD (fun x y=>T .aB x∧T .aB y) fun x y=>.bool (same x y))∧Has ev 9 (kY (T .aW) fun x=>.int .i64 (pT m x)):=⟨_,(ax ((aaD (Uo m))) (ax ((aaE fun a x v h=>by obtain⟨h1,e1,e2⟩:=h;subst e1;subst e2;exact adh m E ⟨lt,ht,la,ha,lc,hc⟩ a h1)) (ax ((dn (X7 m))) (ax ((bD (OC m))) aH)))),az,(aq rfl az),(aq rfl (aq rfl az)),(aq rfl (aq rfl (aq rfl az)))⟩
  refine ay.gL ?_
  refine AX.start 118 3 Tryz.func3 rfl (by decide) rfl rfl (by decide) ?_
  refine AX.frames ?_
  have ez2:ev 7 [.t (.agg [.int .u8 op,.int .i64 n,.str s,.str t,.sl ns,.sl ks]),.t (.agg [.sl E.ts,.sl E.ac]),.t (.agg [.str E.p,.str E.r,.sl E.c])] []=some (bG.ret (.t (.bN [(mM m E (.agg [.int .u8 op,.int .i64 n,.str s,.str t,.sl ns,.sl ks])).1,.int .i64 (mM m E (.agg [.int .u8 op,.int .i64 n,.str s,.str t,.sl ns,.sl ks])).2])) [] []):=W9 O1 ⟨Yz,rfl,rfl⟩
  have vD:=Nc (m:=m) ⟨lt,ht,la,ha,lc,hc⟩ Yz
  obtain⟨jl,name_3,nM,iy,eq_3,MJ,MK,ML,MM⟩:=T.aT vD
  rw[eq_3] at vD
  have MN:=ez2
  rw[eq_3] at MN
  rcases aL (((mM m E (.agg [.int .u8 op,.int .i64 n,.str s,.str t,.sl ns,.sl ks])).2 != 0)) with jX|jX
  ·
   have wG:=aA jX
   have hs:(same (.agg [.int .u8 jl,.str name_3,.sl nM,.sl iy]) (.agg [.int .u8 0,.str [],.sl [],.sl []]))=true:=Dl (eq_3.symm.trans (V8 (aA jX)))
   exact⟨(),cast (congrArg (fun z=>KE (cf m) (cv (cf m) _ 0 (.ret (.t (.bool z)) [] [])) _ _ _) hs) (kF ah ai [oC (adZ agx),oF,oC MN,oB jX,oC (show ev 8 [.t (.agg [.int .u8 jl,.str name_3,.sl nM,.sl iy]),.t (.agg [.int .u8 0,.str [],.sl [],.sl []])] []=some (bG.ret (.t (.bool (same (.agg [.int .u8 jl,.str name_3,.sl nM,.sl iy]) (.agg [.int .u8 0,.str [],.sl [],.sl []])))) [] []) from(dr G6 (x:=(.agg [.int .u8 jl,.str name_3,.sl nM,.sl iy])) (y:=(.agg [.int .u8 0,.str [],.sl [],.sl []])) ⟨vD,nx⟩))] (by kernel_rfl))⟩
  ·
   have wG:=av jX
   refine eF (f:=0) (n:=3000) (once:=[]) (k:=118) (T:=4) (S:=[.loc [0],.loc [1],.loc [2],.loc [13]]) (ks:=[.loc [0],.loc [1],.loc [2],.loc [13]]) (live:=[3,4,5,7,33,34,35]) ah ai (α:=Nat) (fun x=>⟨bX 118 [(3,.ptr (.loc [0]) 0),(4,.ptr (.loc [1]) 0),(5,.ptr (.loc [2]) 0),(7,.ptr (.loc [3]) 0),(33,.t (.sl ks)),(34,.t (.int .i64 ((ks.length:Nat):Int))),(35,.t (.int .i64 ((x:Nat):Int)))],[(.loc [0],.cells 26 [.t (.int .u8 op),.t (.int .i64 n),.t (.str s),.t (.str t),.t (.sl ns),.t (.sl ks)]),(.loc [1],.cells 30 [.t (.sl E.ts),.t (.sl E.ac)]),(.loc [2],.cells 33 [.t (.str E.p),.t (.str E.r),.t (.sl E.c)]),(.loc [3],.cells 38 [.t (.int .u8 jl),.t (.str name_3),.t (.sl nM),.t (.sl iy)])],4⟩) (fun x=>(x≤ks.length)) (fun x=>ks.length - x) 0 (iF (Tryz.f3.body.getD .skip) 7) [oC (adZ agx),oF,oC MN,oB jX] (by kernel_rfl) (by show(0≤ks.length);first|trivial|omega|(refine⟨?_, ?_⟩<;>first|omega|exact SM.nil)|simp) (fun x hok=> ?_)
   obtain⟨Bc,k3⟩:∃y,y=x:=⟨x,rfl⟩
   subst k3
   replace hok:(Bc≤ks.length):=hok
   have XW:=hok
   rcases aL (decide (((Bc:Nat):Int)<((ks.length:Nat):Int))) with qv|qv
   ·
    have Hf:=of_decide_eq_true qv
    obtain⟨e8,Ez⟩:=ou ks Bc (by first|omega|(simp;omega))
    have Qt:=(hks e8 (List.mem_of_getElem? Ez))
    obtain⟨yN,Oi,Iq,yO,js,lH,rfl,abw,abx,aby,abz⟩:=T.cG Qt
    have aj7:ev 7 [.t (.agg [.int .u8 yN,.int .i64 Oi,.str Iq,.str yO,.sl js,.sl lH]),.t (.agg [.sl E.ts,.sl E.ac]),.t (.agg [.str E.p,.str E.r,.sl E.c])] []=some (bG.ret (.t (.bN [(mM m E (.agg [.int .u8 yN,.int .i64 Oi,.str Iq,.str yO,.sl js,.sl lH])).1,.int .i64 (mM m E (.agg [.int .u8 yN,.int .i64 Oi,.str Iq,.str yO,.sl js,.sl lH])).2])) [] []):=W9 O1 ⟨Qt,rfl,rfl⟩
    have ZY:=Nc (m:=m) ⟨lt,ht,la,ha,lc,hc⟩ Qt
    obtain⟨ail,aim,aj8,agy,eq_12,ain,aio,aip,aiq⟩:=T.aT ZY
    rw[eq_12] at ZY
    have agz:=aj7
    rw[eq_12] at agz
    exact⟨.inl ⟨Bc+1,⟨(by show(Bc+1)≤ks.length;omega),(by show(ks.length - (Bc+1))<(ks.length - Bc);omega)⟩⟩,bS (f:=0) (n:=3000) (once:=[]) (k:=118) (T:=4) (S:=[.loc [0],.loc [1],.loc [2],.loc [3]]) (ks:=[.loc [0],.loc [1],.loc [2],.loc [3]]) (live:=[3,4,5,7,33,34,35]) ah ai [oB qv,oE Ez,oC agz,oB (show(((mM m E (.agg [.int .u8 yN,.int .i64 Oi,.str Iq,.str yO,.sl js,.sl lH])).2 != 0))=false from(adi (Wa Yz hb (av jX) (List.mem_of_getElem? Ez) Qt))),oI (Bc) (by omega)] (by kernel_rfl)⟩
   ·
    have Hf:=of_decide_eq_false qv
    refine kO ah ai [oB qv] (by kernel_rfl) ?_
    rcases aL (((pT m (.agg [.int .u8 6,.int .i64 0,.str [],.str [],.sl [],.sl [.agg [.int .u8 op,.int .i64 n,.str s,.str t,.sl ns,.sl ks],.agg [.int .u8 op,.int .i64 n,.str s,.str t,.sl ns,.sl ks]]])) != 0)) with pK|pK
    ·
     have JR:=aA pK
     exact⟨(),kF ah ai [oC (bk Em (x:=.agg [.int .u8 6,.int .i64 0,.str [],.str [],.sl [],.sl [.agg [.int .u8 op,.int .i64 n,.str s,.str t,.sl ns,.sl ks],.agg [.int .u8 op,.int .i64 n,.str s,.str t,.sl ns,.sl ks]]]) (En Yz)),oB pK] (by kernel_rfl)⟩
    ·
     have JR:=av pK
     have YA:(mM m E (rT (.agg [.int .u8 op,.int .i64 n,.str s,.str t,.sl ns,.sl ks])))=(.agg [.int .u8 5,.str [],.sl [.agg [.int .u8 jl,.str name_3,.sl nM,.sl iy]],.sl []],0):=by rw[(Wb ⟨lt,ht,la,ha,lc,hc⟩ Yz (av jX) (av pK)),eq_3];rfl
     have acQ:ev 7 [.t (.agg [.int .u8 6,.int .i64 0,.str [],.str [],.sl [],.sl [.agg [.int .u8 op,.int .i64 n,.str s,.str t,.sl ns,.sl ks],.agg [.int .u8 op,.int .i64 n,.str s,.str t,.sl ns,.sl ks]]]),.t (.agg [.sl E.ts,.sl E.ac]),.t (.agg [.str E.p,.str E.r,.sl E.c])] []=some (bG.ret (.t (.bN [.agg [.int .u8 5,.str [],.sl [.agg [.int .u8 jl,.str name_3,.sl nM,.sl iy]],.sl []],.int .i64 0])) [] []):=Ih (W9 O1 ⟨(En Yz),rfl,rfl⟩) (congrArg Yw YA)
     have YB:(mM m E (dA (.agg [.int .u8 op,.int .i64 n,.str s,.str t,.sl ns,.sl ks])))=(.agg [.int .u8 6,.str [],.sl [],.sl [.agg [.str [97],.int .u8 jl,.str name_3,.sl nM,.sl iy]]],0):=by rw[(Wc ⟨lt,ht,la,ha,lc,hc⟩ Yz hb (av jX) (av pK)),eq_3];rfl
     have aj9:ev 7 [.t (.agg [.int .u8 7,.int .i64 0,.str [],.str [],.sl [.str [97]],.sl [.agg [.int .u8 op,.int .i64 n,.str s,.str t,.sl ns,.sl ks]]]),.t (.agg [.sl E.ts,.sl E.ac]),.t (.agg [.str E.p,.str E.r,.sl E.c])] []=some (bG.ret (.t (.bN [.agg [.int .u8 6,.str [],.sl [],.sl [.agg [.str [97],.int .u8 jl,.str name_3,.sl nM,.sl iy]]],.int .i64 0])) [] []):=Ih (W9 O1 ⟨(Ig Yz),rfl,rfl⟩) (congrArg Yw YB)
     exact⟨(),kF ah ai [oC (bk Em (x:=.agg [.int .u8 6,.int .i64 0,.str [],.str [],.sl [],.sl [.agg [.int .u8 op,.int .i64 n,.str s,.str t,.sl ns,.sl ks],.agg [.int .u8 op,.int .i64 n,.str s,.str t,.sl ns,.sl ks]]]) (En Yz)),oB pK,oC acQ,oC aj9,oT,oT,oT,oT,oT,oT,oT,oT,oT,oT,oT,oT,oT,oT,oT,oE (show([.agg [.int .u8 jl,.str name_3,.sl nM,.sl iy]]:List Tree)[0]?=some _ from rfl),oT,oT,oT,oC (Ih (dr G6 (x:=(.agg [.int .u8 jl,.str name_3,.sl nM,.sl iy])) (y:=(.agg [.int .u8 jl,.str name_3,.sl nM,.sl iy])) ⟨vD,vD⟩) (congrArg Tree.bool (Dl rfl))),oT,oT,oT,oT,oT,oT,oT,oT,oT,oT,oT,oT,oT,oE (show([.agg [.str [97],.int .u8 jl,.str name_3,.sl nM,.sl iy]]:List Tree)[0]?=some _ from rfl),oT,oT,oT,oT,oC (Ih (dr G6 (x:=(.agg [.int .u8 jl,.str name_3,.sl nM,.sl iy])) (y:=(.agg [.int .u8 jl,.str name_3,.sl nM,.sl iy])) ⟨vD,vD⟩) (congrArg Tree.bool (Dl rfl))),oT] (by kernel_rfl)⟩
end
end Go.Proofs.YtijfhoelihclbaaGreatDoor.w.e

namespace Go.Proofs.YtijfhoelihclbaaGreatDoor.w.e
open Go Go.Abs Go.Abs.Ty
set_option linter.unusedVariables false
set_option maxRecDepth 100000
set_option maxHeartbeats 2000000
noncomputable section
open Go.Proofs.YtijfhoelihclbaaGreatDoor.arg
noncomputable abbrev PP:Program:=Tryz.prog
theorem agA {B n:Nat}{cs:List Tree}(h:ia PP B n 22 cs):∃k,cs=[.int .u8 k]:=by
 cases n with
 |zero=>exact h.elim
 |succ n=>
  simp only[ia,PP,Tryz.underlying22] at h
  obtain⟨x,h1,_⟩:=h
  exact⟨x,h1⟩
theorem aka {B n:Nat}{cs:List Tree}(h:ia PP B n 2 cs):∃k,cs=[.int .i64 k]:=by
 cases n with
 |zero=>exact h.elim
 |succ n=>
  simp only[ia,PP,Tryz.underlying2] at h
  obtain⟨x,h1,_⟩:=h
  exact⟨x,h1⟩
theorem Bz {B n:Nat}{cs:List Tree}(h:ia PP B n 9 cs):∃s,cs=[.str s]:=by
 cases n with
 |zero=>exact h.elim
 |succ n=>
  simp only[ia,PP,Tryz.underlying9] at h
  obtain⟨x,h1,_⟩:=h
  exact⟨x,h1⟩
theorem KQ {B n:Nat}{cs:List Tree}(h:ia PP B n 23 cs):∃l,cs=[.sl l]∧l.length≤B∧∀x∈l,∃m,m<n∧∃ds,ia PP B m 9 ds∧x=jh PP 9 ds:=by
 cases n with
 |zero=>exact h.elim
 |succ n=>
  simp only[ia,PP,Tryz.underlying23] at h
  obtain⟨l,h1,h2,h3⟩:=h
  exact⟨l,h1,h2,fun x hx=>by obtain⟨ds,h4,h5⟩:=h3 x hx;exact⟨n,Nat.lt_succ_self n,ds,h4,h5⟩⟩
theorem ZZ {B n:Nat}{cs:List Tree}(h:ia PP B n 24 cs):∃l,cs=[.sl l]∧l.length≤B∧∀x∈l,∃m,m<n∧∃ds,ia PP B m 26 ds∧x=jh PP 26 ds:=by
 cases n with
 |zero=>exact h.elim
 |succ n=>
  simp only[ia,PP,Tryz.underlying24] at h
  obtain⟨l,h1,h2,h3⟩:=h
  exact⟨l,h1,h2,fun x hx=>by obtain⟨ds,h4,h5⟩:=h3 x hx;exact⟨n,Nat.lt_succ_self n,ds,h4,h5⟩⟩
theorem akb (cs:List Tree):jh PP 26 cs=.agg cs:=by simp only[jh,PP,Tryz.underlying26]
theorem mk9 (cs:List Tree):jh PP 9 cs=cs.headD .cg:=by simp only[jh,PP,Tryz.underlying9]
theorem Wf {B n:Nat}{cs:List Tree}(h:ia PP B n 27 cs):∃l,cs=[.sl l]∧l.length≤B∧∀x∈l,∃m,m<n∧∃ds,ia PP B m 49 ds∧x=jh PP 49 ds:=by
 cases n with
 |zero=>exact h.elim
 |succ n=>
  simp only[ia,PP,Tryz.underlying27] at h
  obtain⟨l,h1,h2,h3⟩:=h
  exact⟨l,h1,h2,fun x hx=>by obtain⟨ds,h4,h5⟩:=h3 x hx;exact⟨n,Nat.lt_succ_self n,ds,h4,h5⟩⟩
theorem Wh {B n:Nat}{cs:List Tree}(h:ia PP B n 28 cs):∃l,cs=[.sl l]∧l.length≤B∧∀x∈l,∃m,m<n∧∃ds,ia PP B m 76 ds∧x=jh PP 76 ds:=by
 cases n with
 |zero=>exact h.elim
 |succ n=>
  simp only[ia,PP,Tryz.underlying28] at h
  obtain⟨l,h1,h2,h3⟩:=h
  exact⟨l,h1,h2,fun x hx=>by obtain⟨ds,h4,h5⟩:=h3 x hx;exact⟨n,Nat.lt_succ_self n,ds,h4,h5⟩⟩
theorem akc (cs:List Tree):jh PP 30 cs=.agg cs:=by simp only[jh,PP,Tryz.underlying30]
theorem F2 {B n:Nat}{cs:List Tree}(h:ia PP B n 31 cs):∃l,cs=[.sl l]∧l.length≤B∧∀x∈l,∃m,m<n∧∃ds,ia PP B m 45 ds∧x=jh PP 45 ds:=by
 cases n with
 |zero=>exact h.elim
 |succ n=>
  simp only[ia,PP,Tryz.underlying31] at h
  obtain⟨l,h1,h2,h3⟩:=h
  exact⟨l,h1,h2,fun x hx=>by obtain⟨ds,h4,h5⟩:=h3 x hx;exact⟨n,Nat.lt_succ_self n,ds,h4,h5⟩⟩
theorem akd (cs:List Tree):jh PP 49 cs=.agg cs:=by simp only[jh,PP,Tryz.underlying49]
theorem Z0 {B n:Nat}{cs:List Tree}(h:ia PP B n 35 cs):∃k,cs=[.int .u8 k]:=by
 cases n with
 |zero=>exact h.elim
 |succ n=>
  simp only[ia,PP,Tryz.underlying35] at h
  obtain⟨x,h1,_⟩:=h
  exact⟨x,h1⟩
theorem Wi {B n:Nat}{cs:List Tree}(h:ia PP B n 36 cs):∃l,cs=[.sl l]∧l.length≤B∧∀x∈l,∃m,m<n∧∃ds,ia PP B m 38 ds∧x=jh PP 38 ds:=by
 cases n with
 |zero=>exact h.elim
 |succ n=>
  simp only[ia,PP,Tryz.underlying36] at h
  obtain⟨l,h1,h2,h3⟩:=h
  exact⟨l,h1,h2,fun x hx=>by obtain⟨ds,h4,h5⟩:=h3 x hx;exact⟨n,Nat.lt_succ_self n,ds,h4,h5⟩⟩
theorem ake (cs:List Tree):jh PP 45 cs=.agg cs:=by simp only[jh,PP,Tryz.underlying45]
theorem akf (cs:List Tree):jh PP 38 cs=.agg cs:=by simp only[jh,PP,Tryz.underlying38]
theorem akg (cs:List Tree):jh PP 76 cs=.agg cs:=by simp only[jh,PP,Tryz.underlying76]
theorem akh (cs:List Tree):jh PP 79 cs=.agg cs:=by simp only[jh,PP,Tryz.underlying79]
theorem agB (cs:List Tree):jh PP 168 cs=.agg cs:=by simp only[jh,PP,Tryz.underlying168]
theorem aki (cs:List Tree):jh PP 33 cs=.agg cs:=by simp only[jh,PP,Tryz.underlying33]
theorem akj (cs:List Tree):jh PP 27 cs=cs.headD .cg:=by simp only[jh,PP,Tryz.underlying27]
theorem akk (cs:List Tree):jh PP 28 cs=cs.headD .cg:=by simp only[jh,PP,Tryz.underlying28]
theorem akl (cs:List Tree):jh PP 23 cs=cs.headD .cg:=by simp only[jh,PP,Tryz.underlying23]
theorem akm (cs:List Tree):jh PP 31 cs=cs.headD .cg:=by simp only[jh,PP,Tryz.underlying31]
theorem akn (cs:List Tree):jh PP 36 cs=cs.headD .cg:=by simp only[jh,PP,Tryz.underlying36]
theorem ako (cs:List Tree):jh PP 24 cs=cs.headD .cg:=by simp only[jh,PP,Tryz.underlying24]
theorem adj {B n:Nat}{cs:List Tree}(h:ia PP B n 104 cs):∃l,cs=[.sl l]∧l.length≤B∧∀x∈l,∃m,m<n∧∃ds,ia PP B m 39 ds∧x=jh PP 39 ds:=by
 cases n with
 |zero=>exact h.elim
 |succ n=>
  simp only[ia,PP,Tryz.underlying104] at h
  obtain⟨l,h1,h2,h3⟩:=h
  exact⟨l,h1,h2,fun x hx=>by obtain⟨ds,h4,h5⟩:=h3 x hx;exact⟨n,Nat.lt_succ_self n,ds,h4,h5⟩⟩
theorem agC (cs:List Tree):jh PP 104 cs=cs.headD .cg:=by simp only[jh,PP,Tryz.underlying104]
theorem agD {B n:Nat}{cs:List Tree}(h:ia PP B n 39 cs):∃k,cs=[.int .i64 k]:=by
 cases n with
 |zero=>exact h.elim
 |succ n=>
  simp only[ia,PP,Tryz.underlying39] at h
  obtain⟨x,h1,_⟩:=h
  exact⟨x,h1⟩
theorem akp (cs:List Tree):jh PP 39 cs=cs.headD .cg:=by simp only[jh,PP,Tryz.underlying39]
theorem akq {B n:Nat}{cs:List Tree}(h:ia PP B n 4 cs):∃b,cs=[.bool b]:=by
 cases n with
 |zero=>exact h.elim
 |succ n=>
  simp only[ia,PP,Tryz.underlying4] at h
  exact h
theorem mk4 (cs:List Tree):jh PP 4 cs=cs.headD .cg:=by simp only[jh,PP,Tryz.underlying4]
theorem Nd {B:Nat}(hB:B≤4194304):∀n,(∀cs,ia PP B n 26 cs→T .aW (jh PP 26 cs))∧(∀cs,ia PP B n 9 cs→T .string (jh PP 9 cs))∧(∀cs,ia PP B n 30 cs→T .eE (jh PP 30 cs))∧(∀cs,ia PP B n 49 cs→T .aG (jh PP 49 cs))∧(∀cs,ia PP B n 45 cs→T .bx (jh PP 45 cs))∧(∀cs,ia PP B n 38 cs→T .aB (jh PP 38 cs))∧(∀cs,ia PP B n 76 cs→T .aZ (jh PP 76 cs))∧(∀cs,ia PP B n 79 cs→T .bI (jh PP 79 cs))∧(∀cs,ia PP B n 168 cs→T .nH (jh PP 168 cs))∧(∀cs,ia PP B n 33 cs→T .wD (jh PP 33 cs))∧(∀cs,ia PP B n 27 cs→T .aU (jh PP 27 cs))∧(∀cs,ia PP B n 28 cs→T .bP (jh PP 28 cs))∧(∀cs,ia PP B n 23 cs→T .aY (jh PP 23 cs))∧(∀cs,ia PP B n 31 cs→T .jH (jh PP 31 cs))∧(∀cs,ia PP B n 36 cs→T .yj (jh PP 36 cs))∧(∀cs,ia PP B n 24 cs→T .yl (jh PP 24 cs))∧(∀cs,ia PP B n 104 cs→T .cR (jh PP 104 cs))∧(∀cs,ia PP B n 39 cs→T .dw (jh PP 39 cs))∧(∀cs,ia PP B n 4 cs→T .bool (jh PP 4 cs)):=by
  intro n
  induction n using Nat.strongRecOn with
  |_ n ih=>
  refine⟨fun cs h=> ?_,fun cs h=> ?_,fun cs h=> ?_,fun cs h=> ?_,fun cs h=> ?_,fun cs h=> ?_,fun cs h=> ?_,fun cs h=> ?_,fun cs h=> ?_,fun cs h=> ?_,fun cs h=> ?_,fun cs h=> ?_,fun cs h=> ?_,fun cs h=> ?_,fun cs h=> ?_,fun cs h=> ?_,fun cs h=> ?_,fun cs h=> ?_,fun cs h=> ?_⟩
  · rw[akb]
    rcases n with _|n1
    · exact h.elim
    simp only[ia,PP,Tryz.underlying26,qY] at h
    obtain⟨a8,_,rfl,h2,a9,_,rfl,h3,a10,_,rfl,h4,a11,_,rfl,h5,a12,_,rfl,h6,a13,_,rfl,h7,rfl⟩:=h
    obtain⟨v14,rfl⟩:=agA h2
    obtain⟨v15,rfl⟩:=aka h3
    obtain⟨v16,rfl⟩:=Bz h4
    obtain⟨v17,rfl⟩:=Bz h5
    obtain⟨l18,rfl,q19,x20⟩:=KQ h6
    obtain⟨l21,rfl,q22,x23⟩:=ZZ h7
    exact T.aW v14 v15 v16 v17 l18 l21 (by omega) (fun y hy=>by obtain⟨m,hm,ds,hd,rfl⟩:=x20 y hy;exact(ih m (by omega)).2.1 _ hd) (by omega) (fun y hy=>by obtain⟨m,hm,ds,hd,rfl⟩:=x23 y hy;exact(ih m (by omega)).1 _ hd)
  · rw[mk9]
    obtain⟨v24,rfl⟩:=Bz h
    exact T.string v24
  · rw[akc]
    rcases n with _|n25
    · exact h.elim
    simp only[ia,PP,Tryz.underlying30,qY] at h
    obtain⟨a28,_,rfl,h26,a29,_,rfl,h27,rfl⟩:=h
    obtain⟨l30,rfl,q31,x32⟩:=Wf h26
    obtain⟨l33,rfl,q34,x35⟩:=Wh h27
    exact T.eE l30 l33 (by omega) (fun y hy=>by obtain⟨m,hm,ds,hd,rfl⟩:=x32 y hy;exact(ih m (by omega)).2.2.2.1 _ hd) (by omega) (fun y hy=>by obtain⟨m,hm,ds,hd,rfl⟩:=x35 y hy;exact(ih m (by omega)).2.2.2.2.2.2.1 _ hd)
  · rw[akd]
    rcases n with _|n36
    · exact h.elim
    simp only[ia,PP,Tryz.underlying49,qY] at h
    obtain⟨a40,_,rfl,h37,a41,_,rfl,h38,a42,_,rfl,h39,rfl⟩:=h
    obtain⟨v43,rfl⟩:=Bz h37
    obtain⟨l44,rfl,q45,x46⟩:=KQ h38
    obtain⟨l47,rfl,q48,x49⟩:=F2 h39
    exact T.aG v43 l44 l47 (by omega) (fun y hy=>by obtain⟨m,hm,ds,hd,rfl⟩:=x46 y hy;exact(ih m (by omega)).2.1 _ hd) (by omega) (fun y hy=>by obtain⟨m,hm,ds,hd,rfl⟩:=x49 y hy;exact(ih m (by omega)).2.2.2.2.1 _ hd)
  · rw[ake]
    rcases n with _|n50
    · exact h.elim
    simp only[ia,PP,Tryz.underlying45,qY] at h
    obtain⟨a53,_,rfl,h51,a54,_,rfl,h52,rfl⟩:=h
    obtain⟨v55,rfl⟩:=Bz h51
    rcases n50 with _|n56
    · exact h52.elim
    simp only[ia,PP,Tryz.underlying38,qY] at h52
    obtain⟨a61,_,rfl,h57,a62,_,rfl,h58,a63,_,rfl,h59,a64,_,rfl,h60,rfl⟩:=h52
    obtain⟨v65,rfl⟩:=Z0 h57
    obtain⟨v66,rfl⟩:=Bz h58
    obtain⟨l67,rfl,q68,x69⟩:=Wi h59
    obtain⟨l70,rfl,q71,x72⟩:=F2 h60
    exact T.bx v55 v65 v66 l67 l70 (by omega) (fun y hy=>by obtain⟨m,hm,ds,hd,rfl⟩:=x69 y hy;exact(ih m (by omega)).2.2.2.2.2.1 _ hd) (by omega) (fun y hy=>by obtain⟨m,hm,ds,hd,rfl⟩:=x72 y hy;exact(ih m (by omega)).2.2.2.2.1 _ hd)
  · rw[akf]
    rcases n with _|n73
    · exact h.elim
    simp only[ia,PP,Tryz.underlying38,qY] at h
    obtain⟨a78,_,rfl,h74,a79,_,rfl,h75,a80,_,rfl,h76,a81,_,rfl,h77,rfl⟩:=h
    obtain⟨v82,rfl⟩:=Z0 h74
    obtain⟨v83,rfl⟩:=Bz h75
    obtain⟨l84,rfl,q85,x86⟩:=Wi h76
    obtain⟨l87,rfl,q88,x89⟩:=F2 h77
    exact T.aB v82 v83 l84 l87 (by omega) (fun y hy=>by obtain⟨m,hm,ds,hd,rfl⟩:=x86 y hy;exact(ih m (by omega)).2.2.2.2.2.1 _ hd) (by omega) (fun y hy=>by obtain⟨m,hm,ds,hd,rfl⟩:=x89 y hy;exact(ih m (by omega)).2.2.2.2.1 _ hd)
  · rw[akg]
    rcases n with _|n90
    · exact h.elim
    simp only[ia,PP,Tryz.underlying76,qY] at h
    obtain⟨a95,_,rfl,h91,a96,_,rfl,h92,a97,_,rfl,h93,a98,_,rfl,h94,rfl⟩:=h
    obtain⟨v99,rfl⟩:=Bz h91
    obtain⟨akr,rfl,alz,x102⟩:=KQ h92
    obtain⟨aks,rfl,alA,akt⟩:=KQ h93
    obtain⟨aku,rfl,alB,akv⟩:=F2 h94
    exact T.aZ v99 akr aks aku (by omega) (fun y hy=>by obtain⟨m,hm,ds,hd,rfl⟩:=x102 y hy;exact(ih m (by omega)).2.1 _ hd) (by omega) (fun y hy=>by obtain⟨m,hm,ds,hd,rfl⟩:=akt y hy;exact(ih m (by omega)).2.1 _ hd) (by omega) (fun y hy=>by obtain⟨m,hm,ds,hd,rfl⟩:=akv y hy;exact(ih m (by omega)).2.2.2.2.1 _ hd)
  · rw[akh]
    rcases n with _|n109
    · exact h.elim
    simp only[ia,PP,Tryz.underlying79,qY] at h
    obtain⟨alC,_,rfl,adk,rfl⟩:=h
    rcases n109 with _|n112
    · exact adk.elim
    simp only[ia,PP,Tryz.underlying30,qY] at adk
    obtain⟨alD,_,rfl,akw,a116,_,rfl,akx,rfl⟩:=adk
    obtain⟨aky,rfl,alE,akz⟩:=Wf akw
    obtain⟨akA,rfl,alF,akB⟩:=Wh akx
    exact T.bI aky akA (by omega) (fun y hy=>by obtain⟨m,hm,ds,hd,rfl⟩:=akz y hy;exact(ih m (by omega)).2.2.2.1 _ hd) (by omega) (fun y hy=>by obtain⟨m,hm,ds,hd,rfl⟩:=akB y hy;exact(ih m (by omega)).2.2.2.2.2.2.1 _ hd)
  · rw[agB]
    rcases n with _|n123
    · exact h.elim
    simp only[ia,PP,Tryz.underlying168,qY] at h
    obtain⟨alG,_,rfl,akC,a127,_,rfl,aaV,rfl⟩:=h
    obtain⟨akD,rfl⟩:=Bz akC
    obtain⟨akE,rfl⟩:=Bz aaV
    exact T.nH akD akE
  · rw[aki]
    rcases n with _|n130
    · exact h.elim
    simp only[ia,PP,Tryz.underlying33,qY] at h
    obtain⟨alH,_,rfl,akF,alI,_,rfl,akG,alJ,_,rfl,akH,rfl⟩:=h
    obtain⟨akI,rfl⟩:=Bz akF
    obtain⟨v138,rfl⟩:=Bz akG
    obtain⟨akJ,rfl,alK,akK⟩:=F2 akH
    exact T.wD akI v138 akJ (by omega) (fun y hy=>by obtain⟨m,hm,ds,hd,rfl⟩:=akK y hy;exact(ih m (by omega)).2.2.2.2.1 _ hd)
  · rw[akj]
    obtain⟨akL,rfl,alL,akM⟩:=Wf h
    exact T.aU akL (by omega) (fun y hy=>by obtain⟨m,hm,ds,hd,rfl⟩:=akM y hy;exact(ih m (by omega)).2.2.2.1 _ hd)
  · rw[akk]
    obtain⟨akN,rfl,alM,akO⟩:=Wh h
    exact T.bP akN (by omega) (fun y hy=>by obtain⟨m,hm,ds,hd,rfl⟩:=akO y hy;exact(ih m (by omega)).2.2.2.2.2.2.1 _ hd)
  · rw[akl]
    obtain⟨akP,rfl,alN,x150⟩:=KQ h
    exact T.aY akP (by omega) (fun y hy=>by obtain⟨m,hm,ds,hd,rfl⟩:=x150 y hy;exact(ih m (by omega)).2.1 _ hd)
  · rw[akm]
    obtain⟨akQ,rfl,alO,x153⟩:=F2 h
    exact T.jH akQ (by omega) (fun y hy=>by obtain⟨m,hm,ds,hd,rfl⟩:=x153 y hy;exact(ih m (by omega)).2.2.2.2.1 _ hd)
  · rw[akn]
    obtain⟨akR,rfl,alP,akS⟩:=Wi h
    exact T.yj akR (by omega) (fun y hy=>by obtain⟨m,hm,ds,hd,rfl⟩:=akS y hy;exact(ih m (by omega)).2.2.2.2.2.1 _ hd)
  · rw[ako]
    obtain⟨akT,rfl,alQ,x159⟩:=ZZ h
    exact T.yl akT (by omega) (fun y hy=>by obtain⟨m,hm,ds,hd,rfl⟩:=x159 y hy;exact(ih m (by omega)).1 _ hd)
  · rw[agC]
    obtain⟨akU,rfl,alR,akV⟩:=adj h
    exact T.cR akU (by omega) (fun y hy=>by obtain⟨m,hm,ds,hd,rfl⟩:=akV y hy;exact(ih m (by omega)).2.2.2.2.2.2.2.2.2.2.2.2.2.2.2.2.2.1 _ hd)
  · rw[akp]
    obtain⟨akW,rfl⟩:=agD h
    exact T.dw akW
  · rw[mk4]
    obtain⟨v164,rfl⟩:=akq h
    exact T.bool v164
theorem KR {B:Nat}(hB:B≤4194304){x:Tree}(h:ShT PP B 26 x):T .aW x:=by
 obtain⟨n,ds,_,h1,rfl⟩:=h
 exact(Nd hB n).1 ds h1
theorem EK {B:Nat}(hB:B≤4194304){x:Tree}(h:ShT PP B 30 x):T .eE x:=by
 obtain⟨n,ds,_,h1,rfl⟩:=h
 exact(Nd hB n).2.2.1 ds h1
theorem Nf {B:Nat}(hB:B≤4194304){x:Tree}(h:ShT PP B 33 x):T .wD x:=by
 obtain⟨n,ds,_,h1,rfl⟩:=h
 exact(Nd hB n).2.2.2.2.2.2.2.2.2.1 ds h1
theorem YC (m:Int)(Ts:List Tree)(h:Np PP 1048576 [26,30,33] Ts):ay (cf m) 3 (Ts.map .t) [] (.ret (.t (.bool true)) [] []):=by
 match Ts,h with
 | [e,x,v],⟨h1,h2,h3,_⟩=>
  have he:=KR (by decide) h1
  have hx:=EK (by decide) h2
  have hv:=Nf (by decide) h3
  obtain⟨_,_,⟨_,hb⟩,_,_⟩:=h1
  obtain⟨op,n,s1,t1,ns,ks,rfl,a1,a2,a3,a4⟩:=T.cG he
  obtain⟨ts,ac,rfl,b1,b2,b3,b4⟩:=T.vK hx
  obtain⟨p,r,c,rfl,c1,c2⟩:=T.LY hv
  exact Wd m ⟨ts,ac,p,r,c⟩ ⟨b1,b2,b3,b4,c1,c2⟩ op n s1 t1 ns ks a1 a2 a3 a4 hb
end
end Go.Proofs.YtijfhoelihclbaaGreatDoor.w.e
