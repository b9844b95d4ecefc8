/- The operations are right, one and all. -/
import Derived.Test.YtacmmaaabfhhoaaGreatDoorB
import Derived.Tactics
import Derived.Orders
set_option linter.unusedVariables false
set_option linter.unusedSimpArgs false
namespace Go.Abs
open Go
section
variable {C:cE}{f:FuncId}{nm:Nm}{H:Heap}{slots:List TV}{a:Act}{w:World}{G:Gh}{v:TV}
theorem wF {o:Oper}{t:TypeId}{m k x:TV}{xm xk xx:Operand}{u:List (Nm×aO)}(hw:WF G w)(hH:HR G w H)(ho:o.op=.mapUpdate t xm xk xx\/o.op=.insert t xm xk xx)(hm:VR G m (a.eval xm))(hk:VR G k (a.eval xk))(hx:VR G x (a.eval xx))
 (h:ju C.P H t m k x=some u):cF C.P nm o a w G bR u:=by
 unfold ju at h
 split at h
 ·rename_i ti mm ht;split at h
  ·rename_i kt et es c hd Pt;cases Ma:bh C.P kt<;>simp only[Ma,reduceCtorEq] at h;rename_i tk;split at h
   ·rename_i YR;obtain⟨qv,har,bF,hh,hmr,hF⟩:=hH mm _ Pt;have hmv:a.eval xm=.map (some (G.mu mm)):=by generalize a.eval xm=z at hm;cases hm;rfl
    have fin:∀r,l7 C.P kt tk.desc k es 0=some r->u=[(mm,.map (Vl k x es c r) (YS c r))]->cF C.P nm o a w G bR u:=by
     intro r hf hu;obtain⟨HW,c',hrun,afr,hc⟩:=DC hw hH ht hd Pt Ma YR hk hx hf;have hor:OR G {w with heap:=w.heap.setIfInBounds (G.mu mm) (.map HW c')} mm (.map (Vl k x es c r) (YS c r)):=by
      rw[← hc];exact Fx hw qv har hF afr
     refine cF.Bb (w':={w with heap:=w.heap.setIfInBounds (G.mu mm) (.map HW c')}) (G':=G) ?_ ((x9 hw qv (Gh.jt har) hh hF _).mono (λx _ e=>by simp[hu,e]) (λ_ e=>e.elim)) ?_
     ·rcases ho with ho|ho<;>simp[execOp,ho,hmv,hrun]
     ·intro k' ob hmem;rw[hu] at hmem;simp at hmem;obtain⟨rfl,rfl⟩:=hmem;exact⟨qv,hor⟩
    split at h
    ·rename_i i v0 b hf;simp at h;exact fin _ hf h.symm
    ·rename_i hf;simp at h;exact fin _ hf h.symm
    ·simp at h
   ·simp at h
  ·simp at h
 ·simp at h
theorem Fy {o:Oper}{t:TypeId}{m k:TV}{xm xk:Operand}{u:List (Nm×aO)}(hw:WF G w)(hH:HR G w H)(ho:o.op=.mapEntry t xm xk)(hm:VR G m (a.eval xm))(hk:VR G k (a.eval xk))
 (h:lS C.P H t m k=some (v,u)):cF C.P nm o a w G v u:=by
 unfold lS at h
 split at h
 ·rename_i ti mm ht;obtain⟨_,_,hu,_⟩:=bD ht;split at h
  ·rename_i kt et es c hd Pt;rw[hd] at hu;have j3:=aH hu w;split at h
   ·rename_i tk te Ma hte;split at h
    ·rename_i YR;obtain⟨qv,har,bF,hh,hmr,hF⟩:=hH mm _ Pt;have hmv:a.eval xm=.map (some (G.mu mm)):=by generalize a.eval xm=z at hm;cases hm;rfl
     obtain⟨kv,U1,XN⟩:=zC YR w;have hkv:=mh U1 hk;split at h
     ·rename_i i v0 b hf;simp at h;obtain⟨rfl,rfl⟩:=h;obtain⟨r',Ed,hr2⟩:=rC Ma U1 hmr hf w;cases r' with
      |none=>exact absurd hr2 id
      |some y'=>
      obtain⟨i',x0⟩:=y';obtain⟨rfl,p,e,k',hip,he,wD,rfl,hve,hb,hsb⟩:=hr2;have YT:i=p:=by omega
      subst YT;have hbb:e.born=b:=hb;have he':bF[i]?=some e:=by simpa using he
      have hkey:(((bF[i]?).map (·.key)).getD kv)=e.key:=by rw[he'];rfl
      have ajw:(((bF[i]?).map (·.born)).getD 0)=b:=by rw[he'];exact hb
      have Qh:(Instr.keyThatStays e.key kv).run C.P w=.ok kv w:=by simp[Instr.keyThatStays,hsb]
      refine cF.fF (w':={w with heap:=w.heap.setIfInBounds (G.mu mm) (.map (bF.modify i λe=>{e with key:=kv}) c)}) (G':=G) (x:=.tuple #[e.val,.int .i64 (b:Int)]) ?_ ((x9 hw qv (Gh.jt har) hh hF _).mono (λx _ e=>by simp[e]) (λ_ e=>e.elim)) ?_ (mg (cr.cons hve (cr.one (.t _ _ (.int _ _)))))
      ·simp only[execOp,ho,hmv,hkv,Instr.mapEntry,Sem.run_bind,j3,Result.andThen_ok,ki hh,XN,Ed];rw[hkey,Qh];simp[p7 hh,goInt];rw[he'];simp[hbb]
      ·intro k'' ob hmem;simp at hmem;obtain⟨rfl,rfl⟩:=hmem;refine⟨qv,Fx hw qv har hF ?_⟩;rw[wX _ he'];exact hmr.set wD he (by rw[← hkv];exact hk) hve
     ·rename_i z hf hz;simp at h;obtain⟨rfl,rfl⟩:=h;obtain⟨r',Ed,hr2⟩:=rC Ma U1 hmr hf w;cases r' with
      |some _=>exact absurd hr2 id
      |none=>
      obtain⟨zv,hz1,HF⟩:=fu hte hz w G;refine cF.fF (w':={w with heap:=w.heap.setIfInBounds (G.mu mm) (.map (bF.push {key:=kv,val:=zv,born:=c}) (c+1))}) (G':=G) (x:=.tuple #[zv,.int .i64 (c:Int)]) ?_ ((x9 hw qv (Gh.jt har) hh hF _).mono (λx _ e=>by simp[e]) (λ_ e=>e.elim)) ?_ (mg (cr.cons HF (cr.one (.t _ _ (.int _ _)))))
      ·simp only[execOp,ho,hmv,hkv,Instr.mapEntry,Sem.run_bind,j3,Result.andThen_ok,ki hh,XN,Ed];simp[hz1,p7 hh,goInt]
      ·intro k'' ob hmem;simp at hmem;obtain⟨rfl,rfl⟩:=hmem;refine⟨qv,Fx hw qv har hF ?_⟩;simpa using hmr.push (by rw[← hkv];exact hk) HF
     ·simp at h
    ·simp at h
   ·simp at h
  ·simp at h
 ·simp at h
theorem Fz:∀{es:List (TV×TV×Nat)} {n:Int} {i j:Nat},vv es n i=some j->∃p,j=i+p/\(∃k x b,es[p]?=some (k,x,b)/\(b:Int)=n)/\∀q,q<p->∀k x b,es[q]?=some (k,x,b)->(b:Int)≠n:=by
 intro es;induction es with
 |nil=>intro n i j h;simp[vv] at h
 | cons e r ih=>
   intro n i j h
   obtain⟨k,x,b⟩:=e
   simp only[vv] at h
   split at h
   · rename_i hb
     simp at h
     exact⟨0,by omega,⟨k,x,b,rfl,hb⟩,λq hq=>by omega⟩
   · rename_i hb
     obtain⟨p,h1,h2,h3⟩:=ih h
     refine⟨p+1,by omega,by simpa using h2,λq hq k' x' b' hqe=> ?_⟩
     cases q with
     |zero=>simp at hqe;obtain⟨_,_,rfl⟩:=hqe;exact hb
     |succ q=>exact h3 q (by omega) k' x' b' (by simpa using hqe)
theorem MR.get:∀{es:List (TV×TV×Nat)} {bF:List MapEntry} {p:Nat} {k x:TV} {b:Nat},MR G es bF->es[p]?=some (k,x,b)->∃e,bF[p]?=some e/\VR G k e.key/\VR G x e.val/\e.born=b:=by
 intro es;induction es with
 |nil=>intro bF p k x b h h1;simp at h1
 | cons q r ih=>
  intro bF p k x b h h1
  obtain⟨k0,v0,b0⟩:=q
  cases bF with
  |nil=>simp[MR] at h
  |cons e0 es'=>
   simp only[MR] at h
   cases p with
   |zero=>simp at h1;obtain⟨rfl,rfl,rfl⟩:=h1;exact⟨e0,rfl,h.1,h.2.1,h.2.2.1⟩
   |succ p=>simpa using ih h.2.2.2 (by simpa using h1)
theorem BX {o:Oper}{t:TypeId}{m s x:TV}{xm xs xx:Operand}{u:List (Nm×aO)}(hw:WF G w)(hH:HR G w H)(ho:o.op=.entryStore t xm xs xx)(hm:VR G m (a.eval xm))(hs:VR G s (a.eval xs))(hx:VR G x (a.eval xx))
 (h:jo H m s x=some u):cF C.P nm o a w G bR u:=by
 unfold jo at h
 split at h
 ·rename_i mm k n;split at h
  ·rename_i es c Pt;split at h
   ·rename_i i hst;split at h
    ·rename_i k0 x0 b wD;simp at h;subst h;obtain⟨qv,har,bF,hh,hmr,hF⟩:=hH mm _ Pt;have hmv:a.eval xm=.map (some (G.mu mm)):=by generalize a.eval xm=z at hm;cases hm;rfl
     have hsv:=hs.int;obtain⟨p,hp,⟨k1,x1,b1,hp1,hp2⟩,Hr⟩:=Fz hst;have hpi:p=i:=by omega
     subst hpi;rw[wD] at hp1;simp at hp1;obtain⟨rfl,rfl,rfl⟩:=hp1;obtain⟨e,he,hke,hve,hbe⟩:=hmr.get wD;have he':bF[p]?=some e:=by simpa using he
     have hfind:bF.findIdx? (λe=>(e.born:Int)==n)=some p:=by
      rw[Array.findIdx?_eq_some_iff_getElem];have hpl:p<bF.size:=(Array.getElem?_eq_some_iff.1 he').1;have hpe:bF[p]=e:=(Array.getElem?_eq_some_iff.1 he').2;refine⟨hpl,by simp[hpe,hbe,hp2],λq hq=> ?_⟩;have hql:q<es.length:=by have:=hmr.length;simp at this;omega
      obtain⟨eq,heq,_,_,hbq⟩:=hmr.get (p:=q) (k:=es[q].1) (x:=es[q].2.1) (b:=es[q].2.2) (List.getElem?_eq_getElem hql);have:=Hr q hq es[q].1 es[q].2.1 es[q].2.2 (List.getElem?_eq_getElem hql);have heq':bF[q]?=some eq:=by simpa using heq
      have hqe:bF[q]'(by omega)=eq:=(Array.getElem?_eq_some_iff.1 heq').2;simp only[hqe,hbq,Bool.not_eq_true,beq_eq_false_iff_ne,ne_eq];exact this
     refine cF.Bb (w':={w with heap:=w.heap.setIfInBounds (G.mu mm) (.map (bF.modify p λe=>{e with val:=a.eval xx}) c)}) (G':=G) ?_ ((x9 hw qv (Gh.jt har) hh hF _).mono (λx _ e=>by simp[e]) (λ_ e=>e.elim)) ?_
     ·simp only[execOp,ho,hmv,hsv,Instr.entryStore];simp[ki hh,asInt,asIntOf,hfind,p7 hh]
     ·intro k' ob hmem;simp at hmem;obtain⟨rfl,rfl⟩:=hmem;refine⟨qv,Fx hw qv har hF ?_⟩;rw[wX _ he'];have:=hmr.set (k:=k0) (x:=x) (kv:=e.key) (xv:=a.eval xx) wD he hke hx;exact this
    ·simp at h
   ·simp at h
  ·simp at h
 ·simp at h
theorem sK {x:Option (List (Nm×aO))}{u:List (Nm×aO)}(h:wC x=some (v,u)):v=bR/\x=some u:=by
 cases x<;>simp[wC] at h;exact⟨h.1.symm,by rw[h.2]⟩
theorem rD (hs:SR G slots a)(hg:iA C G){x:Option Operand}{p:Option TV}(h:um C slots x=some p):UZ G p (x.map a.eval):=by
 cases x with
 |none=>simp[um] at h;subst h;trivial
 |some x=>
  simp only[um] at h
  cases hr:bU C slots x<;>simp[hr] at h
  subst h
  exact bM hs hg hr
theorem HX {o:Oper}{b:Builtin}{args:Array Operand}{ats:Array TypeId}{vs:List TV}{u:List (Nm×aO)}(hw:WF G w)(hH:HR G w H)(hn:¬G.dom nm)(ho:o.op=.call {callee:=.builtin b,args,argTypes:=ats})
 (hv:cr G vs (args.map a.eval).toList)(h:kV C nm H b ats.toList vs=some (v,u)):cF C.P nm o a w G v u:=by
 unfold kV at h
 split at h
 ·rename_i t x hat;have Ft:ats= #[t]:=by rw[← Array.toArray_toList (xs:=ats),hat]
  obtain⟨xv,rest,Pq,hx,mW⟩:=hv.gQ;have hr2:rest=[]:=by have:=mW.1;simpa using this
  subst hr2;have Pr:args.map a.eval= #[xv]:=by rw[← Array.toArray_toList (xs:=args.map a.eval),Pq]
  cases ht:bh C.P t<;>simp only[ht,reduceCtorEq] at h;rename_i ti;obtain⟨_,_,hu,_⟩:=bD ht;have j3:=aH hu w;have fin:∀n:Nat,(Builtin.len_ #[t] o.type #[xv]).run C.P w=.ok (.int .i64 (n:Int)) w->v=.t (.int .i64 (n:Int))->u=[]->cF C.P nm o a w G v u:=by
   intro n hr uy Du;subst uy;subst Du;exact cF.quiet hw (pJ ho (λcs=>by rw[Ft,Pr];simp[builtin,hr])) (.t _ _ (.int _ _))
  split at h
  ·rename_i n e hd;simp at h;refine fin n ?_ h.1.symm h.2;rw[hd] at j3;simp[Builtin.len_,j3,goInt]
  ·rename_i hd;rw[hd] at j3;split at h
   ·rename_i s;simp at h;have:=hx.str;subst this;refine fin s.length ?_ h.1.symm h.2;have hsz:(ByteArray.mk s.toArray).size=s.length:=by show s.toArray.size=_;simp
    simp[Builtin.len_,j3,goInt,hsz]
   ·simp at h
  ·rename_i e hd;rw[hd] at j3;split at h
   ·simp at h
   ·simp at h
   ·simp at h
   ·rename_i hn1 hn2 hn3;cases hl:wQ H x<;>simp[hl] at h;rename_i n;have wW:∃b c,xv=.slice b n c:=by
     rcases Vg hx hl with ⟨s,rfl,_⟩|h1|rfl|⟨k,rfl⟩|⟨k,o',l,rfl,rfl⟩
     ·exact absurd rfl (hn1 _)
     ·exact h1
     ·exact absurd rfl hn2
     ·exact absurd rfl (hn3 _)
     ·cases hx with|ref _ _ _ _ _ _ _ _ _ _ ho' _=>exact ho'
    obtain⟨b',c',rfl⟩:=wW;refine fin n ?_ h.1.symm h.2;simp[Builtin.len_,j3,goInt]
  ·rename_i k e hd;rw[hd] at j3;split at h
   ·simp at h;have:xv=.map none:=by cases hx with|t _ _ hx=>cases hx;rfl
    subst this;refine fin 0 ?_ h.1.symm h.2;simp[Builtin.len_,j3,goInt]
   ·rename_i m;cases hl:wQ H (.map m)<;>simp[hl] at h;rename_i n;simp only[wQ] at hl;split at hl<;>simp at hl;rename_i es c hm;subst hl;obtain⟨qv,har,bF,hh,hmr,hF⟩:=hH m _ hm;have:xv=.map (some (G.mu m)):=by cases hx;rfl
    subst this;refine fin es.length ?_ h.1.symm h.2;have:=hmr.length;simp at this;simp[Builtin.len_,j3,goInt,ki hh,this]
   ·simp at h
  ·simp at h
 ·rename_i s t x y hat;exact JZ hw hH hn ho hat hv h
 ·rename_i s t x y hat;exact Qc hw hH ho hat hv h
 ·rename_i t x hat;exact Nw hw hH ho hat hv h
 ·obtain⟨h1,rfl⟩:=ic h;obtain⟨r,hr,hvr⟩:=Al (C:=C) (ats:=ats) (t:=o.type) hv h1 w;simp only[Bool.false_eq_true,if_false] at hr;exact cF.quiet hw (pJ ho (λcs=>by simp[builtin,hr])) hvr
 ·obtain⟨h1,rfl⟩:=ic h;obtain⟨r,hr,hvr⟩:=Al (C:=C) (ats:=ats) (t:=o.type) hv h1 w;simp only[if_true] at hr;exact cF.quiet hw (pJ ho (λcs=>by simp[builtin,hr])) hvr
 ·rename_i t hat;have Ft:ats= #[t]:=by rw[← Array.toArray_toList (xs:=ats),hat]
  obtain⟨xv,rest,Pq,hx,mW⟩:=hv.gQ;have hr2:rest=[]:=by have:=mW.1;simpa using this
  subst hr2;have Pr:args.map a.eval= #[xv]:=by rw[← Array.toArray_toList (xs:=args.map a.eval),Pq]
  cases hx;split at h
  ·rename_i ti ht;obtain⟨_,_,hu,_⟩:=bD ht;have j3:=aH hu w;split at h
   ·rename_i e hd;rw[hd] at j3;simp at h;obtain⟨rfl,rfl⟩:=h;have hr:(Builtin.cap_ #[t] o.type #[.slice none 0 0]).run C.P w=.ok (.int .i64 0) w:=by
     simp[Builtin.cap_,j3,goInt]
    exact cF.quiet hw (pJ ho (λcs=>by rw[Ft,Pr];simp[builtin,hr])) (.t _ _ (.int _ _))
   ·simp at h
  ·simp at h
 ·simp at h
end
end Go.Abs
namespace Go.Abs
open Go
section
variable {C:cE}{f:FuncId}{nm:Nm}{H:Heap}{slots:List TV}{a:Act}{w:World}{G:Gh}{v:TV}{u:List (Nm×aO)}
theorem FA {x:Value}{o:Oper}{px:Operand}(ho:o.op=.nilCheck px)(hx:a.eval px=x)(hs:sure x):(execOp a.eval o).run C.P w=.ok (.value x) w:=by
 subst hx;simp only[execOp,ho];revert hs;generalize a.eval px=x;intro hs;unfold sure at hs;split at hs
 ·rfl
 ·rfl
 ·exact hs.elim
theorem Vm {fn:Fn}{fs cs:List TV}{vs ws:List Value}(h1:cr G fs vs)(h2:cr G cs ws):VR G (YH fn fs cs) (.func fn vs.toArray ws.toArray):=by
 unfold YH;split
 ·rename_i h;simp at h;obtain⟨rfl,rfl⟩:=h;have e1:=h1.1;have e2:=h2.1;simp at e1 e2;subst e1;subst e2;exact .t _ _ (.fn fn)
 ·exact .fn fn fs cs vs ws h1.1 h1.2 h2.1 h2.2
theorem ND {o:Oper}(hw:WF G w)(hH:HR G w H)(hn:¬G.dom nm)(hs:SR G slots a)(hg:iA C G)(h:evalOp C f nm H slots o=some (v,u)):cF C.P nm o a w G v u:=by
 unfold evalOp at h;simp only at h;split at h
 ·rename_i x ho;obtain⟨h1,rfl⟩:=ic h;exact cF.quiet hw (by simp[execOp,ho]) (bM hs hg h1)
 ·rename_i x ho;obtain⟨h1,rfl⟩:=ic h;exact cF.quiet hw (by simp[execOp,ho]) (bM hs hg h1)
 ·rename_i c x y ho;split at h<;>try (simp at h;done)
  rename_i b p q hc hx hy;simp at h;obtain⟨rfl,rfl⟩:=h;have hcv:=(bM hs hg hc).bool;refine cF.quiet hw (x:=if b then a.eval x else a.eval y) (by simp[execOp,ho,asBool,hcv]) ?_;cases b
  ·exact bM hs hg hy
  ·exact bM hs hg hx
 ·rename_i elem ho;split at h<;>try (simp at h;done)
  rename_i ti ht;split at h<;>try (simp at h;done)
  rename_i z hz;simp at h;obtain⟨_,rfl,rfl⟩:=h;exact P3 hw hn ho ht hz
 ·rename_i elem x ho;split at h<;>try (simp at h;done)
  rename_i z hz;simp at h;obtain⟨hlf,rfl,rfl⟩:=h;exact YJ hw hn ho (bM hs hg hz) (by simpa using hlf)
 ·rename_i t parts ho;split at h<;>try (simp at h;done)
  rename_i ps hp;obtain⟨h1,rfl⟩:=ic h;have hpr:PR G ps (parts.map λ(p:Nat×Operand)=>(p.1,a.eval p.2)).toList:=by
   rw[Array.toList_map];exact HK hs hg hp
  obtain⟨r,h2,h3⟩:=JW hpr h1 w;exact cF.quiet hw (by simp[execOp,ho,h2]) h3
 ·rename_i t len parts ho;split at h<;>try (simp at h;done)
  rename_i ps hp;have hpr:PR G ps (parts.map λ(p:Nat×Operand)=>(p.1,a.eval p.2)).toList:=by
   rw[Array.toList_map];exact HK hs hg hp
  exact BR hw hn ho hpr h
 ·rename_i t x ho;split at h<;>try (simp at h;done)
  rename_i p hp;obtain⟨h1,rfl⟩:=ic h;obtain⟨r,h2,h3⟩:=Np hH hw (bM hs hg hp) h1;exact cF.quiet hw (by simp[execOp,ho,h2]) h3
 ·rename_i t x y ho;split at h<;>try (simp at h;done)
  rename_i p q hp hq;obtain⟨rfl,h1⟩:=sK h;exact Ns hw hH ho (bM hs hg hp) (bM hs hg hq) h1
 ·rename_i x ho;split at h<;>try (simp at h;done)
  rename_i p hp;simp at h;obtain⟨h1,rfl,rfl⟩:=h;have hv:=bM hs hg hp;exact cF.quiet hw (FA ho rfl (HG hv h1)) hv
 ·rename_i op t x y yt ho;split at h<;>try (simp at h;done)
  rename_i p q hp hq;obtain⟨h1,rfl⟩:=ic h;obtain⟨r,h2,h3⟩:=PW (bM hs hg hp) (bM hs hg hq) h1 w;exact cF.quiet hw (by simp only[execOp,ho];simp only[Sem.run_bind] at h2 ⊢;rw[h2];rfl) h3
 ·rename_i op t x ho;split at h<;>try (simp at h;done)
  rename_i p hp;obtain⟨h1,rfl⟩:=ic h;obtain⟨r,h2,h3⟩:=Vf (bM hs hg hp) h1 w;exact cF.quiet hw (by simp[execOp,ho,h2]) h3
 ·rename_i s d x ho;split at h<;>try (simp at h;done)
  rename_i p hp;exact HU hw hH hn ho (bM hs hg hp) h
 ·rename_i t x ho;split at h<;>try (simp at h;done)
  rename_i p ti hp ht;obtain⟨_,_,hu,_⟩:=bD ht;have j3:=aH hu w;split at h
  ·simp at h
  ·rename_i hni;simp at h;obtain⟨rfl,rfl⟩:=h;have hv:=bM hs hg hp;refine cF.quiet hw (x:=.iface t (a.eval x)) ?_ ?_
   ·cases hdd:ti.desc<;>first
     |(exact absurd hdd (hni _))
     |(rw[hdd] at j3;simp[execOp,ho,Instr.makeInterface,j3])
   ·split
    ·exact .t _ _ (.iface _ _ _ hv.tree)
    ·exact .iface _ _ _ hv
 ·rename_i fn first captured ho
  split at h<;>try (simp at h;done)
  rename_i fs cs hf hc;simp at h;obtain⟨rfl,rfl⟩:=h;have h1:=vA hs hg hf;have h2:=vA hs hg hc;refine cF.quiet hw (x:=.func fn (first.toList.map a.eval).toArray (captured.toList.map a.eval).toArray) ?_ (Vm h1 h2);have e1:(first.toList.map a.eval).toArray=first.map a.eval:=by apply Array.ext';simp
  have e2:(captured.toList.map a.eval).toArray=captured.map a.eval:=by apply Array.ext';simp
  rw[e1,e2];simp[execOp,ho,Instr.makeFunc]
 ·rename_i t r ho;split at h<;>try (simp at h;done)
  rename_i ti hr ht;simp at h;obtain⟨rfl,rfl⟩:=h;have hrn:r=none:=by
   cases r with
   |none=>rfl
   |some x=>simp only[um] at hr;cases h5:bU C slots x<;>simp[h5] at hr
  subst hrn;refine cF.fF (w':=World.cL w (.map #[] 0)) (G':=G.add nm w.heap.size none) (x:=.map (some w.heap.size)) ?_ (mD hw hn _ _ _) ?_ ?_
  ·simp[execOp,ho,Instr.makeMap,newObj,Sem.run,World.cL]
  ·intro k ob hm;simp at hm;obtain⟨rfl,rfl⟩:=hm;refine⟨.inl rfl,by simp[Gh.add], #[], ?_,trivial, ?_⟩
   ·simp[Gh.add,kg]
   ·intro o;simpa [Gh.add] using hw.HI o
  ·have:=VR.map (G:=G.add nm w.heap.size none) nm (.inl rfl) (by simp[Gh.add]);simpa [Gh.add] using this
 ·rename_i t l c ho;split at h<;>try (simp at h;done)
  rename_i pl pc hl hc;exact DB hw hn ho (bM hs hg hl) (bM hs hg hc) h
 ·rename_i t x lo hi mx ho;split at h<;>try (simp at h;done)
  rename_i p l hh m hp hl hhi hm;split at h
  ·rename_i r hcut;cases h;unfold wB at hcut;split at hcut
   ·exact Nt hw hH hn ho (bM hs hg hp) (rD hs hg hl) (rD hs hg hhi) (rD hs hg hm) hcut
   ·cases hcut
  split at h<;>try (simp at h;done)
  rename_i r ks DA;simp at h;obtain⟨rfl,rfl⟩:=h;exact Nu hw hH ho (bM hs hg hp) (rD hs hg hl) (rD hs hg hhi) (rD hs hg hm) DA
 ·rename_i s x i ho;split at h<;>try (simp at h;done)
  rename_i p ti hp ht;split at h<;>try (simp at h;done)
  rename_i fs hd;split at h<;>try (simp at h;done)
  rename_i fd hi;split at h<;>try (simp at h;done)
  rename_i tf PZ;split at h<;>try (simp at h;done)
  rename_i hsz;obtain⟨h1,rfl⟩:=ic h;obtain⟨r,h2,h3⟩:=Dz hH (bM hs hg hp) ht hd hi PZ hsz h1;exact cF.quiet hw (by simp[execOp,ho,h2]) h3
 ·rename_i t x i ho;split at h<;>try (simp at h;done)
  rename_i p ti hp ht;split at h<;>try (simp at h;done)
  rename_i fs hd;split at h<;>try (simp at h;done)
  rename_i fd hi;split at h<;>try (simp at h;done)
  rename_i tf PZ;split at h<;>try (simp at h;done)
  rename_i YI;obtain⟨h1,rfl⟩:=ic h;obtain⟨r,h2,h3⟩:=Nq (bM hs hg hp) ht hd hi PZ YI h1 w;exact cF.quiet hw (by simp[execOp,ho,h2]) h3
 ·rename_i t x i ho;split at h<;>try (simp at h;done)
  rename_i p q hp hq;obtain⟨h1,rfl⟩:=ic h;obtain⟨r,h2,h3⟩:=BT hH (bM hs hg hp) (bM hs hg hq) h1;exact cF.quiet hw (by simp[execOp,ho,h2]) h3
 ·rename_i t x i ho;split at h<;>try (simp at h;done)
  rename_i p q hp hq;obtain⟨h1,rfl⟩:=ic h;obtain⟨r,h2,h3⟩:=Nr (bM hs hg hp) (bM hs hg hq) h1 w;exact cF.quiet hw (by simp[execOp,ho,h2]) h3
 ·rename_i t x k ok ho;split at h<;>try (simp at h;done)
  rename_i p q hp hq;obtain⟨h1,rfl⟩:=ic h;obtain⟨r,h2,h3⟩:=HV hH (bM hs hg hp) (bM hs hg hq) h1;exact cF.quiet hw (by simp[execOp,ho,h2]) h3
 ·rename_i t m k x ho;split at h<;>try (simp at h;done)
  rename_i p q r hp hq hr;obtain⟨rfl,h1⟩:=sK h;exact wF hw hH (.inl ho) (bM hs hg hp) (bM hs hg hq) (bM hs hg hr) h1
 ·rename_i t m k x ho;split at h<;>try (simp at h;done)
  rename_i p q r hp hq hr;obtain⟨rfl,h1⟩:=sK h;exact wF hw hH (.inr ho) (bM hs hg hp) (bM hs hg hq) (bM hs hg hr) h1
 ·rename_i t m k ho;split at h<;>try (simp at h;done)
  rename_i p q hp hq;exact Fy hw hH ho (bM hs hg hp) (bM hs hg hq) h
 ·rename_i t m s x ho;split at h<;>try (simp at h;done)
  rename_i p q r hp hq hr;obtain⟨rfl,h1⟩:=sK h;exact BX hw hH ho (bM hs hg hp) (bM hs hg hq) (bM hs hg hr) h1
 ·rename_i x xt t ok ho;split at h<;>try (simp at h;done)
  rename_i p hp;obtain⟨h1,rfl⟩:=ic h;obtain⟨r,h2,h3⟩:=JV (xt:=xt) (bM hs hg hp) h1 w;exact cF.quiet hw (by simp[execOp,ho,h2]) h3
 ·rename_i x i ho;split at h<;>try (simp at h;done)
  rename_i p hp;obtain⟨h1,rfl⟩:=ic h;obtain⟨r,h2,h3⟩:=HE (C:=C) (bM hs hg hp) h1 w;exact cF.quiet hw (by simp[execOp,ho,h2]) h3
 ·rename_i b args ats ho;split at h<;>try (simp at h;done)
  rename_i vs hv;have h1:=vA hs hg hv;exact HX hw hH hn ho (by rw[Array.toList_map];exact h1) h
 ·simp at h
end
end Go.Abs
namespace Go.Abs
open Go
structure Seen (G G':Gh)(σ:Nm->Option Nm):Prop where
 F:∀b o v,G.F b o=some v->G'.F b o=some v
 at_:∀k k',G.dom k->σ k=some k'->G'.dom k'/\G'.mu k'=G.mu k/\G'.arr k'=G.arr k
mutual
theorem VR.rn {G G':Gh}{σ:Nm->Option Nm}(h:Seen G G' σ):∀{x y:TV} {v:Value},VR G x v->x.rn σ=some y->VR G' y v
 |.t x,y,v,hv,hr=>by simp[TV.rn] at hr;subst hr;exact .t _ _ (hv.tree.mono h.F)
 |.any,y,v,hv,hr=>by simp[TV.rn] at hr;subst hr;exact .any _
 |.bJ,y,v,hv,hr=>by simp[TV.rn] at hr;subst hr;cases hv;exact .bJ
 |.j4 es,y,v,hv,hr=>by simp[TV.rn] at hr;subst hr;cases hv with|j4 _ _ hv=>exact .j4 _ _ (hv.mono h.F)
 |.jC cs o,y,v,hv,hr=>by
  simp[TV.rn] at hr;subst hr
  cases hv with|jC _ _ b o' vals hF hv=>exact .jC cs o b o' vals (λj c hc=>h.F _ _ _ (hF j c hc)) (λj c hc=>(hv j c hc).mono h.F)
 | .ref k o l,y,v,hv,hr=>by
  simp only[TV.rn] at hr
  cases hk:σ k<;>simp[hk] at hr
  rename_i k'
  subst hr
  cases hv with|ref _ _ _ n bE cap _ hd ha hle ho hv=>
   obtain⟨a1,a2,a3⟩:=h.at_ k k' hd hk
   exact .ref k' o l n bE cap _ a1 (by rw[a3];exact ha) hle ho (by rw[a2];exact hv)
 | .ptr k o,y,v,hv,hr=>by
  simp only[TV.rn] at hr
  cases hk:σ k<;>simp[hk] at hr
  rename_i k'
  subst hr
  cases hv with|ptr _ _ hd hn=>
   obtain⟨a1,a2,a3⟩:=h.at_ k k' hd hk
   rw[← a2]
   exact .ptr k' o a1 (by rw[a3];exact hn)
 | .jB k n o,y,v,hv,hr=>by
  simp only[TV.rn] at hr
  cases hk:σ k<;>simp[hk] at hr
  rename_i k'
  subst hr
  cases hv with|jB _ _ _ n' bE cap _ hd ha hle ho hv=>
   obtain⟨a1,a2,a3⟩:=h.at_ k k' hd hk
   exact .jB k' n o n' bE cap _ a1 (by rw[a3];exact ha) hle ho (by rw[a2];exact hv)
 | .map k,y,v,hv,hr=>by
  simp only[TV.rn] at hr
  cases hk:σ k<;>simp[hk] at hr
  rename_i k'
  subst hr
  cases hv with|map _ hd hn=>
   obtain⟨a1,a2,a3⟩:=h.at_ k k' hd hk
   rw[← a2]
   exact .map k' a1 (by rw[a3];exact hn)
 | .agg cs,y,v,hv,hr=>by
  simp only[TV.rn] at hr
  cases hk:TV.tU σ cs<;>simp[hk] at hr
  subst hr
  cases hv with|agg _ vs hl hh=>
   have:=cr.rn h (xs:=cs) ⟨hl,hh⟩ hk
   exact .agg _ _ this.1 this.2
 | .dr cs,y,v,hv,hr=>by
  simp only[TV.rn] at hr
  cases hk:TV.tU σ cs<;>simp[hk] at hr
  subst hr
  cases hv with|dr _ vs hl hh=>
   have:=cr.rn h (xs:=cs) ⟨hl,hh⟩ hk
   exact .dr _ _ this.1 this.2
 | .fn f fs cs,y,v,hv,hr=>by
  simp only[TV.rn] at hr
  cases hk:TV.tU σ fs<;>cases hk2:TV.tU σ cs<;>simp[hk,hk2] at hr
  subst hr
  cases hv with|fn _ _ _ vs ws hl hh hl' BU=>
   have h1:=cr.rn h (xs:=fs) ⟨hl,hh⟩ hk
   have h2:=cr.rn h (xs:=cs) ⟨hl',BU⟩ hk2
   exact .fn _ _ _ _ _ h1.1 h1.2 h2.1 h2.2
 |.iface ty x,y,v,hv,hr=>by
  simp only[TV.rn] at hr
  cases hk:x.rn σ<;>simp[hk] at hr
  subst hr
  cases hv with|iface _ _ u hu=>exact .iface _ _ _ (VR.rn h hu hk)
theorem cr.rn {G G':Gh}{σ:Nm->Option Nm}(h:Seen G G' σ):∀{xs ys:List TV} {vs:List Value},cr G xs vs->TV.tU σ xs=some ys->cr G' ys vs
 | [],ys,vs,hv,hr=>by simp[TV.tU] at hr;subst hr;have:=hv.1;simp at this;subst this;exact cr.nil _
 |x::r,ys,vs,hv,hr=>by
  obtain⟨v,vs',rfl,h1,h2⟩:=hv.gQ
  simp only[TV.tU] at hr
  cases hk:x.rn σ<;>cases hk2:TV.tU σ r<;>simp[hk,hk2] at hr
  subst hr
  exact cr.cons (VR.rn h h1 hk) (cr.rn h h2 hk2)
end
theorem MR.rn {G G':Gh}{σ:Nm->Option Nm}(h:Seen G G' σ):∀{es es':List (TV×TV×Nat)} {bF:List MapEntry},MR G es bF->PF σ es=some es'->MR G' es' bF:=by
 intro es;induction es with
 |nil=>intro es' bF hm hr;simp[PF] at hr;subst hr;cases bF<;>simp_all [MR]
 | cons p r ih=>
  intro es' bF hm hr
  obtain⟨k,v,b⟩:=p
  cases bF with
  |nil=>simp[MR] at hm
  |cons e es2=>
   simp only[MR] at hm
   simp only[PF] at hr
   cases h1:k.rn σ<;>cases h2:v.rn σ<;>cases h3:PF σ r<;>simp[h1,h2,h3] at hr
   subst hr
   simp only[MR]
   exact⟨hm.1.rn h h1,hm.2.1.rn h h2,hm.2.2.1,ih hm.2.2.2 h3⟩
theorem J0 {σ:Nm->Option Nm}:∀{xs ys:List TV},TV.tU σ xs=some ys->ys.length=xs.length:=by
 intro xs;induction xs with
 |nil=>intro ys h;simp[TV.tU] at h;subst h;rfl
 |cons x r ih=>
  intro ys h
  simp only[TV.tU] at h
  cases hk:x.rn σ<;>cases hk2:TV.tU σ r<;>simp[hk,hk2] at h
  subst h
  simp[ih hk2]
theorem OR.rn {G G':Gh}{σ:Nm->Option Nm}{w:World}{k k':Nm}{o o':aO}(h:Seen G G' σ)(hF:∀b,b=G.mu k->∀p,G'.F b p=G.F b p)(hk:G'.mu k'=G.mu k/\G'.arr k'=G.arr k)(ho:OR G w k o)(hr:o.rn σ=some o'):OR G' w k' o':=by
 obtain⟨e1,e2⟩:=hk;have hF':∀p,G'.F (G'.mu k') p=G.F (G.mu k) p:=λp=>by rw[e1];exact hF _ rfl p
 cases o with
 |cells Fo cs=>
  simp only[aO.rn] at hr
  cases h1:TV.tU σ cs<;>simp[h1] at hr
  subst hr
  obtain⟨ha,vs,ty,fr,hh,ht,hv,hf⟩:=ho
  exact⟨by rw[e2];exact ha,vs,ty,fr,by rw[e1];exact hh,ht,hv.rn h h1,λp=>by rw[hF'];exact hf p⟩
 |arr g bE fz cs=>
  simp only[aO.rn] at hr
  cases h1:TV.tU σ cs<;>simp[h1] at hr
  subst hr
  have hl:=J0 h1
  obtain⟨he,cap,vs,ty,fr,ha,hh,ht,hs,hle,hv,hf⟩:=ho
  exact⟨he,cap,vs,ty,fr,by rw[e2,hl];exact ha,by rw[e1];exact hh,ht,hs,by rw[hl];exact hle,by rw[hl];exact hv.rn h h1,λp hp=>by rw[hF'];exact hf p (by rw[hl] at hp;exact hp)⟩
 |map es c=>
  simp only[aO.rn] at hr
  cases h1:PF σ es<;>simp[h1] at hr
  subst hr
  obtain⟨ha,bF,hh,hv,hf⟩:=ho
  exact⟨by rw[e2];exact ha,bF,by rw[e1];exact hh,hv.rn h h1,λp=>by rw[hF'];exact hf p⟩
 |dead=>
  simp only[aO.rn,Option.some.injEq] at hr
  subst hr
  exact trivial
theorem p8 {k:Nm}:∀{S:List Nm} {i j:Nat},idxOf k S i=some j->∃p,j=i+p/\S[p]?=some k:=by
 intro S;induction S with
 |nil=>intro i j h;simp[idxOf] at h
 | cons x r ih=>
   intro i j h
   simp only[idxOf] at h
   split at h
   · rename_i e;simp at h;exact⟨0,by omega,by simp[e]⟩
   · obtain⟨p,h1,h2⟩:=ih h
     exact⟨p+1,by omega,by simpa using h2⟩
def Gh.within (G:Gh)(S:List Nm):Gh:={
 F:=G.F
 mu:=λk=>match k with|.arg i=>(match S[i]? with|some x=>G.mu x|none=>0)|.loc _=>0
 arr:=λk=>match k with|.arg i=>(match S[i]? with|some x=>G.arr x|none=>none)|.loc _=>none
 dom:=λk=>match k with|.arg i=>i<S.length|.loc _=>False}
theorem kj {G:Gh}{S:List Nm}:Seen G (G.within S) (Dy S):=by
 refine⟨λ_ _ _ h=>h,λk k' hd hs=> ?_⟩;unfold Dy at hs;cases h:idxOf k S 0<;>simp[h] at hs;rename_i i;subst hs;obtain⟨p,h1,h2⟩:=p8 h;have:i=p:=by omega
 subst this;have hl:=(List.getElem?_eq_some_iff.1 h2).1;refine⟨hl, ?_, ?_⟩<;>simp[Gh.within,h2]
theorem BZ {S:List Nm}(hn:S.Nodup){i j:Nat}(hi:i<S.length)(hj:j<S.length)(e:S[i]=S[j]):i=j:=by
 have h:=List.pairwise_iff_getElem.1 hn;rcases Nat.lt_trichotomy i j with l|l|l
 ·exact absurd e (h i j hi hj l)
 ·exact l
 ·exact absurd e.symm (h j i hj hi l)
theorem NF {S:List Nm}(hn:S.Nodup){i j:Nat}{k:Nm}(hi:S[i]?=some k)(hj:S[j]?=some k):i=j:=by
 obtain⟨h1,h2⟩:=List.getElem?_eq_some_iff.1 hi;obtain⟨h3,h4⟩:=List.getElem?_eq_some_iff.1 hj;exact BZ hn h1 h3 (h2.trans h4.symm)
theorem mF {G:Gh}{S:List Nm}{i:Nat}(hi:i<S.length)(h:(G.within S).alive (.arg i)):G.alive S[i]:=λn c e=>h n c (by simp[Gh.within,hi,e])
theorem vB {G:Gh}{w:World}{S:List Nm}(hw:WF G w)(hn:S.Nodup)(hd:∀k∈S,G.dom k):WF (G.within S) w:=by
 refine⟨hw.F,λk k' d d' a a' e=> ?_,λk d=> ?_⟩
 ·cases k with
  |loc p=>exact absurd d id
  | arg i=>
    cases k' with
    |loc p=>exact absurd d' id
    | arg j=>
      have b:=mF d a
      have b':=mF d' a'
      clear a a'
      simp only[Gh.within] at d d' e
      rw[List.getElem?_eq_getElem d,List.getElem?_eq_getElem d'] at e
      have:=hw.inj _ _ (hd _ (List.getElem_mem d)) (hd _ (List.getElem_mem d')) b b' e
      rw[BZ hn d d' this]
 ·cases k with
  |loc p=>exact absurd d id
  | arg i=>
    simp only[Gh.within] at d ⊢
    rw[List.getElem?_eq_getElem d]
    exact hw.lt _ (hd _ (List.getElem_mem d))
theorem uC:∀{os:List aO} {i:Nat} {k:Nm} {o:aO},(bK i os).get k=some o->∃j,k=.arg (i+j)/\os[j]?=some o:=by
 intro os;induction os with
 |nil=>intro i k o h;simp[bK,Heap.get] at h
 | cons x r ih=>
   intro i k o h
   simp only[bK,Heap.get] at h
   split at h
   · rename_i e;simp at h;subst h;exact⟨0,by simp[← e],rfl⟩
   · obtain⟨j,h1,h2⟩:=ih h
     exact⟨j+1,by rw[h1];congr 1;omega,by simpa using h2⟩
theorem iL {H:Heap}{S:List Nm}:∀{T:List Nm} {os:List aO},hM H S T=some os->os.length=T.length/\∀(j:Nat) k,T[j]?=some k->∃o o',H.get k=some o/\o.rn (Dy S)=some o'/\os[j]?=some o':=by
 intro T;induction T with
 |nil=>intro os h;simp[hM] at h;subst h;simp
 |cons k r ih=>
  intro os h
  simp only[hM] at h
  cases h1:H.get k<;>cases h2:hM H S r<;>simp[h1,h2] at h
  rename_i o os'
  obtain⟨o',h3,rfl⟩:=h
  obtain⟨h4,h5⟩:=ih h2
  refine⟨by simp[h4],λj k' hj=> ?_⟩
  cases j with
  |zero=>simp at hj;subst hj;exact⟨o,o',h1,h3,rfl⟩
  |succ j=>simpa using h5 j k' (by simpa using hj)
theorem vC {G:Gh}{w:World}{H:Heap}{S:List Nm}{os:List aO}(hH:HR G w H)(h:hM H S S=some os):HR (G.within S) w (bK 0 os):=by
 intro k o hk;obtain⟨j,rfl,hj⟩:=uC hk;obtain⟨hl,hs⟩:=iL h;have hjl:j<S.length:=by have:=(List.getElem?_eq_some_iff.1 hj).1;omega
 obtain⟨o0,o1,h1,h2,h3⟩:=hs j S[j] (List.getElem?_eq_getElem hjl);rw[hj] at h3;simp at h3;subst h3;obtain⟨hd,ho⟩:=hH _ _ h1;rw[Nat.zero_add];exact⟨hjl,OR.rn kj (λ_ _ _=>rfl) (by simp[Gh.within,List.getElem?_eq_getElem hjl]) ho h2⟩
open Classical in
noncomputable def Gh.back (G:Gh)(S:List Nm)(t:Nat)(G':Gh):Gh:={
 F:=G'.F
 mu:=λk=>match idxOf k S 0 with
  |some i=>G'.mu (.arg i)
  |none=>if G.dom k then G.mu k else(match k with|.loc (_::p)=>G'.mu (.loc p)|_=>0)
 arr:=λk=>match idxOf k S 0 with
  |some i=>G'.arr (.arg i)
  |none=>if G.dom k then G.arr k else(match k with|.loc (_::p)=>G'.arr (.loc p)|_=>none)
 dom:=λk=>G.dom k\/∃p,k=.loc (t::p)/\G'.dom (.loc p)}
theorem J1 {k:Nm}:∀{S:List Nm} {i:Nat},idxOf k S i=none->k∉S:=by
 intro S;induction S with
 |nil=>intro i _;simp
 | cons x r ih=>
   intro i h
   simp only[idxOf] at h
   split at h
   · simp at h
   · rename_i e
     simp only[List.mem_cons,not_or]
     exact⟨λhh=>e hh.symm,ih h⟩
theorem Qi {S:List Nm}(hn:S.Nodup){i:Nat}{k:Nm}(h:S[i]?=some k):idxOf k S 0=some i:=by
 cases h1:idxOf k S 0 with
 |none=>exact absurd (List.mem_of_getElem? h) (J1 h1)
 |some j=>
  obtain⟨p,h2,h3⟩:=p8 h1
  rw[NF hn h h3]
  congr 1;omega
section back
variable {G Gc:Gh}{w w':World}{S:List Nm}{t:Nat}
theorem qD (hn:S.Nodup){i:Nat}{k:Nm}(h:S[i]?=some k):(G.back S t Gc).mu k=Gc.mu (.arg i)/\(G.back S t Gc).arr k=Gc.arr (.arg i):=by
 simp[Gh.back,Qi hn h]
theorem ya {k:Nm}(hd:G.dom k)(h:k∉S):(G.back S t Gc).mu k=G.mu k/\(G.back S t Gc).arr k=G.arr k:=by
 have:idxOf k S 0=none:=by
  cases h1:idxOf k S 0 with
  |none=>rfl
  |some j=>obtain⟨p,_,h3⟩:=p8 h1;exact absurd (List.mem_of_getElem? h3) h
 simp[Gh.back,this,hd]
theorem yb {p:List Nat}(hd:¬G.dom (.loc (t::p)))(hS:∀k∈S,G.dom k):(G.back S t Gc).mu (.loc (t::p))=Gc.mu (.loc p)/\(G.back S t Gc).arr (.loc (t::p))=Gc.arr (.loc p):=by
 have:idxOf (.loc (t::p)) S 0=none:=by
  cases h1:idxOf (.loc (t::p)) S 0 with
  |none=>rfl
  |some j=>obtain⟨q,_,h3⟩:=p8 h1;exact absurd (hS _ (List.mem_of_getElem? h3)) hd
 simp[Gh.back,this,hd]
theorem rE (hw:WF G w)(hn:S.Nodup)(hS:∀k∈S,G.dom k)(hfresh:∀p,¬G.dom (.loc (t::p)))(h:Step (λ_=>True) (λk=>k.eR=true) (G.within S) w Gc w'):
 Step (λk=>k∈S) (λk=>∃p,k=.loc (t::p)) G w (G.back S t Gc) w':=by
 have hin:∀i,i<S.length->(G.within S).dom (.arg i):=λi hi=>hi
 have Aj:∀i (hi:i<S.length),(G.within S).mu (.arg i)=G.mu S[i]/\(G.within S).arr (.arg i)=G.arr S[i]:=λi hi=>by simp[Gh.within,hi]
 have abp:∀k,Gc.dom k->(∃j,∃hj:j<S.length,Gc.mu k=G.mu S[j]/\(Nm.arg j=k\/G.alive S[j]))\/w.heap.size<=Gc.mu k:=by
  intro k hk;rcases h.fresh k hk with ⟨k0,d0,e,o⟩|e
  ·cases k0 with
   |loc p=>exact absurd d0 id
   | arg j=>
     have hj:j<S.length:=d0
     exact .inl ⟨j,hj,e.trans (Aj j hj).1,o.imp id λx=>mF hj x.2⟩
  ·exact .inr e
 have place:∀k,(G.back S t Gc).dom k->(∃i,∃hi:i<S.length,k=S[i]/\(G.back S t Gc).mu k=Gc.mu (.arg i)/\(G.back S t Gc).arr k=Gc.arr (.arg i))\/(G.dom k/\k∉S/\(G.back S t Gc).mu k=G.mu k/\(G.back S t Gc).arr k=G.arr k)\/(∃p,k=.loc (t::p)/\Gc.dom (.loc p)/\(G.back S t Gc).mu k=Gc.mu (.loc p)/\(G.back S t Gc).arr k=Gc.arr (.loc p)):=by
  intro k hk;rcases hk with d|⟨p,rfl,d⟩
  ·by_cases hm:k∈S
   ·obtain⟨i,hi⟩:=List.mem_iff_getElem?.1 hm;obtain⟨h1,h2⟩:=List.getElem?_eq_some_iff.1 hi;exact .inl ⟨i,h1,h2.symm,qD hn hi⟩
   ·exact .inr (.inl ⟨d,hm,ya d hm⟩)
  ·exact .inr (.inr ⟨p,rfl,d,yb (hfresh p) hS⟩)
 have al:∀{A B:Gh} {x y:Nm},A.arr x=B.arr y->A.alive x->B.alive y:=λe a n c q=>a n c (e.trans q)
 have apart:∀k k',G.dom k->k∉S->G.alive k->Gc.dom k'->Gc.alive k'->G.mu k=Gc.mu k'->False:=by
  intro k k' d hm ak d' ak' e;rcases abp k' d' with ⟨j,hj,e2,o⟩|e2
  ·have aj:G.alive S[j]:=by
    rcases o with rfl|o
    ·exact mF hj (h.le.alive (hin j hj) ak')
    ·exact o
   have:=hw.inj _ _ d (hS _ (List.getElem_mem hj)) ak aj (e.trans e2);exact hm (this▸List.getElem_mem hj)
  ·have:=hw.lt _ d;omega
 refine⟨⟨λb o v hv=>h.le.F b o v hv,λk d=>.inl d,λk d a=> ?_,λk n e c d a=> ?_⟩,⟨h.wf.F,λk k' d d' a a' e=> ?_,λk d=> ?_⟩,λk d hk=>ya d hk,λb hb hb'=> ?_,λk d=> ?_,λk d=> ?_,h.size,h.os,h.tape,h.output⟩
 ·by_cases hm:k∈S
  ·obtain⟨i,hi⟩:=List.mem_iff_getElem?.1 hm;obtain⟨h1,h2⟩:=List.getElem?_eq_some_iff.1 hi;obtain⟨e1,e2⟩:=qD (G:=G) (Gc:=Gc) (t:=t) hn hi;obtain⟨m1,m2⟩:=Aj i h1;rw[h2] at m1 m2;obtain⟨p1,p2⟩:=h.le.plain (.arg i) (hin i h1) (by rw[m2];exact a);exact⟨by rw[e2];exact p1,by rw[e1,p2,m1]⟩
  ·obtain⟨e1,e2⟩:=ya (Gc:=Gc) (t:=t) d hm;exact⟨by rw[e2];exact a,e1⟩
 ·by_cases hm:k∈S
  ·obtain⟨i,hi⟩:=List.mem_iff_getElem?.1 hm;obtain⟨h1,h2⟩:=List.getElem?_eq_some_iff.1 hi;obtain⟨e1,e2⟩:=qD (G:=G) (Gc:=Gc) (t:=t) hn hi;obtain⟨m1,m2⟩:=Aj i h1;rw[h2] at m1 m2;obtain⟨n',f',c',p1,p2,p3,p4⟩:=h.le.arr (.arg i) n e c (hin i h1) (by rw[m2];exact a);exact⟨n',f',c',by rw[e2];exact p1,p2,λhh=>by obtain⟨q0,q1,q2⟩:=p3 hh;exact⟨q0,q1,by rw[e1,q2,m1]⟩,p4⟩
  ·obtain⟨e1,e2⟩:=ya (Gc:=Gc) (t:=t) d hm;exact⟨n,e,c,by rw[e2];exact a,Nat.le_refl _,λ_=>⟨rfl,rfl,e1⟩,.inl rfl⟩
 ·rcases place k d with ⟨i,hi,rfl,p1,p2⟩|⟨d1,hm,p1,p2⟩|⟨p,rfl,d1,p1,p2⟩<;>rcases place k' d' with ⟨j,hj,rfl,q1,q2⟩|⟨d2,hm2,q1,q2⟩|⟨q,rfl,d2,q1,q2⟩<;>rw[p1,q1] at e<;>replace a:=al p2 a<;>replace a':=al q2 a'
  ·have:=h.wf.inj _ _ (h.le.dom _ (hin i hi)) (h.le.dom _ (hin j hj)) a a' e;simp at this;subst this;rfl
  ·exact(apart _ _ d2 hm2 a' (h.le.dom _ (hin i hi)) a e.symm).elim
  ·have:=h.wf.inj _ _ (h.le.dom _ (hin i hi)) d2 a a' e;simp at this
  ·exact(apart _ _ d1 hm a (h.le.dom _ (hin j hj)) a' e).elim
  ·exact hw.inj _ _ d1 d2 a a' e
  ·exact(apart _ _ d1 hm a d2 a' e).elim
  ·have:=h.wf.inj _ _ d1 (h.le.dom _ (hin j hj)) a a' e;simp at this
  ·exact(apart _ _ d2 hm2 a' d1 a e.symm).elim
  ·have:=h.wf.inj _ _ d1 d2 a a' e;simp at this;subst this;rfl
 ·rcases place k d with ⟨i,hi,rfl,p1,_⟩|⟨d1,hm,p1,_⟩|⟨p,rfl,d1,p1,_⟩<;>rw[p1]
  ·exact h.wf.lt _ (h.le.dom _ (hin i hi))
  ·exact Nat.lt_of_lt_of_le (hw.lt _ d1) h.size
  ·exact h.wf.lt _ d1
 ·refine h.blocks b hb λk _ hk ak=> ?_
  cases k with
  |loc p=>exact absurd hk id
  | arg i=>
    have hi:i<S.length:=hk
    rw[(Aj i hi).1]
    exact hb' _ (List.getElem_mem hi) (hS _ (List.getElem_mem hi)) (mF hi ak)
 ·rcases d with d|⟨p,rfl,_⟩
  ·exact .inl d
  ·exact .inr ⟨p,rfl⟩
 ·have key:∀x,Gc.dom x->(∀j,Nm.arg j=x->∃hj:j<S.length,S[j]=k)->(G.back S t Gc).mu k=Gc.mu x->(∃k0,G.dom k0/\(G.back S t Gc).mu k=G.mu k0/\(k0=k\/(k0∈S/\G.alive k0)))\/w.heap.size<=(G.back S t Gc).mu k:=by
   intro x dx hx ex;rcases abp x dx with ⟨j,hj,e2,o⟩|e2
   ·refine .inl ⟨S[j],hS _ (List.getElem_mem hj),ex.trans e2, ?_⟩;rcases o with e3|o
    ·obtain⟨_,e4⟩:=hx j e3;exact .inl e4
    ·exact .inr ⟨List.getElem_mem hj,o⟩
   ·exact .inr (by rw[ex];exact e2)
  rcases place k d with ⟨i,hi,e0,p1,_⟩|⟨d1,hm,p1,_⟩|⟨p,e0,d1,p1,_⟩
  ·exact key (.arg i) (h.le.dom _ (hin i hi)) (λj e=>by cases e;exact⟨hi,e0.symm⟩) p1
  ·exact .inl ⟨k,d1,p1,.inl rfl⟩
  ·exact key (.loc p) d1 (λj e=>by cases e) p1
theorem vD (hn:S.Nodup)(hS:∀k∈S,G.dom k)(hfresh:∀p,¬G.dom (.loc (t::p)))(h:Step (λ_=>True) (λk=>k.eR=true) (G.within S) w Gc w'):Seen Gc (G.back S t Gc) (kW S t):=by
 refine⟨λ_ _ _ hv=>hv,λk k' hd hk=> ?_⟩;cases k with
 |arg i=>
  simp only[kW] at hk
  obtain⟨e1,e2⟩:=qD (G:=G) (Gc:=Gc) (t:=t) hn hk
  exact⟨.inl (hS _ (List.mem_of_getElem? hk)),e1,e2⟩
 |loc p=>
  simp[kW] at hk
  subst hk
  obtain⟨e1,e2⟩:=yb (Gc:=Gc) (hfresh p) hS
  exact⟨.inr ⟨p,rfl,hd⟩,e1,e2⟩
end back
def mG (P:Program)(g:FuncId)(args:Array Value)(w:World)(R:Ending->World->Prop):Prop:=
 ((callFunc g args).run P w=.ok (.enter g args) w/\Calls P g args w R)\/∃v w',(callFunc g args).run P w=.ok (.value v) w'/\R (.returned v) w'
def p9 (G:Gh)(w:World)(n:Nat):bz->Ending->World->Prop
 | .ret v os news,e,w'=>∃x G',e=.returned x/\Step (λ_=>True) (λk=>k.eR=true) G w G' w'/\os.length=n/\
   (∀i o,os[i]?=some o->G'.dom (.arg i)/\OR G' w' (.arg i) o)/\(∀k o,(k,o)∈news->k.eR=true/\G'.dom k/\OR G' w' k o)/\VR G' v x
 | .panic v os,e,w'=>∃x G',e=.panicked [{v:=x,recovered:=false}]/\Step (λ_=>True) (λk=>k.eR=true) G w G' w'/\
   (∀i o,os[i]?=some (some o)->G'.dom (.arg i)/\OR G' w' (.arg i) o)/\VR G' v x
def uD (G:Gh)(n:Nat):Prop:=(∀i,i<n->G.dom (.arg i))/\∀p,¬G.dom (.loc p)
def aF (C:cE)(ev:aX):Prop:=∀g args aP r,ev g args aP=some r->∀(G:Gh) (w:World) (vs:List Value),WF G w->iA C G->uD G aP.length->
 HR G w (bK 0 aP)->cr G args vs->mG C.P g vs.toArray w (p9 G w aP.length r)
def kY (t:Nat)(G:Gh)(w:World):pY->Ending->World->Prop
 |.val v u,e,w'=>∃x G',e=.returned x/\Step (λk=>k∈u.map (·.1)) (λk=>∃p,k=.loc (t::p)) G w G' w'/\(∀k ob,(k,ob)∈u->G'.dom k/\OR G' w' k ob)/\VR G' v x
 | .panic v u l,e,w'=>∃x G',e=.panicked [{v:=x,recovered:=false}]/\Step (λk=>k∈u.map (·.1)++l) (λk=>∃p,k=.loc (t::p)) G w G' w'/\
   (∀k ob,(k,ob)∈u->G'.dom k/\OR G' w' k ob)/\VR G' v x
theorem J2 {G:Gh}{w:World}{H:Heap}(hw:WF G w)(hH:HR G w H)(ks:List Nm):∀{args:List TV} {vs:List Value} {args':List TV} {k0:List Nm},cr G args vs->lq H args=(args',k0)->(∀k∈k0,k∈ks)->
 cr (G.frozen w H ks) args' vs:=by
 intro args
 induction args with
 |nil=>intro vs args' k0 hv h _;simp[lq] at h;obtain⟨rfl,rfl⟩:=h;have:=hv.1;simp at this;subst this;exact cr.nil _
 | cons a r ih=>
   intro vs args' k0 hv h hk
   obtain⟨v,vs',rfl,h1,h2⟩:=hv.gQ
   rw[lq] at h
   generalize hfr:lq H r=q at h
   obtain⟨r',kr⟩:=q
   dsimp only at h
   split at h
   · rename_i x k hf
     simp at h
     obtain⟨rfl,rfl⟩:=h
     exact cr.cons (.t _ _ (zx hw hH ks gl _ _ _ _ hf (λk hk'=>hk k (List.mem_append_left _ hk')) h1)) (ih h2 hfr (λk hk'=>hk k (List.mem_append_right _ hk')))
   · simp at h
     obtain⟨rfl,rfl⟩:=h
     exact cr.cons (h1.mono (iJ hw hH ks).le) (ih h2 hfr hk)
theorem sL {S:List Nm}{t:Nat}:∀{T:List Nm} {os:List aO} {h:Heap},iH S t T os=some h->h.map (·.1)=T/\os.length=T.length/\∀k o,(k,o)∈h->∃(i:Nat) (o':aO),T[i]?=some k/\os[i]?=some o'/\o'.rn (kW S t)=some o:=by
 intro T;induction T with
 |nil=>intro os h hh;cases os<;>simp[iH] at hh;subst hh;simp
 | cons k r ih=>
   intro os h hh
   cases os with
   |nil=>simp[iH] at hh
   | cons o os=>
     simp only[iH] at hh
     cases h1:o.rn (kW S t)<;>cases h2:iH S t r os<;>simp[h1,h2] at hh
     subst hh
     obtain⟨e1,e2,e3⟩:=ih h2
     refine⟨by simp[e1],by simp[e2],λk' o' hm=> ?_⟩
     rcases List.mem_cons.1 hm with e|hm
     · simp at e;obtain⟨rfl,rfl⟩:=e;exact⟨0,o,rfl,rfl,h1⟩
     · obtain⟨i,o2,a,b,c⟩:=e3 k' o' hm
       exact⟨i+1,o2,by simpa using a,by simpa using b,c⟩
theorem yc {S:List Nm}{t:Nat}:∀{ns h:Heap},iI S t ns=some h->∀k o,(k,o)∈h->∃k' o',(k',o')∈ns/\kW S t k'=some k/\o'.rn (kW S t)=some o:=by
 intro ns;induction ns with
 |nil=>intro h hh;simp[iI] at hh;subst hh;simp
 | cons p r ih=>
   intro h hh k o hm
   obtain⟨k0,o0⟩:=p
   simp only[iI] at hh
   cases h1:kW S t k0<;>cases h2:o0.rn (kW S t)<;>cases h3:iI S t r<;>simp[h1,h2,h3] at hh
   subst hh
   rcases List.mem_cons.1 hm with e|hm
   · simp at e;obtain⟨rfl,rfl⟩:=e;exact⟨k0,o0,List.mem_cons_self,h1,h2⟩
   · obtain⟨k',o',a,b,c⟩:=ih h3 k o hm
     exact⟨k',o',List.mem_cons_of_mem _ a,b,c⟩
theorem FB {S:List Nm}{t:Nat}:∀{T:List Nm} {os:List (Option aO)} {h:Heap} {l:List Nm},l8 S t T os=some (h,l)->(∀k∈T,k∈h.map (·.1)++l)/\∀k o,(k,o)∈h->∃(i:Nat) (o':aO),T[i]?=some k/\os[i]?=some (some o')/\o'.rn (kW S t)=some o:=by
 intro T;induction T with
 |nil=>intro os h l hh;cases os<;>simp[l8] at hh;obtain⟨rfl,rfl⟩:=hh;simp
 | cons k r ih =>
   intro os h l hh
   cases os with
   |nil=>simp[l8] at hh
   | cons o os =>
     cases o with
     | none=>
       simp only[l8] at hh
       cases h2:l8 S t r os with
       |none=>simp[h2] at hh
       | some q=>
         obtain⟨h',ks⟩:=q
         simp[h2] at hh
         obtain⟨rfl,rfl⟩:=hh
         obtain⟨e1,e3⟩:=ih h2
         refine⟨λk' hk'=> ?_,λk' o' hm=> ?_⟩
         · rcases List.mem_cons.1 hk' with rfl|hk'
           · simp
           · have:=e1 k' hk';simp at this ⊢;rcases this with h|h<;>simp[h]
         · obtain⟨i,o2,a,b,c⟩:=e3 k' o' hm
           exact⟨i+1,o2,by simpa using a,by simpa using b,c⟩
     | some o=>
       simp only[l8] at hh
       cases h1:o.rn (kW S t) with
       |none=>simp[h1] at hh
       | some o1=>
         cases h2:l8 S t r os with
         |none=>simp[h1,h2] at hh
         | some q=>
           obtain⟨h',ks⟩:=q
           simp[h1,h2] at hh
           obtain⟨rfl,rfl⟩:=hh
           obtain⟨e1,e3⟩:=ih h2
           refine⟨λk' hk'=> ?_,λk' o' hm=> ?_⟩
           · rcases List.mem_cons.1 hk' with rfl|hk'
             · simp
             · have:=e1 k' hk';simp at this ⊢;rcases this with h|h<;>simp[h]
           · rcases List.mem_cons.1 hm with e|hm
             · simp at e;obtain⟨rfl,rfl⟩:=e;exact⟨0,o,rfl,rfl,h1⟩
             · obtain⟨i,o2,a,b,c⟩:=e3 k' o' hm
               exact⟨i+1,o2,by simpa using a,by simpa using b,c⟩
theorem mG.mono {P:Program}{g:FuncId}{args:Array Value}{w:World}{R R':Ending->World->Prop}(h:mG P g args w R)(hr:∀e w',R e w'->R' e w'):mG P g args w R':=by
 rcases h with ⟨h1,h2⟩|⟨v,w',h1,h2⟩
 ·exact .inl ⟨h1,h2.mono hr⟩
 ·exact .inr ⟨v,w',h1,hr _ _ h2⟩
theorem B0 {C:cE}{ev:aX}(az:aF C ev){H:Heap}{g:FuncId}{args:List TV}{t:Nat}{res:pY}{G:Gh}{w:World}{vs:List Value}{keep:Bool}(h:pZ ev H g args t keep=some res)
 (hw:WF G w)(hg:iA C G)(hH:HR G w H)(hfresh:∀p,¬G.dom (.loc (t::p)))(hv:cr G args vs):mG C.P g vs.toArray w (kY t G w res):=by
 unfold pZ at h
 generalize hfr:DZ H keep args=q at h
 obtain⟨args1,ks⟩:=q
 dsimp only at h
 split at h
 ·simp at h
 rename_i S hS
 split at h
 case isFalse=>simp at h
 rename_i hn
 split at h
 case h_2=>simp at h
 rename_i alA os has hos
 have hst:=iJ hw hH ks
 have U2:HR (G.frozen w H ks) w (H.dH (cH H ks)):=HR.dH hst hw hH (λk o hm=>rB hw hH hm) (λk _ hk=>mC hk.1 hk.2)
 have Vn:cr (G.frozen w H ks) args1 vs:=by
  cases keep with
  | true=>
    obtain⟨rfl,rfl⟩:=Prod.mk.inj hfr
    exact hv.mono hst.le
  |false=>exact J2 hw hH ks hv hfr (λ_ hk=>hk)
 have hg1:iA C (G.frozen w H ks):=hg.mono hst.le
 generalize Qj:G.frozen w H ks=G1 at hst U2 Vn hg1
 have Bd:∀k∈S,G1.dom k:=by
  intro k hk;obtain⟨j,hj⟩:=List.mem_iff_getElem?.1 hk;obtain⟨o,o',h1,_,_⟩:=(iL hos).2 j k hj;exact(U2 k o h1).1
 have yd:∀p,¬G1.dom (.loc (t::p)):=by
  intro p hd;rcases hst.news _ hd with d|d
  ·exact hfresh p d
  ·exact d
 have hc:=λr (hr:ev g alA os=some r)=>az g alA os r hr (G1.within S) w vs (vB hst.wf hn Bd) (λx cs hx=>hg1 x cs hx)
  ⟨λi hi=>by have:=(iL hos).1;exact(by omega:i<S.length),λp d=>d⟩ (vC U2 hos) (Vn.rn kj has)
 have abq:∀(u:Heap) (l:List Nm),(∀k∈S,k∈u.map (·.1)++l)->∀k,((k∈ks/\∃g e fz cs,H.get k=some (.arr g e fz cs))\/k∈S)->k∈((cH H ks).filter (λp=> !(S.contains p.1))++u).map (·.1)++l:=by
  intro u l hu k hk;rw[List.map_append,List.append_assoc];by_cases hm:k∈S
  ·exact List.mem_append_right _ (hu k hm)
  ·rcases hk with ⟨h1,h2⟩|h2
   ·refine List.mem_append_left _ ?_;obtain⟨p,hp,e⟩:=List.mem_map.1 (mC h1 h2);refine List.mem_map.2 ⟨p,List.mem_filter.2 ⟨hp, ?_⟩,e⟩;simp[e,hm]
   ·exact absurd h2 hm
 have abr:∀{G3:Gh} {w':World},Step (λk=>k∈S) (λk=>∃p,k=.loc (t::p)) G1 w G3 w'->∀k ob,(k,ob)∈(cH H ks).filter (λp=> !(S.contains p.1))->G3.dom k/\OR G3 w' k ob:=by
  intro G3 w' FH k ob hm;obtain⟨hm1,hm2⟩:=List.mem_filter.1 hm;have hm3:k∉S:=by simpa using hm2
  obtain⟨d,ho⟩:=rB hw hH hm1;rw[Qj] at d ho;exact⟨FH.le.dom _ d,FH.keeps hst.wf d hm3 ho⟩
 split at h
 ·rename_i v os' news hr;split at h<;>try (simp at h;done)
  rename_i v' h1 h2 uy hh1 hh2;obtain rfl:=Option.some.inj h;refine(hc _ hr).mono λe w' he=> ?_
  obtain⟨x,G2,rfl,wY,hl,Qk,J3,hx⟩:=he;have FH:=rE hst.wf hn Bd yd wY;have tL:=vD hn Bd yd wY;obtain⟨ek,_,hO⟩:=sL hh1;have hb:=hst.trans FH;refine⟨x,G1.back S t G2,rfl,hb.mono (λk _ hk=> ?_) (λk hk=>hk.elim False.elim id),λk ob hm=> ?_,hx.rn tL uy⟩
  ·have:=abq h1 [] (λk hk=>by rw[ek];simpa using hk) k hk;rw[List.map_append];rw[List.append_nil] at this;exact List.mem_append_left _ this
  ·rcases List.mem_append.1 hm with hm|hm
   ·rcases List.mem_append.1 hm with hm|hm
    ·exact abr FH k ob hm
    ·obtain⟨i,o',e1,e2,e3⟩:=hO k ob hm;obtain⟨d,ho⟩:=Qk i o' e2;exact⟨.inl (Bd _ (List.mem_of_getElem? e1)),OR.rn tL (λ_ _ _=>rfl) (qD hn e1) ho e3⟩
   ·obtain⟨k',o',e1,e2,e3⟩:=yc hh2 k ob hm;obtain⟨el,d,ho⟩:=J3 k' o' e1;cases k' with
    |arg i=>simp[Nm.eR] at el
    | loc p=>
      simp[kW] at e2
      subst e2
      exact⟨.inr ⟨p,rfl,d⟩,OR.rn tL (λ_ _ _=>rfl) (yb (yd p) Bd) ho e3⟩
 ·rename_i v os' hr;split at h<;>try (simp at h;done)
  rename_i v' h1 l uy hh1;obtain rfl:=Option.some.inj h;refine(hc _ hr).mono λe w' he=> ?_
  obtain⟨x,G2,rfl,wY,Qk,hx⟩:=he;have FH:=rE hst.wf hn Bd yd wY;have tL:=vD hn Bd yd wY;obtain⟨ek,hO⟩:=FB hh1;have hb:=hst.trans FH;refine⟨x,G1.back S t G2,rfl,hb.mono (λk _ hk=>abq h1 l ek k hk) (λk hk=>hk.elim False.elim id),λk ob hm=> ?_,hx.rn tL uy⟩;rcases List.mem_append.1 hm with hm|hm
  ·exact abr FH k ob hm
  ·obtain⟨i,o',e1,e2,e3⟩:=hO k ob hm;obtain⟨d,ho⟩:=Qk i o' e2;exact⟨.inl (Bd _ (List.mem_of_getElem? e1)),OR.rn tL (λ_ _ _=>rfl) (qD hn e1) ho e3⟩
 ·simp at h
end Go.Abs
namespace Go.Abs
open Go
def XO (P:Program)(R:Ending->World->Prop):Result Next->Prop
 |.ok (.value v) w'=>R (.returned v) w'
 |.ok .skip w'=>R (.returned undef) w'
 |.ok (.enter f args) w'=>Calls P f args w' R
 |.halt (.panic v) w'=>R (.panicked [{v,recovered:=false}]) w'
 |_=>False
def ko (P:Program)(o:Oper)(a:Act)(w:World)(R:Ending->World->Prop):Prop:=XO P R ((execOp a.eval o).run P w)
theorem ko.wp {P:Program}{o:Oper}{a:Act}{w:World}{R:Ending->World->Prop}(h:ko P o a w R)(hno:∀w',¬R .outgrown w'){next:Act->World->Prop}{Q:Exit->Act->World->Prop}
 (h1:∀x w',R (.returned x) w'->next (a.put o.dst x) w')(h2:∀ch w',R (.panicked ch) w'->Q (.panic ch) a w'):o.wp P a w next Q:=by
 unfold ko at h
 unfold Oper.wp
 generalize (execOp a.eval o).run P w=r at h ⊢
 unfold XO at h
 split at h
 ·rw[Oper.upon_value];exact h1 _ _ h
 ·rw[Oper.upon_skip];exact h1 _ _ h
 ·rw[Oper.upon_enter];refine h.mono λe w' he=> ?_
  cases e with
  |returned x=>exact h1 x w' he
  |panicked ch=>exact h2 ch w' he
  |outgrown=>exact absurd he (hno w')
 ·rw[Oper.upon_panic];exact h2 _ _ h
 ·exact h.elim
theorem HY {P:Program}{o:Oper}{a:Act}{w:World}{R:Ending->World->Prop}{fo:Operand}{args:Array Operand}{ats:Array TypeId}{g:FuncId}{first captured:Array Value}
 (ho:o.op=.call {callee:=.value fo,args,argTypes:=ats})(hf:a.eval fo=.func (.func g) first captured)(h:mG P g (first++args.map a.eval++captured) w R):ko P o a w R:=by
 have e:(execOp a.eval o).run P w=(callFunc g (first++args.map a.eval++captured)).run P w:=by
  simp[execOp,ho,resolve,hf,Deferred.ofValue,invoke]
 unfold ko
 rw[e]
 rcases h with ⟨hr,hc⟩|⟨v,w',hr,hc⟩
 ·rw[hr];exact hc
 ·rw[hr];exact hc
theorem Am {C:cE}{G:Gh}{w:World}{H:Heap}{t:TypeId}{p v:TV}{x:Value}(hH:HR G w H)(hw:WF G w)(hp:VR G p x)(h:loadT C.P H t p=some v):∃r,(do loadVar t (← asAddr x):Sem Value).run C.P w=.ok r w/\VR G v r:=by
 unfold loadT at h;cases ht:bh C.P t<;>cases hc:sx H p<;>simp[ht,hc] at h;rename_i ti co;obtain⟨cs,off⟩:=co;obtain⟨b,o,vs,rfl,hv,hcell⟩:=Ai hH hw hp hc;obtain⟨r,h1,h2⟩:=BH ht hv hcell h;refine⟨r, ?_,h2⟩;have:(asAddr (.pointer (some ⟨b,o+off,none⟩))).run C.P w=.ok ⟨b,o+off,none⟩ w:=rfl;rw[gA this];exact h1
theorem J4 (t t':TypeId)(a:Addr)(n:String):Builtin.ssaWrapNilChk_ #[t] t' #[.pointer (some a),strVal "",strVal n]=pure (.pointer (some a)):=rfl
theorem J5 {C:cE}{H:Heap}{G:Gh}{w:World}{t:TypeId}{v x:TV}{u:Value}{name:String}{f:FuncId}(hw:WF G w)(hH:HR G w H)(hv:VR G v u)(h:Fk C.P H t v name=some (f,x))(n:Nat):
 ∃y,(method (n+1) t u name).run C.P.prog w=.ok (f,y) w/\VR G x y:=by
 unfold Fk at h
 split at h
 ·rename_i m hm;cases hi:C.P.prog.info? t with
  |none=>rw[hi] at hm;cases hm
  | some i=>
    rw[hi] at hm
    have hm:i.methods.find? (·.name==name)=some m:=hm
    split at h
    · rename_i g e hp hf hu
      simp only[Option.some.injEq,Prod.mk.injEq] at h
      obtain⟨rfl,rfl⟩:=h
      have hp0:m.path.toList=[]:=by simpa using hp
      refine⟨u, ?_,hv⟩
      simp[method,typeInfo,hi,hm,hp0,follow,hf,receiverAt,underlying,hu,Place.get]
    · rename_i g e hp hf hu
      split at h
      · rename_i k o
        split at h
        · rename_i y hl
          simp only[Option.some.injEq,Prod.mk.injEq] at h
          obtain⟨rfl,rfl⟩:=h
          have hp0:m.path.toList=[]:=by simpa using hp
          obtain⟨r,h1,h2⟩:=Am hH hw hv hl
          refine⟨r, ?_,h2⟩
          generalize hk:TV.ptr k o=q at hv
          cases hv<;>cases hk
          simp[method,typeInfo,hi,hm,hp0,follow,hf,receiverAt,underlying,hu,Place.get,J4]
          have h1:((Sem.run C.P.prog (asAddr (Value.pointer (some {block:=G.mu k,off:=o}))) w).andThen λa w'=>Sem.run C.P.prog (loadVar e a) w')=Result.ok r w:=by simpa using h1
          split<;>(simp only[Sem.run_bind];rw[h1];rfl)
        · cases h
      · cases h
    · cases h
 ·cases h
theorem NG {P:Program}{o:Oper}{a:Act}{w:World}{R:Ending->World->Prop}{recv:Operand}{name:String}{args:Array Operand}{ats:Array TypeId}{g:FuncId}{t:TypeId}{u y:Value}
 (ho:o.op=.call {callee:=.invoke recv name,args,argTypes:=ats})(hr:a.eval recv=.iface t u)(hm:(method (P.types.size+Made.depth) t u name).run P w=.ok (g,y) w)(h:mG P g (#[y]++args.map a.eval) w R):ko P o a w R:=by
 have e:(execOp a.eval o).run P w=(callFunc g (#[y]++args.map a.eval)).run P w:=by
  have h0:(#[Value.iface t u]++args.map a.eval)[0]?=some (.iface t u):=by
   rw[Array.getElem?_append_left (by simp)];rfl
  have h2:(args.map a.eval).extract 0 args.size=args.map a.eval:=by
   apply Array.ext';simp;rw[List.take_of_length_le (by simp)]
  have e1:execOp a.eval o=callMethod (.iface t u) name (args.map a.eval):=by
   simp[execOp,ho,resolve,hr,invoke,h0,h2]
  rw[e1];unfold callMethod;simp only[Sem.run_bind];show((Sem.run P (method (P.types.size+Made.depth) t u name) w).andThen λa_2 w'=>Sem.run P (callFunc a_2.fst (#[a_2.snd]++Array.map a.eval args)) w')=_;rw[hm];rfl
 unfold ko
 rw[e]
 rcases h with ⟨hr,hc⟩|⟨v,w',hr,hc⟩
 ·rw[hr];exact hc
 ·rw[hr];exact hc
theorem Ql {P:Program}{o:Oper}{a:Act}{w:World}{R:Ending->World->Prop}{x:Operand}{t:TypeId}{v:Value}(ho:o.op=.panic x)(hv:a.eval x=.iface t v)(h:R (.panicked [{v:=.iface t v,recovered:=false}]) w):ko P o a w R:=by
 have:(execOp a.eval o).run P w=.halt (.panic (.iface t v)) w:=by simp[execOp,ho,hv,Instr.panic,goPanic]
 unfold ko;rw[this];exact h
theorem J6 {G:Gh}{y v:TV}{x:Value}(h:Fl y=some v)(hv:VR G y x):∃t u,x=.iface t u/\VR G v x:=by
 unfold Fl at h;split at h
 ·simp at h;subst h;cases hv with|iface _ z u hu=>exact⟨_,u,rfl,.iface _ _ _ hu⟩
 ·simp at h;subst h;cases hv with|t _ _ hv=>cases hv with|iface _ z u hu=>exact⟨_,u,rfl,.t _ _ (.iface _ _ _ hu)⟩
 ·simp at h
theorem B1 {C:cE}{G:Gh}{slots:List TV}{a:Act}{fo:Operand}{args:Array Operand}{ats:Array TypeId}{g:FuncId}{alA:List TV}(hs:SR G slots a)(hg:iA C G)
 (h:jv C slots {callee:=.value fo,args,argTypes:=ats}=some (g,alA)):∃first captured:Array Value,a.eval fo=.func (.func g) first captured/\cr G alA (first++args.map a.eval++captured).toList:=by
 unfold jv at h
 simp only at h
 split at h
 ·rename_i hf hr;simp at h;obtain⟨rfl,rfl⟩:=h;have h1:=bM hs hg hf;have h2:=vA hs hg hr;cases h1 with
  | t _ _ h1=>
    generalize hx:a.eval fo=x at h1
    cases h1
    exact⟨#[], #[],rfl,by simpa using h2⟩
 ·rename_i g' fs cs as' hf hr;simp at h;obtain⟨rfl,rfl⟩:=h;have h1:=bM hs hg hf;have h2:=vA hs hg hr;generalize hx:a.eval fo=x at h1;cases h1 with
  | fn _ _ _ vs ws hl hv hl' uy=>
    refine⟨vs.toArray,ws.toArray,rfl, ?_⟩
    have:=cr.append (cr.append (G:=G) ⟨hl,hv⟩ h2) ⟨hl',uy⟩
    simpa using this
 ·simp at h
theorem cF.exec {P:Program}{t:Nat}{o:Oper}{a:Act}{w:World}{G:Gh}{v:TV}{u:List (Nm×aO)}(h:cF P (.loc [t]) o a w G v u):ko P o a w (kY t G w (.val v u)):=by
 obtain⟨x,w',G',hn,hs,hu,hv⟩:=h;have hR:kY t G w (.val v u) (.returned x) w':=⟨x,G',rfl,hs.mono (λ_ _ h=>h) (λk hk=>⟨[],hk⟩),hu,hv⟩;unfold ko;rcases hn with hn|⟨hn,rfl⟩<;>rw[hn]<;>exact hR
theorem kY.no {t:Nat}{G:Gh}{w:World}{r:pY}(w':World):¬kY t G w r .outgrown w':=by
 cases r<;>simp[kY]
theorem qa {C:cE}{ev:aX}(az:aF C ev){f:FuncId}{H:Heap}{slots:List TV}{t:Nat}{o:Oper}{r:pY}{G:Gh}{w:World}{a:Act}(h:aR C ev f H slots t o=some r)
 (hw:WF G w)(hg:iA C G)(hs:SR G slots a)(hH:HR G w H)(hfresh:∀p,¬G.dom (.loc (t::p))):ko C.P o a w (kY t G w r):=by
 unfold aR at h
 split at h
 ·rename_i x ho;split at h<;>try (simp at h;done)
  rename_i v hv;simp at h;subst h;cases hx:bU C slots x with
  |none=>simp[hx] at hv
  | some y=>
    simp[hx] at hv
    obtain⟨ty,u,e,hvr⟩:=J6 hv (bM hs hg hx)
    refine Ql ho e ⟨a.eval x,G,by rw[e],Step.refl hw _ _,by simp,hvr⟩
 ·rename_i fo args ats ho;split at h<;>try (simp at h;done)
  rename_i g alA hc;obtain⟨first,captured,e,hv⟩:=B1 hs hg hc;have:=B0 az h hw hg hH hfresh hv;rw[Array.toArray_toList] at this;exact HY ho e this
 ·rename_i recv name args ats ho;split at h<;>try (simp at h;done)
  rename_i g alA hc;unfold A9 at hc;split at hc<;>try (simp at hc;done)
  rename_i ty v as' hr hra;split at hc<;>try (simp at hc;done)
  rename_i f' x hm;simp only[Option.some.injEq,Prod.mk.injEq] at hc;obtain⟨rfl,rfl⟩:=hc;have h1:=bM hs hg hr;have h2:=vA hs hg hra;generalize hq:a.eval recv=q at h1;cases h1 with
  | iface _ _ u hu=>
    obtain⟨d,hd⟩:∃d,C.P.prog.types.size+Made.depth=d+1:=⟨C.P.prog.types.size+Made.depth - 1,by
      have h0:0<Made.depth:=by decide
      omega⟩
    obtain⟨y,h3,h4⟩:=J5 hw hH hu hm d
    have hv:cr G (x::as') (y::(args.map a.eval).toList):=cr.cons h4 (by simpa using h2)
    have:=B0 az h hw hg hH hfresh hv
    refine NG ho hq (by rw[hd];exact h3) ?_
    have e:(y::(args.map a.eval).toList).toArray= #[y]++args.map a.eval:=by simp
    rw[e] at this
    exact this
 ·split at h<;>try (simp at h;done)
  rename_i v u he;simp at h;subst h;exact(ND hw hH (hfresh []) hs hg he).exec
theorem ie {G:Gh}{ops:Array Oper}{slots:List TV}{o:Oper}{a:Act}{b:Bool}(h:dL ops slots o=some b)(hs:SR G slots a):Region.wanted o (yielded ops a.tmps)=b:=by
 unfold dL at h;unfold Region.wanted;split at h
 ·rename_i hg;simp at h;subst h;simp[hg]
 ·rename_i j want hg;simp only[hg];unfold yielded;split at h
  ·rename_i hd;simp at h;subst h;simp[hd]
  ·rename_i d hd;rw[hd];simp only[Option.bind_some];have hl:=hs.1;have at':∀x,slots[d]?=some x->∃v,a.tmps[d]?=some v/\VR G x v:=λx hx=>by
    obtain⟨v,h1,h2⟩:=cr.at hs hx;exact⟨v,by simpa using h1,h2⟩
   split at h
   ·rename_i c hc;simp at h;subst h;obtain⟨v,e,hv⟩:=at' _ hc;rw[e];rw[hv.bool];cases c<;>cases want<;>rfl
   ·rename_i hc;simp at h;subst h;obtain⟨v,e,hv⟩:=at' _ hc;rw[e];cases hv with|t _ _ hv=>cases hv;rfl
   ·rename_i hc;simp at h;subst h;have:a.tmps[d]?=none:=by
     have:=List.getElem?_eq_none_iff.1 hc;rw[Array.getElem?_eq_none_iff];simp at hl;omega
    rw[this];rfl
   ·simp at h
def uE (G:Gh)(t:Nat):Prop:=∀p,G.dom (.loc p)->∃n q,p=n::q/\n<t
theorem uE.not {G:Gh}{t:Nat}(h:uE G t)(p:List Nat):¬G.dom (.loc (t::p)):=by
 intro hd;obtain⟨n,q,e,hl⟩:=h _ hd;simp at e;omega
theorem uE.step {G G':Gh}{t:Nat}{W:Nm->Prop}{w w':World}(h:uE G t)(hs:Step W (λk=>∃p,k=.loc (t::p)) G w G' w'):uE G' (t+1):=by
 intro p hd;rcases hs.news _ hd with d|⟨q,e⟩
 ·obtain⟨n,q,e,hl⟩:=h p d;exact⟨n,q,e,by omega⟩
 ·simp at e;exact⟨t,q,e,by omega⟩
theorem uE.mono {G:Gh}{t t':Nat}(h:uE G t)(hl:t<=t'):uE G t':=λp d=>by
 obtain⟨n,q,e,hn⟩:=h p d;exact⟨n,q,e,by omega⟩
structure tV (C:cE)(G:Gh)(w:World)(st:St)(a:Act):Prop where
 wf:WF G w
 iC:iA C G
 slots:SR G st.slots a
 heap:HR G w st.H
 fresh:uE G st.tick
abbrev cx:=Step (λ_=>True) (λk=>k.eR=true)
def Good (C:cE)(G:Gh)(w:World)(a:Act)(e:aJ)(st':St)(ex:Exit)(a':Act)(w':World):Prop:=
 ∃G',cx G w G' w'/\a'.defers=a.defers/\match e with
  |.normal=>ex=.normal/\tV C G' w' st' a'
  |.exit id=>ex=.exit id/\tV C G' w' st' a'
  |.ret=>ex=.ret/\tV C G' w' st' a'
  |.panic v=>∃x,ex=.panic [{v:=x,recovered:=false}]/\VR G' v x/\HR G' w' st'.H/\SR G' st'.slots a'/\∃t,uE G' t
theorem cx.comp {A B C:Gh}{u v w:World}(h:cx A u B v)(k:cx B v C w):cx A u C w:=
 (Step.trans h k).mono (λ_ _ _=>trivial) (λ_ hk=>hk.elim id id)
theorem Step.any {W:Nm->Prop}{t:Nat}{G G':Gh}{w w':World}(h:Step W (λk=>∃p,k=.loc (t::p)) G w G' w'):cx G w G' w':=
 h.mono (λ_ _ _=>trivial) (λk ⟨p,e⟩=>by subst e;rfl)
theorem Good.comp {C:cE}{G G1:Gh}{w w1:World}{a a1:Act}{e:aJ}{st':St}{ex:Exit}{a':Act}{w':World}(h:cx G w G1 w1)(hd:a1.defers=a.defers)(k:Good C G1 w1 a1 e st' ex a' w'):Good C G w a e st' ex a' w':=by
 obtain⟨G',h1,h2,h3⟩:=k;exact⟨G',cx.comp h h1,h2.trans hd,h3⟩
theorem put_defers (a:Act)(d:Option Tmp)(x:Value):(a.put d x).defers=a.defers:=by cases d<;>rfl
theorem SR.put {G:Gh}{slots:List TV}{a:Act}{v:TV}{x:Value}(h:SR G slots a)(d:Option Tmp)(hv:VR G v x):SR G (cI slots d v) (a.put d x):=by
 cases d with
 |none=>exact h
 | some d=>
   refine⟨by have:=h.1;simp at this;simp[Act.put,cI,nH,this],λj c u hc hu=> ?_⟩
   simp only[cI,nH] at hc
   simp only[Act.put,Array.toList_setIfInBounds] at hu
   rw[List.getElem?_set] at hc hu
   by_cases e:d=j
   · subst e
     simp only[if_true] at hc hu
     split at hc
     · simp at hc;subst hc
       split at hu
       · simp at hu;subst hu;exact hv
       · simp at hu
     · simp at hc
   · rw[if_neg e] at hc hu
     exact h.2 j c u hc hu
theorem SR.mono {G G':Gh}{slots:List TV}{a:Act}(h:SR G slots a)(hG:G.le G'):SR G' slots a:=cr.mono hG h
theorem tV.unwanted {C:cE}{G:Gh}{w:World}{st:St}{a:Act}(h:tV C G w st a)(d:Option Tmp):tV C G w {st with slots:=cI st.slots d bR,tick:=st.tick+1} (a.put d undef):=
 ⟨h.wf,h.iC,h.slots.put d (mB G),h.heap,h.fresh.mono (Nat.le_succ _)⟩
theorem tV.op {C:cE}{G G':Gh}{w w':World}{st:St}{a:Act}{v:TV}{u:Heap}{x:Value}(h:tV C G w st a)(d:Option Tmp)(hs:Step (λk=>k∈u.map (·.1)) (λk=>∃p,k=.loc (st.tick::p)) G w G' w')
 (hu:∀k ob,(k,ob)∈u->G'.dom k/\OR G' w' k ob)(hv:VR G' v x):tV C G' w' {slots:=cI st.slots d v,H:=st.H.dH u,tick:=st.tick+1} (a.put d x):=
 ⟨hs.wf,h.iC.mono hs.le,(h.slots.mono hs.le).put d hv,HR.dH hs h.wf h.heap hu (λk _ hk=>hk),h.fresh.step hs⟩
theorem HR.sC {G:Gh}{w:World}{H:Heap}(h:HR G w H)(ks:List Nm):HR G w (H.sC ks):=by
 intro k o hk;rw[Heap.ur] at hk;split at hk
 ·simp at hk
 ·exact h k o hk
theorem HR.panicked {N:Nm->Prop}{G G':Gh}{w w':World}{H:Heap}{u:Heap}{l:List Nm}(hw:WF G w)(hH:HR G w H)(hs:Step (λk=>k∈u.map (·.1)++l) N G w G' w')
 (hu:∀k ob,(k,ob)∈u->G'.dom k/\OR G' w' k ob):HR G' w' ((H.sC l).dH u):=by
 intro k o hk
 rcases Heap.rA (H.sC l) u k o hk with h1|⟨h1,hn⟩
 ·exact hu k o h1
 ·rw[Heap.ur] at h1;split at h1
  ·simp at h1
  ·rename_i hl;obtain⟨d,ho⟩:=hH k o h1;exact⟨hs.le.dom _ d,hs.keeps hw d (λx=>by rcases List.mem_append.1 x with x|x;exact hn x;exact hl x) ho⟩
theorem Vo {C:cE}{ev:aX}(az:aF C ev){f:FuncId}{ops:Array Oper}:∀(l:List Oper) (st:St) (e:aJ) (st':St),AN C ev f ops l st=some (e,st')->∀(G:Gh) (w:World) (a:Act),tV C G w st a->
 ∀Q:Exit->Act->World->Prop,(∀ex a' w',Good C G w a e st' ex a' w'->Q ex a' w')->wpList C.P ops Q l a w:=by
 intro l
 induction l with
 | nil=>
   intro st e st' h G w a hst Q hQ
   simp[AN] at h
   obtain⟨rfl,rfl⟩:=h
   exact hQ _ _ _ ⟨G,Step.refl hst.wf _ _,rfl,rfl,hst⟩
 | cons o r ih=>
   intro st e st' h G w a hst Q hQ
   simp only[AN] at h
   refine wpList_step λK hK=> ?_
   split at h
   · simp at h
   · rename_i hwn
     rw[ie hwn hst.slots]
     refine hK _ _ (ih _ _ _ h G w _ (hst.unwanted o.dst) Q λex a' w' hg=>hQ _ _ _ (Good.comp (Step.refl hst.wf _ _) (put_defers _ _ _) hg))
   · rename_i hwn
     rw[ie hwn hst.slots]
     simp only[if_true]
     split at h
     · simp at h
     · rename_i v u hx
       refine(qa az hx hst.wf hst.iC hst.slots hst.heap hst.fresh.not).wp kY.no (λx w' hr=> ?_) (λch w' hr=> ?_)
       · obtain⟨x',G',e1,hs,hu,hv⟩:=hr
         simp at e1;subst e1
         exact hK _ _ (ih _ _ _ h G' w' _ (hst.op o.dst hs hu hv) Q λex a' w'' hg=>hQ _ _ _ (Good.comp hs.any (put_defers _ _ _) hg))
       · obtain⟨x',G',e1,_⟩:=hr
         simp at e1
     · rename_i v u l hx
       simp at h
       obtain⟨rfl,rfl⟩:=h
       refine(qa az hx hst.wf hst.iC hst.slots hst.heap hst.fresh.not).wp kY.no (λx w' hr=> ?_) (λch w' hr=> ?_)
       · obtain⟨x',G',e1,_⟩:=hr
         simp at e1
       · obtain⟨x',G',e1,hs,hu,hv⟩:=hr
         simp at e1;subst e1
         exact hQ _ _ _ ⟨G',hs.any,rfl,x',rfl,hv,HR.panicked hst.wf hst.heap hs hu,hst.slots.mono hs.le,_,hst.fresh.step hs⟩
end Go.Abs
namespace Go.Abs
open Go
theorem Vp {es:List Edge}{acc:List Nat}{i:Nat}:∀{s:Nat},(es.foldl (λs e=>if Region.binds .any e then s|||2 ^ e.on|||acc.getD e.on 0 else s) s).testBit i=true->
 s.testBit i=true\/∃e∈es,Region.binds .any e=true/\(e.on=i\/(acc.getD e.on 0).testBit i=true):=by
 induction es with
 |nil=>intro s h;exact .inl h
 | cons e r ih=>
   intro s h
   simp only[List.foldl_cons] at h
   rcases ih h with h|⟨e',h1,h2⟩
   · by_cases hb:Region.binds .any e=true
     · rw[if_pos hb] at h
       rw[Nat.testBit_or,Nat.testBit_or] at h
       simp only[Bool.or_eq_true] at h
       rcases h with (h|h)|h
       · exact .inl h
       · rw[Nat.testBit_two_pow] at h
         exact .inr ⟨e,List.mem_cons_self,hb,.inl (by simpa using h)⟩
       · exact .inr ⟨e,List.mem_cons_self,hb,.inr h⟩
     · rw[if_neg hb] at h;exact .inl h
   · exact .inr ⟨e',List.mem_cons_of_mem _ h1,h2⟩
theorem Ee:∀(l:List Oper) (acc:List Nat),(kX l acc).length=acc.length+l.length/\(∀j,j<acc.length->(kX l acc)[j]?=acc[j]?)/\
 ∀j o i,l[j]?=some o->fW (kX l acc) i (acc.length+j)=true->∃e∈o.after.toList,Region.binds .any e=true/\(e.on=i\/(e.on<acc.length+j/\fW (kX l acc) i e.on=true)):=by
 intro l
 induction l with
 |nil=>intro acc;simp[kX]
 | cons o r ih=>
   intro acc
   simp only[kX]
   generalize hx:o.after.toList.foldl (λs e=>if Region.binds .any e then s|||2 ^ e.on|||acc.getD e.on 0 else s) 0=x
   obtain⟨h1,h2,h3⟩:=ih (acc++[x])
   refine⟨by rw[h1];simp;omega,λj hj=>by rw[h2 j (by simp;omega),List.getElem?_append_left hj],λj o' i hj hb=> ?_⟩
   cases j with
   | zero=>
     simp at hj
     subst hj
     unfold fW at hb
     have e0:(kX r (acc++[x]))[acc.length]?=some x:=by
       rw[h2 acc.length (by simp)]
       simp
     rw[Nat.add_zero,List.getD,e0] at hb
     simp only[Option.getD_some] at hb
     rw[← hx] at hb
     rcases Vp hb with h|⟨e,he,hbd,h⟩
     · simp at h
     · refine⟨e,he,hbd,h.imp id λh=> ?_⟩
       have hl:e.on<acc.length:=by
         rcases Nat.lt_or_ge e.on acc.length with h'|h'
         · exact h'
         · simp[List.getD,List.getElem?_eq_none h'] at h
       refine⟨by omega, ?_⟩
       unfold fW
       rw[List.getD,h2 e.on (by simp;omega),List.getElem?_append_left hl]
       exact h
   | succ j=>
     have:=h3 j o' i (by simpa using hj) (by rw[show(acc++[x]).length+j=acc.length+(j+1) from by simp;omega];exact hb)
     rw[show(acc++[x]).length+j=acc.length+(j+1) from by simp;omega] at this
     exact this
theorem NH:∀{l:List Oper} {i:Nat},sF i l=true->∀j o,l[j]?=some o->∀e∈o.after.toList,Region.binds .any e=true->e.on<i+j:=by
 intro l;induction l with
 |nil=>intro i _ j o h;simp at h
 | cons x r ih=>
  intro i h j o hj e he hb
  simp only[sF,Bool.and_eq_true] at h
  cases j with
  |zero=>
   simp at hj;subst hj
   have:=List.all_eq_true.1 h.1 e he
   simp[hb] at this
   omega
  |succ j=>
   have:=ih h.2 j o (by simpa using hj) e he hb
   omega
theorem J7 {ops:Array Oper}{b:Nat}{j:Oper}{rj:Rec}:∀{xs:List Oper} {rs:List Rec} {i:Nat},xU ops b j rj i xs rs=true->∀k x r,xs[k]?=some x->rs[k]?=some r->b.testBit (i+k)=true\/qU ops x j r rj=true:=by
 intro xs;induction xs with
 |nil=>intro rs i _ k x r h;simp at h
 | cons x xs ih=>
  intro rs i h k y r hx hr
  cases rs with
  |nil=>simp at hr
  | cons r0 rs=>
   simp only[xU,Bool.and_eq_true,Bool.or_eq_true] at h
   cases k with
   |zero=>simp at hx hr;subst hx;subst hr;exact h.1
   |succ k=>
    have:=ih h.2 k y r (by simpa using hx) (by simpa using hr)
    rw[show i+1+k=i+(k+1) from by omega] at this
    exact this
theorem FI {ops:Array Oper}{l:List Oper}{recs:List Rec}:∀{bs:List Nat} {os:List Oper} {rs:List Rec} {n:Nat},lT ops l recs bs os rs n=true->
 ∀k b o r,bs[k]?=some b->os[k]?=some o->rs[k]?=some r->xU ops b o r 0 (l.take (n+k)) (recs.take (n+k))=true:=by
 intro bs
 induction bs with
 |nil=>intro os rs n _ k b o r h;simp at h
 | cons b bs ih=>
  intro os rs n h k b' o r hb ho hr
  cases os with
  |nil=>simp at ho
  | cons o0 os=>
   cases rs with
   |nil=>simp at hr
   | cons r0 rs=>
    simp only[lT,Bool.and_eq_true] at h
    cases k with
    |zero=>simp at hb ho hr;subst hb;subst ho;subst hr;exact h.1
    |succ k=>
     have:=ih h.2 k b' o r (by simpa using hb) (by simpa using ho) (by simpa using hr)
     rw[show n+1+k=n+(k+1) from by omega] at this
     exact this
noncomputable def gR (l:List Oper)(recs:List Rec)(s0:sD)(D:Nat->Bool):Nat->sD
 |0=>s0
 |n+1=>match l[n]?,recs[n]? with
  |some o,some r=>if D n then(gR l recs s0 D n).after o r.res else gR l recs s0 D n
  |_,_=>gR l recs s0 D n
section
variable {l:List Oper}{recs:List Rec}{s0:sD}
theorem B2 {slots:List TV}{d:Option Tmp}{v:TV}{t:Nat}(h:d≠some t):(cI slots d v)[t]?=slots[t]?:=by
 cases d with
 |none=>rfl
 |some d=>simp only[cI,nH];rw[List.getElem?_set];simp at h;simp[h]
theorem wZ {s:sD}{o:Oper}{r:AO}{t:Nat}(h:o.dst≠some t):(s.after o r).slots[t]?=s.slots[t]?:=by
 cases r<;>simp only[sD.after]<;>first|rfl|exact B2 h
theorem DD {slots FJ:List TV}{d:Option Tmp}{v:TV}{t:Nat}(h:slots[t]?=FJ[t]?):(cI slots d v)[t]?=(cI FJ d v)[t]?:=by
 cases d with
 |none=>exact h
 | some d=>
   simp only[cI,nH]
   rw[List.getElem?_set,List.getElem?_set]
   by_cases e:d=t
   · subst e
     simp only[if_true]
     by_cases h1:d<slots.length
     · have:d<FJ.length:=by
         rw[List.getElem?_eq_getElem h1] at h
         exact(List.getElem?_eq_some_iff.1 h.symm).1
       simp[h1,this]
     · rw[List.getElem?_eq_none (Nat.le_of_not_lt h1)] at h
       have:=List.getElem?_eq_none_iff.1 h.symm
       have h2:¬d<FJ.length:=Nat.not_lt.2 this
       simp[h1,h2]
   · simp[e,h]
theorem ni {s s':sD}{o:Oper}{r:AO}{t:Nat}(h:s.slots[t]?=s'.slots[t]?):(s.after o r).slots[t]?=(s'.after o r).slots[t]?:=by
 cases r<;>simp only[sD.after]<;>first|exact h|exact DD h
theorem DE {H H':Heap}{k k':Nm}{o:aO}(h:H.get k=H'.get k):(H.put k' o).get k=(H'.put k' o).get k:=by
 rw[Heap.xX,Heap.xX,h]
theorem B3 {H H':Heap}{k:Nm}:∀{u:Heap},H.get k=H'.get k->(H.dH u).get k=(H'.dH u).get k:=by
 intro u;induction u generalizing H H' with
 |nil=>intro h;exact h
 |cons p r ih=>intro h;exact ih (DE h)
theorem FK {H:Heap}{k:Nm}:∀{u:Heap},k∉u.map (·.1)->(H.dH u).get k=H.get k:=by
 intro u;induction u generalizing H with
 |nil=>intro _;rfl
 |cons p r ih=>
  intro h
  simp only[List.map_cons,List.mem_cons,not_or] at h
  have e:(H.dH (p::r))=(H.put p.1 p.2).dH r:=rfl
  rw[e,ih h.2,Heap.xX,if_neg (λx=>h.1 x.symm)]
theorem Ef {s:sD}{o:Oper}{r:AO}{k:Nm}(h:k∉r.keys):(s.after o r).H.get k=s.H.get k:=by
 cases r<;>simp only[sD.after]<;>first|rfl|exact FK h
theorem oz {s s':sD}{o:Oper}{r:AO}{k:Nm}(h:s.H.get k=s'.H.get k):(s.after o r).H.get k=(s'.after o r).H.get k:=by
 cases r<;>simp only[sD.after]<;>first|exact h|exact B3 h
theorem ye {D D':Nat->Bool}{t:Nat}:∀{n:Nat},(∀j o,j<n->l[j]?=some o->o.dst=some t->D j=D' j)->(gR l recs s0 D n).slots[t]?=(gR l recs s0 D' n).slots[t]?:=by
 intro n;induction n with
 |zero=>intro _;rfl
 | succ n ih=>
   intro h
   have Hv:=ih λj o hj=>h j o (by omega)
   simp only[gR]
   split
   · rename_i o r ho hr
     by_cases hd:o.dst=some t
     · rw[h n o (by omega) ho hd]
       split
       · exact ni Hv
       · exact Hv
     · split<;>split<;>first|exact ni Hv|exact Hv|(rw[wZ hd];exact Hv)
   · exact Hv
theorem vE {D D':Nat->Bool}{k:Nm}:∀{n:Nat},(∀j r,j<n->recs[j]?=some r->k∈r.res.keys->D j=D' j)->(gR l recs s0 D n).H.get k=(gR l recs s0 D' n).H.get k:=by
 intro n;induction n with
 |zero=>intro _;rfl
 | succ n ih=>
   intro h
   have Hv:=ih λj o hj=>h j o (by omega)
   simp only[gR]
   split
   · rename_i o r ho hr
     by_cases hd:k∈r.res.keys
     · rw[h n r (by omega) hr hd]
       split
       · exact oz Hv
       · exact Hv
     · split<;>split<;>first|exact oz Hv|exact Hv|(rw[Ef hd];exact Hv)
   · exact Hv
theorem B4 {slots:List TV}{d:Option Tmp}{v:TV}:(cI slots d v).length=slots.length:=by cases d<;>simp[cI,nH]
theorem after_length {s:sD}{o:Oper}{r:AO}:(s.after o r).slots.length=s.slots.length:=by
 cases r<;>simp[sD.after,B4]
theorem B5 {D:Nat->Bool}:∀{n:Nat},(gR l recs s0 D n).slots.length=s0.slots.length:=by
 intro n;induction n with
 |zero=>rfl
 | succ n ih=>
   simp only[gR]
   split
   · split
     · rw[after_length];exact ih
     · exact ih
   · exact ih
theorem qb {D:Nat->Bool}{m:Nat}:∀{n:Nat},m<=n->(∀j,m<=j->j<n->D j=false)->gR l recs s0 D n=gR l recs s0 D m:=by
 intro n;induction n with
 |zero=>   intro h _;have:m=0:=by omega
           subst this;rfl
 | succ n ih=>
   intro h hD
   by_cases e:m=n+1
   · subst e;rfl
   · have Hv:=ih (by omega) λj h1 h2=>hD j h1 (by omega)
     simp only[gR]
     rw[hD n (by omega) (by omega)]
     split<;>simp[Hv]
theorem vF {D D':Nat->Bool}:∀{n:Nat},(∀j,j<n->D j=D' j)->gR l recs s0 D n=gR l recs s0 D' n:=by
 intro n;induction n with
 |zero=>intro _;rfl
 |succ n ih=>
  intro h
  simp only[gR]
  rw[ih λj hj=>h j (by omega),h n (by omega)]
theorem NI {D:Nat->Bool}(hD:∀j,D j=true):∀{os:List Oper} {rs:List Rec} {i:Nat},os.length=rs.length->(∀j,os[j]?=l[i+j]?)->(∀j,rs[j]?=recs[i+j]?)->xV os rs (gR l recs s0 D i)=gR l recs s0 D (i+os.length):=by
 intro os;induction os with
 |nil=>intro rs i hl _ _;cases rs<;>simp at hl;rfl
 | cons o os ih=>
  intro rs i hl h1 h2
  cases rs with
  |nil=>simp at hl
  | cons r rs=>
   have e1:=h1 0
   have e2:=h2 0
   simp at e1 e2
   simp only[xV]
   have:(gR l recs s0 D i).after o r.res=gR l recs s0 D (i+1):=by
    simp only[gR,← e1,← e2,hD i,if_true]
   rw[this,ih (by simpa using hl) (λj=>by have:=h1 (j+1);simpa [Nat.add_assoc,Nat.add_comm 1 j] using this) (λj=>by have:=h2 (j+1);simpa [Nat.add_assoc,Nat.add_comm 1 j] using this)]
   congr 1
   simp;omega
def zD (recs:List Rec):Nat->Option Nat
 |0=>none
 |n+1=>match recs[n]? with
  |some r=>j8 n (zD recs n) r.res
  |none=>zD recs n
theorem NJ:∀{n j:Nat},zD recs n=some j->j<n/\∃r v u lo,recs[j]?=some r/\r.res=.panic v u lo:=by
 intro n;induction n with
 |zero=>intro j h;simp[zD] at h
 | succ n ih=>
   intro j h
   simp only[zD] at h
   split at h
   · rename_i r hr
     unfold j8 at h
     split at h
     · rename_i v u lo hp;simp at h;subst h;exact⟨by omega,r,v,u,lo,hr,hp⟩
     · obtain⟨h1,h2⟩:=ih h;exact⟨by omega,h2⟩
   · obtain⟨h1,h2⟩:=ih h;exact⟨by omega,h2⟩
theorem An:∀{n j:Nat} {r:Rec} {v:TV} {u:Heap} {lo:List Nm},j<n->recs[j]?=some r->r.res=.panic v u lo->(zD recs n).isSome=true:=by
 intro n;induction n with
 |zero=>intro j r v u lo h;omega
 | succ n ih=>
   intro j r v u lo h hr hp
   simp only[zD]
   by_cases e:j=n
   · subst e
     simp[hr,hp,j8]
   · have:=ih (j:=j) (by omega) hr hp
     split
     · unfold j8
       split
       · rfl
       · exact this
     · exact this
theorem Vq {C:cE}{ev:aX}{f:FuncId}{ops:Array Oper}{bs:List Nat}{t0:Nat}{D:Nat->Bool}(hD:∀j,D j=true):∀{os:List Oper} {rs:List Rec} {i:Nat},
 AP C ev f ops bs t0 i os (gR l recs s0 D i) (zD recs i)=some rs->(∀j,os[j]?=l[i+j]?)->(∀j,rs[j]?=recs[i+j]?)->
 rs.length=os.length/\∀j o,os[j]?=some o->∃r,rs[j]?=some r/\PG C ev f ops bs t0 (i+j) o (gR l recs s0 D (i+j)) (zD recs (i+j))=some r:=by
 intro os
 induction os with
 |nil=>intro rs i h _ _;simp[AP] at h;subst h;simp
 | cons o os ih=>
  intro rs i h h1 h2
  simp only[AP] at h
  split at h
  · simp at h
  rename_i rec Vr
  split at h
  case h_2=>simp at h
  rename_i rs' hrs
  simp at h
  subst h
  have e1:=h1 0
  have e2:=h2 0
  simp at e1 e2
  have es:(gR l recs s0 D i).after o rec.res=gR l recs s0 D (i+1):=by
   simp only[gR,← e1,← e2,hD i,if_true]
  have ep:j8 i (zD recs i) rec.res=zD recs (i+1):=by
   simp only[zD,← e2]
  rw[es,ep] at hrs
  obtain⟨h3,h4⟩:=ih hrs (λj=>by have:=h1 (j+1);simpa [Nat.add_assoc,Nat.add_comm 1 j] using this) (λj=>by have:=h2 (j+1);simpa [Nat.add_assoc,Nat.add_comm 1 j] using this)
  refine⟨by simp[h3],λj o' hj=> ?_⟩
  cases j with
  |zero=>simp at hj;subst hj;exact⟨rec,rfl,Vr⟩
  |succ j=>
   obtain⟨r,a,b⟩:=h4 j o' (by simpa using hj)
   refine⟨r,by simpa using a, ?_⟩
   rw[show i+(j+1)=i+1+j from by omega]
   exact b
theorem FL:∀{rs:List Rec} {i:Nat},jw i rs=none->∀r∈rs,∀v u lo,r.res≠ .panic v u lo:=by
 intro rs;induction rs with
 |nil=>intro i _ r h;simp at h
 | cons x rs ih=>
   intro i h r hr v u lo e
   simp only[jw] at h
   split at h
   · simp at h
   · rename_i hne
     rcases List.mem_cons.1 hr with rfl|hr
     · exact hne _ _ _ e
     · exact ih h r hr v u lo e
theorem yf:∀{rs:List Rec} {i j:Nat} {v:TV} {u:Heap} {lo:List Nm},jw i rs=some (j,v,u,lo)->∃k r,j=i+k/\rs[k]?=some r/\r.res=.panic v u lo:=by
 intro rs;induction rs with
 |nil=>intro i j v u lo h;simp[jw] at h
 | cons x rs ih=>
   intro i j v u lo h
   simp only[jw] at h
   split at h
   · rename_i v' u' lo' hx
     simp at h
     obtain⟨rfl,rfl,rfl,rfl⟩:=h
     exact⟨0,x,rfl,rfl,hx⟩
   · obtain⟨k,r,h1,h2,h3⟩:=ih h
     exact⟨k+1,r,by omega,by simpa using h2,h3⟩
theorem J8 {b:Nat}{k:Nm}:∀{rs:List Rec} {i:Nat},k∉wU b i rs->∀j r,rs[j]?=some r->k∈r.res.keys->b.testBit (i+j)=true:=by
 intro rs;induction rs with
 |nil=>intro i _ j r h;simp at h
 | cons x rs ih=>
  intro i h j r hr hk
  simp only[wU,List.mem_append,not_or] at h
  cases j with
  |zero=>
   simp at hr;subst hr
   by_cases hb:b.testBit i=true
   · exact hb
   · rw[if_neg hb] at h;exact absurd hk h.1
  |succ j=>
   have:=ih h.2 j r (by simpa using hr) hk
   rw[show i+1+j=i+(j+1) from by omega] at this
   exact this
end
theorem rF {L:List Nat}:∀{slots:List TV} {i j:Nat},(jq L i slots)[j]?=if i+j∈L then slots[j]? else(slots[j]?).map λ_=>bR:=by
 intro slots;induction slots with
 |nil=>intro i j;simp[jq]
 | cons v r ih=>
  intro i j
  simp only[jq]
  cases j with
  |zero=>by_cases hi:i∈L<;>simp[hi]
  |succ j=>
   simp only[List.getElem?_cons_succ]
   rw[ih,show i+1+j=i+(j+1) from by omega]
theorem FM {L:List Nat}:∀{slots:List TV} {i:Nat},(jq L i slots).length=slots.length:=by
 intro slots;induction slots with
 |nil=>intro i;rfl
 |cons v r ih=>intro i;simp[jq,ih]
theorem HZ {L:List Nat}{s s':List TV}(hl:s.length=s'.length)(h:∀t∈L,s[t]?=s'[t]?):jq L 0 s=jq L 0 s':=by
 apply List.ext_getElem?;intro j;rw[rF,rF,Nat.zero_add];split
 ·rename_i hj;exact h j hj
 ·by_cases hj:j<s.length
  ·rw[List.getElem?_eq_getElem hj,List.getElem?_eq_getElem (by omega:j<s'.length)];rfl
  ·rw[List.getElem?_eq_none (by omega),List.getElem?_eq_none (by omega:s'.length<=j)]
def yg (L:List Nat)(a:Act):Act:={a with tmps:=(a.tmps.toList.zipIdx.map λp=>if L.contains p.2 then p.1 else undef).toArray}
theorem zE {L:List Nat}{a:Act}{t:Nat}:(yg L a).tmps[t]?=(a.tmps[t]?).map λv=>if L.contains t then v else undef:=by
 unfold yg;simp only[List.getElem?_toArray,List.getElem?_map,List.getElem?_zipIdx];cases h:a.tmps[t]? <;>simp[h]
theorem Vs {G:Gh}{slots:List TV}{a:Act}(h:SR G slots a)(L:List Nat):SR G (jq L 0 slots) (yg L a):=by
 refine⟨by have:=h.1;rw[FM];simp[yg,← this],λj c v hc hv=> ?_⟩;rw[rF,Nat.zero_add] at hc;have uy:(yg L a).tmps[j]?=some v:=by simpa using hv
 rw[zE] at uy;cases ha:a.tmps[j]? with
 |none=>simp[ha] at uy
 | some u=>
   simp[ha] at uy
   by_cases hj:j∈L
   · simp only[hj,if_true] at hc uy
     subst uy
     exact h.2 j c u hc (by simpa using ha)
   · simp only[hj,if_false] at hc uy
     subst uy
     cases hs:slots[j]? with
     |none=>simp[hs] at hc
     |some x=>simp[hs] at hc;subst hc;exact mB G
theorem NK {L:List Nat}{a:Act}{x:Operand}(h:∀t,x=.tmp t->t∈L):(yg L a).eval x=a.eval x:=by
 cases x with
 |tmp t=>
  have:=h t rfl
  simp only[Act.eval]
  rw[Array.getD_eq_getD_getElem?,Array.getD_eq_getD_getElem?,zE]
  cases ha:a.tmps[t]? <;>simp[this]
 |_=>rfl
theorem Eg {ops:Array Oper}{o:Oper}{a:Act}(hs:∀cs b,o.op≠ .select cs b):execOp (yg (o.looksAt ops) a).eval o=execOp a.eval o:=
 execOp_congr o hs λx hx=>NK λt e=>by
  subst e;exact List.mem_append_left _ (List.mem_filterMap.2 ⟨.tmp t,by simpa using hx,rfl⟩)
theorem uF {ops:Array Oper}{o:Oper}{a:Act}:Region.wanted o (yielded ops (yg (o.looksAt ops) a).tmps)=Region.wanted o (yielded ops a.tmps):=by
 unfold Region.wanted;cases hg:o.guard with
 |none=>rfl
 | some gw=>
  obtain⟨g,want⟩:=gw
  have hy:yielded ops (yg (o.looksAt ops) a).tmps g=yielded ops a.tmps g:=by
   unfold yielded
   cases ht:(ops[g]?).bind (·.dst) with
   |none=>rfl
   |some t=>
    have hm:t∈o.looksAt ops:=by simp[Oper.looksAt,hg,ht]
    simp only[Option.bind_some]
    rw[zE]
    cases ha:a.tmps[t]? <;>simp[hm]
  simp only[hy]
theorem NL {H:Heap}{k:Nm}{o:aO}:∀{fp:List Nm},(l9 H fp).get k=some o->k∈fp/\H.get k=some o:=by
 intro fp;induction fp with
 |nil=>intro h;simp[l9,Heap.get] at h
 | cons x r ih=>
   intro h
   unfold l9 at h
   rw[List.filterMap_cons] at h
   cases hx:H.get x with
   | none=>
     simp only[hx,Option.map_none] at h
     obtain⟨h1,h2⟩:=ih h
     exact⟨List.mem_cons_of_mem _ h1,h2⟩
   | some y=>
     simp only[hx,Option.map_some,Heap.get] at h
     split at h
     · rename_i e;simp at h;subst h;subst e;exact⟨List.mem_cons_self,hx⟩
     · obtain⟨h1,h2⟩:=ih h
       exact⟨List.mem_cons_of_mem _ h1,h2⟩
end Go.Abs
