/- The operations are right, one and all. -/
import Derived.Test.YtfdnciimclnncaaGreatDoorB
import Derived.Tactics
import Derived.Orders
set_option linter.unusedVariables false
set_option linter.unusedSimpArgs false
namespace Go.Abs
open Go
section
variable {C:ez}{f:FuncId}{nm:Nm}{H:Heap}{slots:List TV}{a:Act}{w:World}{G:Gh}{v:TV}
theorem A3 {o:Oper}{t:TypeId}{m k x:TV}{xm xk xx:Operand}{u:List (Nm×aP)}(hw:WF G w)(hH:HR G w H)(ho:o.op=.mapUpdate t xm xk xx\/o.op=.insert t xm xk xx)(hm:VR G m (a.eval xm))(hk:VR G k (a.eval xk))(hx:VR G x (a.eval xx))
 (h:kU C.P H t m k x=some u):eu C.P nm o a w G dh u:=by
 unfold kU at h
 split at h
 ·rename_i ti mm ht;split at h
  ·rename_i kt et es c hd Ys;cases U3:bx C.P kt<;>simp only[U3,reduceCtorEq] at h;rename_i tk;split at h
   ·rename_i hko;obtain⟨uM,har,ck,hh,hmr,hF⟩:=hH mm _ Ys;have hmv:a.eval xm=.map (some (G.mu mm)):=by generalize a.eval xm=z at hm;cases hm;rfl
    have fin:∀r,ox C.P kt tk.desc k es 0=some r->u=[(mm,.map (ad0 k x es c r) (aic c r))]->eu C.P nm o a w G dh u:=by
     intro r hf hu;obtain⟨PW,c',hrun,ap2,hc⟩:=Lv hw hH ht hd Ys U3 hko hk hx hf;have hor:OR G {w with heap:=w.heap.setIfInBounds (G.mu mm) (.map PW c')} mm (.map (ad0 k x es c r) (aic c r)):=by
      rw[← hc];exact Ns hw uM har hF ap2
     refine eu.HQ (w':={w with heap:=w.heap.setIfInBounds (G.mu mm) (.map PW c')}) (G':=G) ?_ ((CF hw uM (Gh.kS har) hh hF _).mono (λx _ e=>by simp[hu,e]) (λ_ e=>e.elim)) ?_
     ·rcases ho with ho|ho<;>simp[execOp,ho,hmv,hrun]
     ·intro k' ob hmem;rw[hu] at hmem;simp at hmem;obtain⟨rfl,rfl⟩:=hmem;exact⟨uM,hor⟩
    split at h
    ·rename_i i v0 b hf;simp at h;exact fin _ hf h.symm
    ·rename_i hf;simp at h;exact fin _ hf h.symm
    ·simp at h
   ·simp at h
  ·simp at h
 ·simp at h
theorem Nt {o:Oper}{t:TypeId}{m k:TV}{xm xk:Operand}{u:List (Nm×aP)}(hw:WF G w)(hH:HR G w H)(ho:o.op=.mapEntry t xm xk)(hm:VR G m (a.eval xm))(hk:VR G k (a.eval xk))
 (h:nV C.P H t m k=some (v,u)):eu C.P nm o a w G v u:=by
 unfold nV at h
 split at h
 ·rename_i ti mm ht;obtain⟨_,_,hu,_⟩:=bS ht;split at h
  ·rename_i kt et es c hd Ys;rw[hd] at hu;have mX:=aT hu w;split at h
   ·rename_i tk te U3 hte;split at h
    ·rename_i hko;obtain⟨uM,har,ck,hh,hmr,hF⟩:=hH mm _ Ys;have hmv:a.eval xm=.map (some (G.mu mm)):=by generalize a.eval xm=z at hm;cases hm;rfl
     obtain⟨kv,hku,hck⟩:=E2 hko w;have hkv:=o6 hku hk;split at h
     ·rename_i i v0 b hf;simp at h;obtain⟨rfl,rfl⟩:=h;obtain⟨r',hr1,hr2⟩:=wo U3 hku hmr hf w;cases r' with
      |none=>exact absurd hr2 id
      |some y'=>
      obtain⟨i',x0⟩:=y';obtain⟨rfl,p,e,k',hip,he,A2,rfl,hve,hb,WR⟩:=hr2;have aid:i=p:=by omega
      subst aid;have hbb:e.born=b:=hb;have he':ck[i]?=some e:=by simpa using he
      have hkey:(((ck[i]?).map (·.key)).getD kv)=e.key:=by rw[he'];rfl
      have asC:(((ck[i]?).map (·.born)).getD 0)=b:=by rw[he'];exact hb
      have Y6:(Instr.keyThatStays e.key kv).run C.P w=.ok kv w:=by simp[Instr.keyThatStays,WR]
      refine eu.gK (w':={w with heap:=w.heap.setIfInBounds (G.mu mm) (.map (ck.modify i λe=>{e with key:=kv}) c)}) (G':=G) (x:=.tuple #[e.val,.int .i64 (b:Int)]) ?_ ((CF hw uM (Gh.kS har) hh hF _).mono (λx _ e=>by simp[e]) (λ_ e=>e.elim)) ?_ (o5 (ec.cons hve (ec.one (.t _ _ (.int _ _)))))
      ·simp only[execOp,ho,hmv,hkv,Instr.mapEntry,Sem.run_bind,mX,Result.andThen_ok,mq hh,hck,hr1];rw[hkey,Y6];simp[tI hh,goInt];rw[he'];simp[hbb]
      ·intro k'' ob hmem;simp at hmem;obtain⟨rfl,rfl⟩:=hmem;refine⟨uM,Ns hw uM har hF ?_⟩;rw[By _ he'];exact hmr.set A2 he (by rw[← hkv];exact hk) hve
     ·rename_i z hf hz;simp at h;obtain⟨rfl,rfl⟩:=h;obtain⟨r',hr1,hr2⟩:=wo U3 hku hmr hf w;cases r' with
      |some _=>exact absurd hr2 id
      |none=>
      obtain⟨zv,hz1,SN⟩:=gF hte hz w G;refine eu.gK (w':={w with heap:=w.heap.setIfInBounds (G.mu mm) (.map (ck.push {key:=kv,val:=zv,born:=c}) (c+1))}) (G':=G) (x:=.tuple #[zv,.int .i64 (c:Int)]) ?_ ((CF hw uM (Gh.kS har) hh hF _).mono (λx _ e=>by simp[e]) (λ_ e=>e.elim)) ?_ (o5 (ec.cons SN (ec.one (.t _ _ (.int _ _)))))
      ·simp only[execOp,ho,hmv,hkv,Instr.mapEntry,Sem.run_bind,mX,Result.andThen_ok,mq hh,hck,hr1];simp[hz1,tI hh,goInt]
      ·intro k'' ob hmem;simp at hmem;obtain⟨rfl,rfl⟩:=hmem;refine⟨uM,Ns hw uM har hF ?_⟩;simpa using hmr.push (by rw[← hkv];exact hk) SN
     ·simp at h
    ·simp at h
   ·simp at h
  ·simp at h
 ·simp at h
theorem Nu:∀{es:List (TV×TV×Nat)} {n:Int} {i j:Nat},sK es n i=some j->∃p,j=i+p/\(∃k x b,es[p]?=some (k,x,b)/\(b:Int)=n)/\∀q,q<p->∀k x b,es[q]?=some (k,x,b)->(b:Int)≠n:=by
 intro es;induction es with
 |nil=>intro n i j h;simp[sK] at h
 | cons e r ih=>
   intro n i j h
   obtain⟨k,x,b⟩:=e
   simp only[sK] at h
   split at h
   · rename_i hb
     simp at h
     exact⟨0,by omega,⟨k,x,b,rfl,hb⟩,λq hq=>by omega⟩
   · rename_i hb
     obtain⟨p,h1,h2,h3⟩:=ih h
     refine⟨p+1,by omega,by simpa using h2,λq hq k' x' b' hqe=> ?_⟩
     cases q with
     |zero=>simp at hqe;obtain⟨_,_,rfl⟩:=hqe;exact hb
     |succ q=>exact h3 q (by omega) k' x' b' (by simpa using hqe)
theorem MR.get:∀{es:List (TV×TV×Nat)} {ck:List MapEntry} {p:Nat} {k x:TV} {b:Nat},MR G es ck->es[p]?=some (k,x,b)->∃e,ck[p]?=some e/\VR G k e.key/\VR G x e.val/\e.born=b:=by
 intro es;induction es with
 |nil=>intro ck p k x b h h1;simp at h1
 | cons q r ih=>
  intro ck p k x b h h1
  obtain⟨k0,v0,b0⟩:=q
  cases ck with
  |nil=>simp[MR] at h
  |cons e0 es'=>
   simp only[MR] at h
   cases p with
   |zero=>simp at h1;obtain⟨rfl,rfl,rfl⟩:=h1;exact⟨e0,rfl,h.1,h.2.1,h.2.2.1⟩
   |succ p=>simpa using ih h.2.2.2 (by simpa using h1)
theorem I7 {o:Oper}{t:TypeId}{m s x:TV}{xm xs xx:Operand}{u:List (Nm×aP)}(hw:WF G w)(hH:HR G w H)(ho:o.op=.entryStore t xm xs xx)(hm:VR G m (a.eval xm))(hs:VR G s (a.eval xs))(hx:VR G x (a.eval xx))
 (h:kK H m s x=some u):eu C.P nm o a w G dh u:=by
 unfold kK at h
 split at h
 ·rename_i mm k n;split at h
  ·rename_i es c Ys;split at h
   ·rename_i i hst;split at h
    ·rename_i k0 x0 b A2;simp at h;subst h;obtain⟨uM,har,ck,hh,hmr,hF⟩:=hH mm _ Ys;have hmv:a.eval xm=.map (some (G.mu mm)):=by generalize a.eval xm=z at hm;cases hm;rfl
     have hsv:=hs.int;obtain⟨p,hp,⟨k1,x1,b1,hp1,hp2⟩,Sy⟩:=Nu hst;have hpi:p=i:=by omega
     subst hpi;rw[A2] at hp1;simp at hp1;obtain⟨rfl,rfl,rfl⟩:=hp1;obtain⟨e,he,hke,hve,hbe⟩:=hmr.get A2;have he':ck[p]?=some e:=by simpa using he
     have hfind:ck.findIdx? (λe=>(e.born:Int)==n)=some p:=by
      rw[Array.findIdx?_eq_some_iff_getElem];have hpl:p<ck.size:=(Array.getElem?_eq_some_iff.1 he').1;have hpe:ck[p]=e:=(Array.getElem?_eq_some_iff.1 he').2;refine⟨hpl,by simp[hpe,hbe,hp2],λq hq=> ?_⟩;have hql:q<es.length:=by have:=hmr.length;simp at this;omega
      obtain⟨eq,heq,_,_,hbq⟩:=hmr.get (p:=q) (k:=es[q].1) (x:=es[q].2.1) (b:=es[q].2.2) (List.getElem?_eq_getElem hql);have:=Sy q hq es[q].1 es[q].2.1 es[q].2.2 (List.getElem?_eq_getElem hql);have heq':ck[q]?=some eq:=by simpa using heq
      have hqe:ck[q]'(by omega)=eq:=(Array.getElem?_eq_some_iff.1 heq').2;simp only[hqe,hbq,Bool.not_eq_true,beq_eq_false_iff_ne,ne_eq];exact this
     refine eu.HQ (w':={w with heap:=w.heap.setIfInBounds (G.mu mm) (.map (ck.modify p λe=>{e with val:=a.eval xx}) c)}) (G':=G) ?_ ((CF hw uM (Gh.kS har) hh hF _).mono (λx _ e=>by simp[e]) (λ_ e=>e.elim)) ?_
     ·simp only[execOp,ho,hmv,hsv,Instr.entryStore];simp[mq hh,asInt,asIntOf,hfind,tI hh]
     ·intro k' ob hmem;simp at hmem;obtain⟨rfl,rfl⟩:=hmem;refine⟨uM,Ns hw uM har hF ?_⟩;rw[By _ he'];have:=hmr.set (k:=k0) (x:=x) (kv:=e.key) (xv:=a.eval xx) A2 he hke hx;exact this
    ·simp at h
   ·simp at h
  ·simp at h
 ·simp at h
theorem xE {x:Option (List (Nm×aP))}{u:List (Nm×aP)}(h:A1 x=some (v,u)):v=dh/\x=some u:=by
 cases x<;>simp[A1] at h;exact⟨h.1.symm,by rw[h.2]⟩
theorem wq (hs:SR G slots a)(hg:jK C G){x:Option Operand}{p:Option TV}(h:yT C slots x=some p):VRo G p (x.map a.eval):=by
 cases x with
 |none=>simp[yT] at h;subst h;trivial
 |some x=>
  simp only[yT] at h
  cases hr:dw C slots x<;>simp[hr] at h
  subst h
  exact cK hs hg hr
theorem PX {o:Oper}{b:Builtin}{args:Array Operand}{ats:Array TypeId}{vs:List TV}{u:List (Nm×aP)}(hw:WF G w)(hH:HR G w H)(hn:¬G.dom nm)(ho:o.op=.call {callee:=.builtin b,args,argTypes:=ats})
 (hv:ec G vs (args.map a.eval).toList)(h:mZ C nm H b ats.toList vs=some (v,u)):eu C.P nm o a w G v u:=by
 unfold mZ at h
 split at h
 ·rename_i t x hat;have Np:ats= #[t]:=by rw[← Array.toArray_toList (xs:=ats),hat]
  obtain⟨xv,rest,lS,hx,qm⟩:=hv.j5;have hr2:rest=[]:=by have:=qm.1;simpa using this
  subst hr2;have Yq:args.map a.eval= #[xv]:=by rw[← Array.toArray_toList (xs:=args.map a.eval),lS]
  cases ht:bx C.P t<;>simp only[ht,reduceCtorEq] at h;rename_i ti;obtain⟨_,_,hu,_⟩:=bS ht;have mX:=aT hu w;have fin:∀n:Nat,(Builtin.len_ #[t] o.type #[xv]).run C.P w=.ok (.int .i64 (n:Int)) w->v=.t (.int .i64 (n:Int))->u=[]->eu C.P nm o a w G v u:=by
   intro n hr Bu hu2;subst Bu;subst hu2;exact eu.quiet hw (sN ho (λcs=>by rw[Np,Yq];simp[builtin,hr])) (.t _ _ (.int _ _))
  split at h
  ·rename_i n e hd;simp at h;refine fin n ?_ h.1.symm h.2;rw[hd] at mX;simp[Builtin.len_,mX,goInt]
  ·rename_i hd;rw[hd] at mX;split at h
   ·rename_i s;simp at h;have:=hx.str;subst this;refine fin s.length ?_ h.1.symm h.2;have hsz:(ByteArray.mk s.toArray).size=s.length:=by show s.toArray.size=_;simp
    simp[Builtin.len_,mX,goInt,hsz]
   ·simp at h
  ·rename_i e hd;rw[hd] at mX;split at h
   ·simp at h
   ·simp at h
   ·simp at h
   ·rename_i hn1 hn2 hn3;cases hl:Bp H x<;>simp[hl] at h;rename_i n;have Bx:∃b c,xv=.slice b n c:=by
     rcases adZ hx hl with ⟨s,rfl,_⟩|h1|rfl|⟨k,rfl⟩|⟨k,o',l,rfl,rfl⟩
     ·exact absurd rfl (hn1 _)
     ·exact h1
     ·exact absurd rfl hn2
     ·exact absurd rfl (hn3 _)
     ·cases hx with|ref _ _ _ _ _ _ _ _ _ _ ho' _=>exact ho'
    obtain⟨b',c',rfl⟩:=Bx;refine fin n ?_ h.1.symm h.2;simp[Builtin.len_,mX,goInt]
  ·rename_i k e hd;rw[hd] at mX;split at h
   ·simp at h;have:xv=.map none:=by cases hx with|t _ _ hx=>cases hx;rfl
    subst this;refine fin 0 ?_ h.1.symm h.2;simp[Builtin.len_,mX,goInt]
   ·rename_i m;cases hl:Bp H (.map m)<;>simp[hl] at h;rename_i n;simp only[Bp] at hl;split at hl<;>simp at hl;rename_i es c hm;subst hl;obtain⟨uM,har,ck,hh,hmr,hF⟩:=hH m _ hm;have:xv=.map (some (G.mu m)):=by cases hx;rfl
    subst this;refine fin es.length ?_ h.1.symm h.2;have:=hmr.length;simp at this;simp[Builtin.len_,mX,goInt,mq hh,this]
   ·simp at h
  ·simp at h
 ·rename_i s t x y hat;exact SV hw hH hn ho hat hv h
 ·rename_i s t x y hat;exact Y2 hw hH ho hat hv h
 ·rename_i t x hat;exact WO hw hH ho hat hv h
 ·obtain⟨h1,rfl⟩:=jA h;obtain⟨r,hr,hvr⟩:=Gl (C:=C) (ats:=ats) (t:=o.type) hv h1 w;simp only[Bool.false_eq_true,if_false] at hr;exact eu.quiet hw (sN ho (λcs=>by simp[builtin,hr])) hvr
 ·obtain⟨h1,rfl⟩:=jA h;obtain⟨r,hr,hvr⟩:=Gl (C:=C) (ats:=ats) (t:=o.type) hv h1 w;simp only[if_true] at hr;exact eu.quiet hw (sN ho (λcs=>by simp[builtin,hr])) hvr
 ·rename_i t hat;have Np:ats= #[t]:=by rw[← Array.toArray_toList (xs:=ats),hat]
  obtain⟨xv,rest,lS,hx,qm⟩:=hv.j5;have hr2:rest=[]:=by have:=qm.1;simpa using this
  subst hr2;have Yq:args.map a.eval= #[xv]:=by rw[← Array.toArray_toList (xs:=args.map a.eval),lS]
  cases hx;split at h
  ·rename_i ti ht;obtain⟨_,_,hu,_⟩:=bS ht;have mX:=aT hu w;split at h
   ·rename_i e hd;rw[hd] at mX;simp at h;obtain⟨rfl,rfl⟩:=h;have hr:(Builtin.cap_ #[t] o.type #[.slice none 0 0]).run C.P w=.ok (.int .i64 0) w:=by
     simp[Builtin.cap_,mX,goInt]
    exact eu.quiet hw (sN ho (λcs=>by rw[Np,Yq];simp[builtin,hr])) (.t _ _ (.int _ _))
   ·simp at h
  ·simp at h
 ·simp at h
end
end Go.Abs
namespace Go.Abs
open Go
section
variable {C:ez}{f:FuncId}{nm:Nm}{H:Heap}{slots:List TV}{a:Act}{w:World}{G:Gh}{v:TV}{u:List (Nm×aP)}
theorem Nv {x:Value}{o:Oper}{px:Operand}(ho:o.op=.nilCheck px)(hx:a.eval px=x)(hs:sure x):(execOp a.eval o).run C.P w=.ok (.value x) w:=by
 subst hx;simp only[execOp,ho];revert hs;generalize a.eval px=x;intro hs;unfold sure at hs;split at hs
 ·rfl
 ·rfl
 ·exact hs.elim
theorem ad1 {fn:Fn}{fs cs:List TV}{vs ws:List Value}(h1:ec G fs vs)(h2:ec G cs ws):VR G (ah7 fn fs cs) (.func fn vs.toArray ws.toArray):=by
 unfold ah7;split
 ·rename_i h;simp at h;obtain⟨rfl,rfl⟩:=h;have e1:=h1.1;have e2:=h2.1;simp at e1 e2;subst e1;subst e2;exact .t _ _ (.fn fn)
 ·exact .fn fn fs cs vs ws h1.1 h1.2 h2.1 h2.2
theorem WU {o:Oper}(hw:WF G w)(hH:HR G w H)(hn:¬G.dom nm)(hs:SR G slots a)(hg:jK C G)(h:evalOp C f nm H slots o=some (v,u)):eu C.P nm o a w G v u:=by
 unfold evalOp at h;simp only at h;split at h
 ·rename_i x ho;obtain⟨h1,rfl⟩:=jA h;exact eu.quiet hw (by simp[execOp,ho]) (cK hs hg h1)
 ·rename_i x ho;obtain⟨h1,rfl⟩:=jA h;exact eu.quiet hw (by simp[execOp,ho]) (cK hs hg h1)
 ·rename_i c x y ho;split at h<;>try (simp at h;done)
  rename_i b p q hc hx hy;simp at h;obtain⟨rfl,rfl⟩:=h;have hcv:=(cK hs hg hc).bool;refine eu.quiet hw (x:=if b then a.eval x else a.eval y) (by simp[execOp,ho,asBool,hcv]) ?_;cases b
  ·exact cK hs hg hy
  ·exact cK hs hg hx
 ·rename_i elem ho;split at h<;>try (simp at h;done)
  rename_i ti ht;split at h<;>try (simp at h;done)
  rename_i z hz;simp at h;obtain⟨_,rfl,rfl⟩:=h;exact YU hw hn ho ht hz
 ·rename_i elem x ho;split at h<;>try (simp at h;done)
  rename_i z hz;simp at h;obtain⟨hlf,rfl,rfl⟩:=h;exact ah8 hw hn ho (cK hs hg hz) (by simpa using hlf)
 ·rename_i t parts ho;split at h<;>try (simp at h;done)
  rename_i ps hp;obtain⟨h1,rfl⟩:=jA h;have hpr:PR G ps (parts.map λ(p:Nat×Operand)=>(p.1,a.eval p.2)).toList:=by
   rw[Array.toList_map];exact PF hs hg hp
  obtain⟨r,h2,h3⟩:=SP hpr h1 w;exact eu.quiet hw (by simp[execOp,ho,h2]) h3
 ·rename_i t len parts ho;split at h<;>try (simp at h;done)
  rename_i ps hp;have hpr:PR G ps (parts.map λ(p:Nat×Operand)=>(p.1,a.eval p.2)).toList:=by
   rw[Array.toList_map];exact PF hs hg hp
  exact I1 hw hn ho hpr h
 ·rename_i t x ho;split at h<;>try (simp at h;done)
  rename_i p hp;obtain⟨h1,rfl⟩:=jA h;obtain⟨r,h2,h3⟩:=WC hH hw (cK hs hg hp) h1;exact eu.quiet hw (by simp[execOp,ho,h2]) h3
 ·rename_i t x y ho;split at h<;>try (simp at h;done)
  rename_i p q hp hq;obtain⟨rfl,h1⟩:=xE h;exact WG hw hH ho (cK hs hg hp) (cK hs hg hq) h1
 ·rename_i x ho;split at h<;>try (simp at h;done)
  rename_i p hp;simp at h;obtain⟨h1,rfl,rfl⟩:=h;have hv:=cK hs hg hp;exact eu.quiet hw (Nv ho rfl (PB hv h1)) hv
 ·rename_i op t x y yt ho;split at h<;>try (simp at h;done)
  rename_i p q hp hq;obtain⟨h1,rfl⟩:=jA h;obtain⟨r,h2,h3⟩:=YP (cK hs hg hp) (cK hs hg hq) h1 w;exact eu.quiet hw (by simp only[execOp,ho];simp only[Sem.run_bind] at h2 ⊢;rw[h2];rfl) h3
 ·rename_i op t x ho;split at h<;>try (simp at h;done)
  rename_i p hp;obtain⟨h1,rfl⟩:=jA h;obtain⟨r,h2,h3⟩:=adY (cK hs hg hp) h1 w;exact eu.quiet hw (by simp[execOp,ho,h2]) h3
 ·rename_i s d x ho;split at h<;>try (simp at h;done)
  rename_i p hp;exact PU hw hH hn ho (cK hs hg hp) h
 ·rename_i t x ho;split at h<;>try (simp at h;done)
  rename_i p ti hp ht;obtain⟨_,_,hu,_⟩:=bS ht;have mX:=aT hu w;split at h
  ·simp at h
  ·rename_i hni;simp at h;obtain⟨rfl,rfl⟩:=h;have hv:=cK hs hg hp;refine eu.quiet hw (x:=.iface t (a.eval x)) ?_ ?_
   ·cases hdd:ti.desc<;>first
     |(exact absurd hdd (hni _))
     |(rw[hdd] at mX;simp[execOp,ho,Instr.makeInterface,mX])
   ·split
    ·exact .t _ _ (.iface _ _ _ hv.tree)
    ·exact .iface _ _ _ hv
 ·rename_i fn first captured ho
  split at h<;>try (simp at h;done)
  rename_i fs cs hf hc;simp at h;obtain⟨rfl,rfl⟩:=h;have h1:=Al hs hg hf;have h2:=Al hs hg hc;refine eu.quiet hw (x:=.func fn (first.toList.map a.eval).toArray (captured.toList.map a.eval).toArray) ?_ (ad1 h1 h2);have e1:(first.toList.map a.eval).toArray=first.map a.eval:=by apply Array.ext';simp
  have e2:(captured.toList.map a.eval).toArray=captured.map a.eval:=by apply Array.ext';simp
  rw[e1,e2];simp[execOp,ho,Instr.makeFunc]
 ·rename_i t r ho;split at h<;>try (simp at h;done)
  rename_i ti hr ht;simp at h;obtain⟨rfl,rfl⟩:=h;have hrn:r=none:=by
   cases r with
   |none=>rfl
   |some x=>simp only[yT] at hr;cases h5:dw C slots x<;>simp[h5] at hr
  subst hrn;refine eu.gK (w':=World.fK w (.map #[] 0)) (G':=G.add nm w.heap.size none) (x:=.map (some w.heap.size)) ?_ (nc hw hn _ _ _) ?_ ?_
  ·simp[execOp,ho,Instr.makeMap,newObj,Sem.run,World.fK]
  ·intro k ob hm;simp at hm;obtain⟨rfl,rfl⟩:=hm;refine⟨.inl rfl,by simp[Gh.add], #[], ?_,trivial, ?_⟩
   ·simp[Gh.add,qu]
   ·intro o;simpa [Gh.add] using hw.U2 o
  ·have:=VR.map (G:=G.add nm w.heap.size none) nm (.inl rfl) (by simp[Gh.add]);simpa [Gh.add] using this
 ·rename_i t l c ho;split at h<;>try (simp at h;done)
  rename_i pl pc hl hc;exact Lu hw hn ho (cK hs hg hl) (cK hs hg hc) h
 ·rename_i t x lo hi mx ho;split at h<;>try (simp at h;done)
  rename_i p l hh m hp hl hhi hm;split at h
  ·rename_i r hcut;cases h;unfold A0 at hcut;split at hcut
   ·exact WK hw hH hn ho (cK hs hg hp) (wq hs hg hl) (wq hs hg hhi) (wq hs hg hm) hcut
   ·cases hcut
  split at h<;>try (simp at h;done)
  rename_i r ks Gj;simp at h;obtain⟨rfl,rfl⟩:=h;exact WL hw hH ho (cK hs hg hp) (wq hs hg hl) (wq hs hg hhi) (wq hs hg hm) Gj
 ·rename_i s x i ho;split at h<;>try (simp at h;done)
  rename_i p ti hp ht;split at h<;>try (simp at h;done)
  rename_i fs hd;split at h<;>try (simp at h;done)
  rename_i fd hi;split at h<;>try (simp at h;done)
  rename_i tf YS;split at h<;>try (simp at h;done)
  rename_i hsz;obtain⟨h1,rfl⟩:=jA h;obtain⟨r,h2,h3⟩:=Lr hH (cK hs hg hp) ht hd hi YS hsz h1;exact eu.quiet hw (by simp[execOp,ho,h2]) h3
 ·rename_i t x i ho;split at h<;>try (simp at h;done)
  rename_i p ti hp ht;split at h<;>try (simp at h;done)
  rename_i fs hd;split at h<;>try (simp at h;done)
  rename_i fd hi;split at h<;>try (simp at h;done)
  rename_i tf YS;split at h<;>try (simp at h;done)
  rename_i hagg;obtain⟨h1,rfl⟩:=jA h;obtain⟨r,h2,h3⟩:=WD (cK hs hg hp) ht hd hi YS hagg h1 w;exact eu.quiet hw (by simp[execOp,ho,h2]) h3
 ·rename_i t x i ho;split at h<;>try (simp at h;done)
  rename_i p q hp hq;obtain⟨h1,rfl⟩:=jA h;obtain⟨r,h2,h3⟩:=I3 hH (cK hs hg hp) (cK hs hg hq) h1;exact eu.quiet hw (by simp[execOp,ho,h2]) h3
 ·rename_i t x i ho;split at h<;>try (simp at h;done)
  rename_i p q hp hq;obtain⟨h1,rfl⟩:=jA h;obtain⟨r,h2,h3⟩:=WE (cK hs hg hp) (cK hs hg hq) h1 w;exact eu.quiet hw (by simp[execOp,ho,h2]) h3
 ·rename_i t x k ok ho;split at h<;>try (simp at h;done)
  rename_i p q hp hq;obtain⟨h1,rfl⟩:=jA h;obtain⟨r,h2,h3⟩:=PV hH (cK hs hg hp) (cK hs hg hq) h1;exact eu.quiet hw (by simp[execOp,ho,h2]) h3
 ·rename_i t m k x ho;split at h<;>try (simp at h;done)
  rename_i p q r hp hq hr;obtain⟨rfl,h1⟩:=xE h;exact A3 hw hH (.inl ho) (cK hs hg hp) (cK hs hg hq) (cK hs hg hr) h1
 ·rename_i t m k x ho;split at h<;>try (simp at h;done)
  rename_i p q r hp hq hr;obtain⟨rfl,h1⟩:=xE h;exact A3 hw hH (.inr ho) (cK hs hg hp) (cK hs hg hq) (cK hs hg hr) h1
 ·rename_i t m k ho;split at h<;>try (simp at h;done)
  rename_i p q hp hq;exact Nt hw hH ho (cK hs hg hp) (cK hs hg hq) h
 ·rename_i t m s x ho;split at h<;>try (simp at h;done)
  rename_i p q r hp hq hr;obtain⟨rfl,h1⟩:=xE h;exact I7 hw hH ho (cK hs hg hp) (cK hs hg hq) (cK hs hg hr) h1
 ·rename_i x xt t ok ho;split at h<;>try (simp at h;done)
  rename_i p hp;obtain⟨h1,rfl⟩:=jA h;obtain⟨r,h2,h3⟩:=SK (xt:=xt) (cK hs hg hp) h1 w;exact eu.quiet hw (by simp[execOp,ho,h2]) h3
 ·rename_i x i ho;split at h<;>try (simp at h;done)
  rename_i p hp;obtain⟨h1,rfl⟩:=jA h;obtain⟨r,h2,h3⟩:=PA (C:=C) (cK hs hg hp) h1 w;exact eu.quiet hw (by simp[execOp,ho,h2]) h3
 ·rename_i b args ats ho;split at h<;>try (simp at h;done)
  rename_i vs hv;have h1:=Al hs hg hv;exact PX hw hH hn ho (by rw[Array.toList_map];exact h1) h
 ·simp at h
end
end Go.Abs
namespace Go.Abs
open Go
structure Seen (G G':Gh)(σ:Nm->Option Nm):Prop where
 F:∀b o v,G.F b o=some v->G'.F b o=some v
 at_:∀k k',G.dom k->σ k=some k'->G'.dom k'/\G'.mu k'=G.mu k/\G'.arr k'=G.arr k
mutual
theorem VR.rn {G G':Gh}{σ:Nm->Option Nm}(h:Seen G G' σ):∀{x y:TV} {v:Value},VR G x v->x.rn σ=some y->VR G' y v
 |.t x,y,v,hv,hr=>by simp[TV.rn] at hr;subst hr;exact .t _ _ (hv.tree.mono h.F)
 |.any,y,v,hv,hr=>by simp[TV.rn] at hr;subst hr;exact .any _
 |.bW,y,v,hv,hr=>by simp[TV.rn] at hr;subst hr;cases hv;exact .bW
 |.qd es,y,v,hv,hr=>by simp[TV.rn] at hr;subst hr;cases hv with|qd _ _ hv=>exact .qd _ _ (hv.mono h.F)
 |.lR cs o,y,v,hv,hr=>by
  simp[TV.rn] at hr;subst hr
  cases hv with|lR _ _ b o' vals hF hv=>exact .lR cs o b o' vals (λj c hc=>h.F _ _ _ (hF j c hc)) (λj c hc=>(hv j c hc).mono h.F)
 | .ref k o l,y,v,hv,hr=>by
  simp only[TV.rn] at hr
  cases hk:σ k<;>simp[hk] at hr
  rename_i k'
  subst hr
  cases hv with|ref _ _ _ n cg cap _ hd ha hle ho hv=>
   obtain⟨a1,a2,a3⟩:=h.at_ k k' hd hk
   exact .ref k' o l n cg cap _ a1 (by rw[a3];exact ha) hle ho (by rw[a2];exact hv)
 | .ptr k o,y,v,hv,hr=>by
  simp only[TV.rn] at hr
  cases hk:σ k<;>simp[hk] at hr
  rename_i k'
  subst hr
  cases hv with|ptr _ _ hd hn=>
   obtain⟨a1,a2,a3⟩:=h.at_ k k' hd hk
   rw[← a2]
   exact .ptr k' o a1 (by rw[a3];exact hn)
 | .lQ k n o,y,v,hv,hr=>by
  simp only[TV.rn] at hr
  cases hk:σ k<;>simp[hk] at hr
  rename_i k'
  subst hr
  cases hv with|lQ _ _ _ n' cg cap _ hd ha hle ho hv=>
   obtain⟨a1,a2,a3⟩:=h.at_ k k' hd hk
   exact .lQ k' n o n' cg cap _ a1 (by rw[a3];exact ha) hle ho (by rw[a2];exact hv)
 | .map k,y,v,hv,hr=>by
  simp only[TV.rn] at hr
  cases hk:σ k<;>simp[hk] at hr
  rename_i k'
  subst hr
  cases hv with|map _ hd hn=>
   obtain⟨a1,a2,a3⟩:=h.at_ k k' hd hk
   rw[← a2]
   exact .map k' a1 (by rw[a3];exact hn)
 | .agg cs,y,v,hv,hr=>by
  simp only[TV.rn] at hr
  cases hk:TV.yN σ cs<;>simp[hk] at hr
  subst hr
  cases hv with|agg _ vs hl hh=>
   have:=ec.rn h (xs:=cs) ⟨hl,hh⟩ hk
   exact .agg _ _ this.1 this.2
 | .bU cs,y,v,hv,hr=>by
  simp only[TV.rn] at hr
  cases hk:TV.yN σ cs<;>simp[hk] at hr
  subst hr
  cases hv with|bU _ vs hl hh=>
   have:=ec.rn h (xs:=cs) ⟨hl,hh⟩ hk
   exact .bU _ _ this.1 this.2
 | .fn f fs cs,y,v,hv,hr=>by
  simp only[TV.rn] at hr
  cases hk:TV.yN σ fs<;>cases hk2:TV.yN σ cs<;>simp[hk,hk2] at hr
  subst hr
  cases hv with|fn _ _ _ vs ws hl hh hl' I4=>
   have h1:=ec.rn h (xs:=fs) ⟨hl,hh⟩ hk
   have h2:=ec.rn h (xs:=cs) ⟨hl',I4⟩ hk2
   exact .fn _ _ _ _ _ h1.1 h1.2 h2.1 h2.2
 |.iface ty x,y,v,hv,hr=>by
  simp only[TV.rn] at hr
  cases hk:x.rn σ<;>simp[hk] at hr
  subst hr
  cases hv with|iface _ _ u hu=>exact .iface _ _ _ (VR.rn h hu hk)
theorem ec.rn {G G':Gh}{σ:Nm->Option Nm}(h:Seen G G' σ):∀{xs ys:List TV} {vs:List Value},ec G xs vs->TV.yN σ xs=some ys->ec G' ys vs
 | [],ys,vs,hv,hr=>by simp[TV.yN] at hr;subst hr;have:=hv.1;simp at this;subst this;exact ec.nil _
 |x::r,ys,vs,hv,hr=>by
  obtain⟨v,vs',rfl,h1,h2⟩:=hv.j5
  simp only[TV.yN] at hr
  cases hk:x.rn σ<;>cases hk2:TV.yN σ r<;>simp[hk,hk2] at hr
  subst hr
  exact ec.cons (VR.rn h h1 hk) (ec.rn h h2 hk2)
end
theorem MR.rn {G G':Gh}{σ:Nm->Option Nm}(h:Seen G G' σ):∀{es es':List (TV×TV×Nat)} {ck:List MapEntry},MR G es ck->YE σ es=some es'->MR G' es' ck:=by
 intro es;induction es with
 |nil=>intro es' ck hm hr;simp[YE] at hr;subst hr;cases ck<;>simp_all [MR]
 | cons p r ih=>
  intro es' ck hm hr
  obtain⟨k,v,b⟩:=p
  cases ck with
  |nil=>simp[MR] at hm
  |cons e Pj=>
   simp only[MR] at hm
   simp only[YE] at hr
   cases h1:k.rn σ<;>cases h2:v.rn σ<;>cases h3:YE σ r<;>simp[h1,h2,h3] at hr
   subst hr
   simp only[MR]
   exact⟨hm.1.rn h h1,hm.2.1.rn h h2,hm.2.2.1,ih hm.2.2.2 h3⟩
theorem SX {σ:Nm->Option Nm}:∀{xs ys:List TV},TV.yN σ xs=some ys->ys.length=xs.length:=by
 intro xs;induction xs with
 |nil=>intro ys h;simp[TV.yN] at h;subst h;rfl
 |cons x r ih=>
  intro ys h
  simp only[TV.yN] at h
  cases hk:x.rn σ<;>cases hk2:TV.yN σ r<;>simp[hk,hk2] at h
  subst h
  simp[ih hk2]
theorem OR.rn {G G':Gh}{σ:Nm->Option Nm}{w:World}{k k':Nm}{o o':aP}(h:Seen G G' σ)(hF:∀b,b=G.mu k->∀p,G'.F b p=G.F b p)(hk:G'.mu k'=G.mu k/\G'.arr k'=G.arr k)(ho:OR G w k o)(hr:o.rn σ=some o'):OR G' w k' o':=by
 obtain⟨e1,e2⟩:=hk;have hF':∀p,G'.F (G'.mu k') p=G.F (G.mu k) p:=λp=>by rw[e1];exact hF _ rfl p
 cases o with
 |cells Lp cs=>
  simp only[aP.rn] at hr
  cases h1:TV.yN σ cs<;>simp[h1] at hr
  subst hr
  obtain⟨ha,vs,ty,fr,hh,ht,hv,hf⟩:=ho
  exact⟨by rw[e2];exact ha,vs,ty,fr,by rw[e1];exact hh,ht,hv.rn h h1,λp=>by rw[hF'];exact hf p⟩
 |arr g cg fz cs=>
  simp only[aP.rn] at hr
  cases h1:TV.yN σ cs<;>simp[h1] at hr
  subst hr
  have hl:=SX h1
  obtain⟨he,cap,vs,ty,fr,ha,hh,ht,hs,hle,hv,hf⟩:=ho
  exact⟨he,cap,vs,ty,fr,by rw[e2,hl];exact ha,by rw[e1];exact hh,ht,hs,by rw[hl];exact hle,by rw[hl];exact hv.rn h h1,λp hp=>by rw[hF'];exact hf p (by rw[hl] at hp;exact hp)⟩
 |map es c=>
  simp only[aP.rn] at hr
  cases h1:YE σ es<;>simp[h1] at hr
  subst hr
  obtain⟨ha,ck,hh,hv,hf⟩:=ho
  exact⟨by rw[e2];exact ha,ck,by rw[e1];exact hh,hv.rn h h1,λp=>by rw[hF'];exact hf p⟩
 |dead=>
  simp only[aP.rn,Option.some.injEq] at hr
  subst hr
  exact trivial
theorem tJ {k:Nm}:∀{S:List Nm} {i j:Nat},idxOf k S i=some j->∃p,j=i+p/\S[p]?=some k:=by
 intro S;induction S with
 |nil=>intro i j h;simp[idxOf] at h
 | cons x r ih=>
   intro i j h
   simp only[idxOf] at h
   split at h
   · rename_i e;simp at h;exact⟨0,by omega,by simp[e]⟩
   · obtain⟨p,h1,h2⟩:=ih h
     exact⟨p+1,by omega,by simpa using h2⟩
def Gh.within (G:Gh)(S:List Nm):Gh:={
 F:=G.F
 mu:=λk=>match k with|.arg i=>(match S[i]? with|some x=>G.mu x|none=>0)|.loc _=>0
 arr:=λk=>match k with|.arg i=>(match S[i]? with|some x=>G.arr x|none=>none)|.loc _=>none
 dom:=λk=>match k with|.arg i=>i<S.length|.loc _=>False}
theorem mz {G:Gh}{S:List Nm}:Seen G (G.within S) (LR S):=by
 refine⟨λ_ _ _ h=>h,λk k' hd hs=> ?_⟩;unfold LR at hs;cases h:idxOf k S 0<;>simp[h] at hs;rename_i i;subst hs;obtain⟨p,h1,h2⟩:=tJ h;have:i=p:=by omega
 subst this;have hl:=(List.getElem?_eq_some_iff.1 h2).1;refine⟨hl, ?_, ?_⟩<;>simp[Gh.within,h2]
theorem I8 {S:List Nm}(hn:S.Nodup){i j:Nat}(hi:i<S.length)(hj:j<S.length)(e:S[i]=S[j]):i=j:=by
 have h:=List.pairwise_iff_getElem.1 hn;rcases Nat.lt_trichotomy i j with l|l|l
 ·exact absurd e (h i j hi hj l)
 ·exact l
 ·exact absurd e.symm (h j i hj hi l)
theorem WV {S:List Nm}(hn:S.Nodup){i j:Nat}{k:Nm}(hi:S[i]?=some k)(hj:S[j]?=some k):i=j:=by
 obtain⟨h1,h2⟩:=List.getElem?_eq_some_iff.1 hi;obtain⟨h3,h4⟩:=List.getElem?_eq_some_iff.1 hj;exact I8 hn h1 h3 (h2.trans h4.symm)
theorem pz {G:Gh}{S:List Nm}{i:Nat}(hi:i<S.length)(h:(G.within S).alive (.arg i)):G.alive S[i]:=λn c e=>h n c (by simp[Gh.within,hi,e])
theorem An {G:Gh}{w:World}{S:List Nm}(hw:WF G w)(hn:S.Nodup)(hd:∀k∈S,G.dom k):WF (G.within S) w:=by
 refine⟨hw.F,λk k' d d' a a' e=> ?_,λk d=> ?_⟩
 ·cases k with
  |loc p=>exact absurd d id
  | arg i=>
    cases k' with
    |loc p=>exact absurd d' id
    | arg j=>
      have b:=pz d a
      have b':=pz d' a'
      clear a a'
      simp only[Gh.within] at d d' e
      rw[List.getElem?_eq_getElem d,List.getElem?_eq_getElem d'] at e
      have:=hw.inj _ _ (hd _ (List.getElem_mem d)) (hd _ (List.getElem_mem d')) b b' e
      rw[I8 hn d d' this]
 ·cases k with
  |loc p=>exact absurd d id
  | arg i=>
    simp only[Gh.within] at d ⊢
    rw[List.getElem?_eq_getElem d]
    exact hw.lt _ (hd _ (List.getElem_mem d))
theorem Gm:∀{os:List aP} {i:Nat} {k:Nm} {o:aP},(dz i os).get k=some o->∃j,k=.arg (i+j)/\os[j]?=some o:=by
 intro os;induction os with
 |nil=>intro i k o h;simp[dz,Heap.get] at h
 | cons x r ih=>
   intro i k o h
   simp only[dz,Heap.get] at h
   split at h
   · rename_i e;simp at h;subst h;exact⟨0,by simp[← e],rfl⟩
   · obtain⟨j,h1,h2⟩:=ih h
     exact⟨j+1,by rw[h1];congr 1;omega,by simpa using h2⟩
theorem jT {H:Heap}{S:List Nm}:∀{T:List Nm} {os:List aP},jM H S T=some os->os.length=T.length/\∀(j:Nat) k,T[j]?=some k->∃o o',H.get k=some o/\o.rn (LR S)=some o'/\os[j]?=some o':=by
 intro T;induction T with
 |nil=>intro os h;simp[jM] at h;subst h;simp
 |cons k r ih=>
  intro os h
  simp only[jM] at h
  cases h1:H.get k<;>cases h2:jM H S r<;>simp[h1,h2] at h
  rename_i o os'
  obtain⟨o',h3,rfl⟩:=h
  obtain⟨h4,h5⟩:=ih h2
  refine⟨by simp[h4],λj k' hj=> ?_⟩
  cases j with
  |zero=>simp at hj;subst hj;exact⟨o,o',h1,h3,rfl⟩
  |succ j=>simpa using h5 j k' (by simpa using hj)
theorem Ao {G:Gh}{w:World}{H:Heap}{S:List Nm}{os:List aP}(hH:HR G w H)(h:jM H S S=some os):HR (G.within S) w (dz 0 os):=by
 intro k o hk;obtain⟨j,rfl,hj⟩:=Gm hk;obtain⟨hl,hs⟩:=jT h;have hjl:j<S.length:=by have:=(List.getElem?_eq_some_iff.1 hj).1;omega
 obtain⟨o0,o1,h1,h2,h3⟩:=hs j S[j] (List.getElem?_eq_getElem hjl);rw[hj] at h3;simp at h3;subst h3;obtain⟨hd,ho⟩:=hH _ _ h1;rw[Nat.zero_add];exact⟨hjl,OR.rn mz (λ_ _ _=>rfl) (by simp[Gh.within,List.getElem?_eq_getElem hjl]) ho h2⟩
open Classical in
noncomputable def Gh.back (G:Gh)(S:List Nm)(t:Nat)(G':Gh):Gh:={
 F:=G'.F
 mu:=λk=>match idxOf k S 0 with
  |some i=>G'.mu (.arg i)
  |none=>if G.dom k then G.mu k else(match k with|.loc (_::p)=>G'.mu (.loc p)|_=>0)
 arr:=λk=>match idxOf k S 0 with
  |some i=>G'.arr (.arg i)
  |none=>if G.dom k then G.arr k else(match k with|.loc (_::p)=>G'.arr (.loc p)|_=>none)
 dom:=λk=>G.dom k\/∃p,k=.loc (t::p)/\G'.dom (.loc p)}
theorem SY {k:Nm}:∀{S:List Nm} {i:Nat},idxOf k S i=none->k∉S:=by
 intro S;induction S with
 |nil=>intro i _;simp
 | cons x r ih=>
   intro i h
   simp only[idxOf] at h
   split at h
   · simp at h
   · rename_i e
     simp only[List.mem_cons,not_or]
     exact⟨λhh=>e hh.symm,ih h⟩
theorem Y7 {S:List Nm}(hn:S.Nodup){i:Nat}{k:Nm}(h:S[i]?=some k):idxOf k S 0=some i:=by
 cases h1:idxOf k S 0 with
 |none=>exact absurd (List.mem_of_getElem? h) (SY h1)
 |some j=>
  obtain⟨p,h2,h3⟩:=tJ h1
  rw[WV hn h h3]
  congr 1;omega
section back
variable {G Gc:Gh}{w w':World}{S:List Nm}{t:Nat}
theorem u7 (hn:S.Nodup){i:Nat}{k:Nm}(h:S[i]?=some k):(G.back S t Gc).mu k=Gc.mu (.arg i)/\(G.back S t Gc).arr k=Gc.arr (.arg i):=by
 simp[Gh.back,Y7 hn h]
theorem CG {k:Nm}(hd:G.dom k)(h:k∉S):(G.back S t Gc).mu k=G.mu k/\(G.back S t Gc).arr k=G.arr k:=by
 have:idxOf k S 0=none:=by
  cases h1:idxOf k S 0 with
  |none=>rfl
  |some j=>obtain⟨p,_,h3⟩:=tJ h1;exact absurd (List.mem_of_getElem? h3) h
 simp[Gh.back,this,hd]
theorem CH {p:List Nat}(hd:¬G.dom (.loc (t::p)))(hS:∀k∈S,G.dom k):(G.back S t Gc).mu (.loc (t::p))=Gc.mu (.loc p)/\(G.back S t Gc).arr (.loc (t::p))=Gc.arr (.loc p):=by
 have:idxOf (.loc (t::p)) S 0=none:=by
  cases h1:idxOf (.loc (t::p)) S 0 with
  |none=>rfl
  |some j=>obtain⟨q,_,h3⟩:=tJ h1;exact absurd (hS _ (List.mem_of_getElem? h3)) hd
 simp[Gh.back,this,hd]
theorem wu (hw:WF G w)(hn:S.Nodup)(hS:∀k∈S,G.dom k)(hfresh:∀p,¬G.dom (.loc (t::p)))(h:Step (λ_=>True) (λk=>k.jf=true) (G.within S) w Gc w'):
 Step (λk=>k∈S) (λk=>∃p,k=.loc (t::p)) G w (G.back S t Gc) w':=by
 have hin:∀i,i<S.length->(G.within S).dom (.arg i):=λi hi=>hi
 have Sw:∀i (hi:i<S.length),(G.within S).mu (.arg i)=G.mu S[i]/\(G.within S).arr (.arg i)=G.arr S[i]:=λi hi=>by simp[Gh.within,hi]
 have alq:∀k,Gc.dom k->(∃j,∃hj:j<S.length,Gc.mu k=G.mu S[j]/\(Nm.arg j=k\/G.alive S[j]))\/w.heap.size<=Gc.mu k:=by
  intro k hk;rcases h.fresh k hk with ⟨k0,d0,e,o⟩|e
  ·cases k0 with
   |loc p=>exact absurd d0 id
   | arg j=>
     have hj:j<S.length:=d0
     exact .inl ⟨j,hj,e.trans (Sw j hj).1,o.imp id λx=>pz hj x.2⟩
  ·exact .inr e
 have place:∀k,(G.back S t Gc).dom k->(∃i,∃hi:i<S.length,k=S[i]/\(G.back S t Gc).mu k=Gc.mu (.arg i)/\(G.back S t Gc).arr k=Gc.arr (.arg i))\/(G.dom k/\k∉S/\(G.back S t Gc).mu k=G.mu k/\(G.back S t Gc).arr k=G.arr k)\/(∃p,k=.loc (t::p)/\Gc.dom (.loc p)/\(G.back S t Gc).mu k=Gc.mu (.loc p)/\(G.back S t Gc).arr k=Gc.arr (.loc p)):=by
  intro k hk;rcases hk with d|⟨p,rfl,d⟩
  ·by_cases hm:k∈S
   ·obtain⟨i,hi⟩:=List.mem_iff_getElem?.1 hm;obtain⟨h1,h2⟩:=List.getElem?_eq_some_iff.1 hi;exact .inl ⟨i,h1,h2.symm,u7 hn hi⟩
   ·exact .inr (.inl ⟨d,hm,CG d hm⟩)
  ·exact .inr (.inr ⟨p,rfl,d,CH (hfresh p) hS⟩)
 have al:∀{A B:Gh} {x y:Nm},A.arr x=B.arr y->A.alive x->B.alive y:=λe a n c q=>a n c (e.trans q)
 have apart:∀k k',G.dom k->k∉S->G.alive k->Gc.dom k'->Gc.alive k'->G.mu k=Gc.mu k'->False:=by
  intro k k' d hm ak d' ak' e;rcases alq k' d' with ⟨j,hj,e2,o⟩|e2
  ·have aj:G.alive S[j]:=by
    rcases o with rfl|o
    ·exact pz hj (h.le.alive (hin j hj) ak')
    ·exact o
   have:=hw.inj _ _ d (hS _ (List.getElem_mem hj)) ak aj (e.trans e2);exact hm (this▸List.getElem_mem hj)
  ·have:=hw.lt _ d;omega
 refine⟨⟨λb o v hv=>h.le.F b o v hv,λk d=>.inl d,λk d a=> ?_,λk n e c d a=> ?_⟩,⟨h.wf.F,λk k' d d' a a' e=> ?_,λk d=> ?_⟩,λk d hk=>CG d hk,λb hb hb'=> ?_,λk d=> ?_,λk d=> ?_,h.size,h.os,h.tape,h.output⟩
 ·by_cases hm:k∈S
  ·obtain⟨i,hi⟩:=List.mem_iff_getElem?.1 hm;obtain⟨h1,h2⟩:=List.getElem?_eq_some_iff.1 hi;obtain⟨e1,e2⟩:=u7 (G:=G) (Gc:=Gc) (t:=t) hn hi;obtain⟨m1,m2⟩:=Sw i h1;rw[h2] at m1 m2;obtain⟨p1,p2⟩:=h.le.plain (.arg i) (hin i h1) (by rw[m2];exact a);exact⟨by rw[e2];exact p1,by rw[e1,p2,m1]⟩
  ·obtain⟨e1,e2⟩:=CG (Gc:=Gc) (t:=t) d hm;exact⟨by rw[e2];exact a,e1⟩
 ·by_cases hm:k∈S
  ·obtain⟨i,hi⟩:=List.mem_iff_getElem?.1 hm;obtain⟨h1,h2⟩:=List.getElem?_eq_some_iff.1 hi;obtain⟨e1,e2⟩:=u7 (G:=G) (Gc:=Gc) (t:=t) hn hi;obtain⟨m1,m2⟩:=Sw i h1;rw[h2] at m1 m2;obtain⟨n',f',c',p1,p2,p3,p4⟩:=h.le.arr (.arg i) n e c (hin i h1) (by rw[m2];exact a);exact⟨n',f',c',by rw[e2];exact p1,p2,λhh=>by obtain⟨q0,q1,q2⟩:=p3 hh;exact⟨q0,q1,by rw[e1,q2,m1]⟩,p4⟩
  ·obtain⟨e1,e2⟩:=CG (Gc:=Gc) (t:=t) d hm;exact⟨n,e,c,by rw[e2];exact a,Nat.le_refl _,λ_=>⟨rfl,rfl,e1⟩,.inl rfl⟩
 ·rcases place k d with ⟨i,hi,rfl,p1,p2⟩|⟨d1,hm,p1,p2⟩|⟨p,rfl,d1,p1,p2⟩<;>rcases place k' d' with ⟨j,hj,rfl,q1,q2⟩|⟨d2,hm2,q1,q2⟩|⟨q,rfl,d2,q1,q2⟩<;>rw[p1,q1] at e<;>replace a:=al p2 a<;>replace a':=al q2 a'
  ·have:=h.wf.inj _ _ (h.le.dom _ (hin i hi)) (h.le.dom _ (hin j hj)) a a' e;simp at this;subst this;rfl
  ·exact(apart _ _ d2 hm2 a' (h.le.dom _ (hin i hi)) a e.symm).elim
  ·have:=h.wf.inj _ _ (h.le.dom _ (hin i hi)) d2 a a' e;simp at this
  ·exact(apart _ _ d1 hm a (h.le.dom _ (hin j hj)) a' e).elim
  ·exact hw.inj _ _ d1 d2 a a' e
  ·exact(apart _ _ d1 hm a d2 a' e).elim
  ·have:=h.wf.inj _ _ d1 (h.le.dom _ (hin j hj)) a a' e;simp at this
  ·exact(apart _ _ d2 hm2 a' d1 a e.symm).elim
  ·have:=h.wf.inj _ _ d1 d2 a a' e;simp at this;subst this;rfl
 ·rcases place k d with ⟨i,hi,rfl,p1,_⟩|⟨d1,hm,p1,_⟩|⟨p,rfl,d1,p1,_⟩<;>rw[p1]
  ·exact h.wf.lt _ (h.le.dom _ (hin i hi))
  ·exact Nat.lt_of_lt_of_le (hw.lt _ d1) h.size
  ·exact h.wf.lt _ d1
 ·refine h.blocks b hb λk _ hk ak=> ?_
  cases k with
  |loc p=>exact absurd hk id
  | arg i=>
    have hi:i<S.length:=hk
    rw[(Sw i hi).1]
    exact hb' _ (List.getElem_mem hi) (hS _ (List.getElem_mem hi)) (pz hi ak)
 ·rcases d with d|⟨p,rfl,_⟩
  ·exact .inl d
  ·exact .inr ⟨p,rfl⟩
 ·have key:∀x,Gc.dom x->(∀j,Nm.arg j=x->∃hj:j<S.length,S[j]=k)->(G.back S t Gc).mu k=Gc.mu x->(∃k0,G.dom k0/\(G.back S t Gc).mu k=G.mu k0/\(k0=k\/(k0∈S/\G.alive k0)))\/w.heap.size<=(G.back S t Gc).mu k:=by
   intro x dx hx ex;rcases alq x dx with ⟨j,hj,e2,o⟩|e2
   ·refine .inl ⟨S[j],hS _ (List.getElem_mem hj),ex.trans e2, ?_⟩;rcases o with e3|o
    ·obtain⟨_,e4⟩:=hx j e3;exact .inl e4
    ·exact .inr ⟨List.getElem_mem hj,o⟩
   ·exact .inr (by rw[ex];exact e2)
  rcases place k d with ⟨i,hi,e0,p1,_⟩|⟨d1,hm,p1,_⟩|⟨p,e0,d1,p1,_⟩
  ·exact key (.arg i) (h.le.dom _ (hin i hi)) (λj e=>by cases e;exact⟨hi,e0.symm⟩) p1
  ·exact .inl ⟨k,d1,p1,.inl rfl⟩
  ·exact key (.loc p) d1 (λj e=>by cases e) p1
theorem Ap (hn:S.Nodup)(hS:∀k∈S,G.dom k)(hfresh:∀p,¬G.dom (.loc (t::p)))(h:Step (λ_=>True) (λk=>k.jf=true) (G.within S) w Gc w'):Seen Gc (G.back S t Gc) (nH S t):=by
 refine⟨λ_ _ _ hv=>hv,λk k' hd hk=> ?_⟩;cases k with
 |arg i=>
  simp only[nH] at hk
  obtain⟨e1,e2⟩:=u7 (G:=G) (Gc:=Gc) (t:=t) hn hk
  exact⟨.inl (hS _ (List.mem_of_getElem? hk)),e1,e2⟩
 |loc p=>
  simp[nH] at hk
  subst hk
  obtain⟨e1,e2⟩:=CH (Gc:=Gc) (hfresh p) hS
  exact⟨.inr ⟨p,rfl,hd⟩,e1,e2⟩
end back
def qw (P:Program)(g:FuncId)(args:Array Value)(w:World)(R:Ending->World->Prop):Prop:=
 ((callFunc g args).run P w=.ok (.enter g args) w/\Calls P g args w R)\/∃v w',(callFunc g args).run P w=.ok (.value v) w'/\R (.returned v) w'
def yH (G:Gh)(w:World)(n:Nat):bh->Ending->World->Prop
 | .ret v os news,e,w'=>∃x G',e=.returned x/\Step (λ_=>True) (λk=>k.jf=true) G w G' w'/\os.length=n/\
   (∀i o,os[i]?=some o->G'.dom (.arg i)/\OR G' w' (.arg i) o)/\(∀k o,(k,o)∈news->k.jf=true/\G'.dom k/\OR G' w' k o)/\VR G' v x
 | .panic v os,e,w'=>∃x G',e=.panicked [{v:=x,recovered:=false}]/\Step (λ_=>True) (λk=>k.jf=true) G w G' w'/\
   (∀i o,os[i]?=some (some o)->G'.dom (.arg i)/\OR G' w' (.arg i) o)/\VR G' v x
def E3 (G:Gh)(n:Nat):Prop:=(∀i,i<n->G.dom (.arg i))/\∀p,¬G.dom (.loc p)
def aD (C:ez)(ev:bt):Prop:=∀g args bu r,ev g args bu=some r->∀(G:Gh) (w:World) (vs:List Value),WF G w->jK C G->E3 G bu.length->
 HR G w (dz 0 bu)->ec G args vs->qw C.P g vs.toArray w (yH G w bu.length r)
def ng (t:Nat)(G:Gh)(w:World):tD->Ending->World->Prop
 |.val v u,e,w'=>∃x G',e=.returned x/\Step (λk=>k∈u.map (·.1)) (λk=>∃p,k=.loc (t::p)) G w G' w'/\(∀k ob,(k,ob)∈u->G'.dom k/\OR G' w' k ob)/\VR G' v x
 | .panic v u l,e,w'=>∃x G',e=.panicked [{v:=x,recovered:=false}]/\Step (λk=>k∈u.map (·.1)++l) (λk=>∃p,k=.loc (t::p)) G w G' w'/\
   (∀k ob,(k,ob)∈u->G'.dom k/\OR G' w' k ob)/\VR G' v x
theorem SZ {G:Gh}{w:World}{H:Heap}(hw:WF G w)(hH:HR G w H)(ks:List Nm):∀{args:List TV} {vs:List Value} {args':List TV} {k0:List Nm},ec G args vs->oy H args=(args',k0)->(∀k∈k0,k∈ks)->
 ec (G.frozen w H ks) args' vs:=by
 intro args
 induction args with
 |nil=>intro vs args' k0 hv h _;simp[oy] at h;obtain⟨rfl,rfl⟩:=h;have:=hv.1;simp at this;subst this;exact ec.nil _
 | cons a r ih=>
   intro vs args' k0 hv h hk
   obtain⟨v,vs',rfl,h1,h2⟩:=hv.j5
   rw[oy] at h
   generalize hfr:oy H r=q at h
   obtain⟨r',kr⟩:=q
   dsimp only at h
   split at h
   · rename_i x k hf
     simp at h
     obtain⟨rfl,rfl⟩:=h
     exact ec.cons (.t _ _ (IP hw hH ks ji _ _ _ _ hf (λk hk'=>hk k (List.mem_append_left _ hk')) h1)) (ih h2 hfr (λk hk'=>hk k (List.mem_append_right _ hk')))
   · simp at h
     obtain⟨rfl,rfl⟩:=h
     exact ec.cons (h1.mono (kN hw hH ks).le) (ih h2 hfr hk)
theorem xF {S:List Nm}{t:Nat}:∀{T:List Nm} {os:List aP} {h:Heap},ko S t T os=some h->h.map (·.1)=T/\os.length=T.length/\∀k o,(k,o)∈h->∃(i:Nat) (o':aP),T[i]?=some k/\os[i]?=some o'/\o'.rn (nH S t)=some o:=by
 intro T;induction T with
 |nil=>intro os h hh;cases os<;>simp[ko] at hh;subst hh;simp
 | cons k r ih=>
   intro os h hh
   cases os with
   |nil=>simp[ko] at hh
   | cons o os=>
     simp only[ko] at hh
     cases h1:o.rn (nH S t)<;>cases h2:ko S t r os<;>simp[h1,h2] at hh
     subst hh
     obtain⟨e1,e2,e3⟩:=ih h2
     refine⟨by simp[e1],by simp[e2],λk' o' hm=> ?_⟩
     rcases List.mem_cons.1 hm with e|hm
     · simp at e;obtain⟨rfl,rfl⟩:=e;exact⟨0,o,rfl,rfl,h1⟩
     · obtain⟨i,o2,a,b,c⟩:=e3 k' o' hm
       exact⟨i+1,o2,by simpa using a,by simpa using b,c⟩
theorem CI {S:List Nm}{t:Nat}:∀{ns h:Heap},ku S t ns=some h->∀k o,(k,o)∈h->∃k' o',(k',o')∈ns/\nH S t k'=some k/\o'.rn (nH S t)=some o:=by
 intro ns;induction ns with
 |nil=>intro h hh;simp[ku] at hh;subst hh;simp
 | cons p r ih=>
   intro h hh k o hm
   obtain⟨k0,o0⟩:=p
   simp only[ku] at hh
   cases h1:nH S t k0<;>cases h2:o0.rn (nH S t)<;>cases h3:ku S t r<;>simp[h1,h2,h3] at hh
   subst hh
   rcases List.mem_cons.1 hm with e|hm
   · simp at e;obtain⟨rfl,rfl⟩:=e;exact⟨k0,o0,List.mem_cons_self,h1,h2⟩
   · obtain⟨k',o',a,b,c⟩:=ih h3 k o hm
     exact⟨k',o',List.mem_cons_of_mem _ a,b,c⟩
theorem Nw {S:List Nm}{t:Nat}:∀{T:List Nm} {os:List (Option aP)} {h:Heap} {l:List Nm},oz S t T os=some (h,l)->(∀k∈T,k∈h.map (·.1)++l)/\∀k o,(k,o)∈h->∃(i:Nat) (o':aP),T[i]?=some k/\os[i]?=some (some o')/\o'.rn (nH S t)=some o:=by
 intro T;induction T with
 |nil=>intro os h l hh;cases os<;>simp[oz] at hh;obtain⟨rfl,rfl⟩:=hh;simp
 | cons k r ih =>
   intro os h l hh
   cases os with
   |nil=>simp[oz] at hh
   | cons o os =>
     cases o with
     | none=>
       simp only[oz] at hh
       cases h2:oz S t r os with
       |none=>simp[h2] at hh
       | some q=>
         obtain⟨h',ks⟩:=q
         simp[h2] at hh
         obtain⟨rfl,rfl⟩:=hh
         obtain⟨e1,e3⟩:=ih h2
         refine⟨λk' hk'=> ?_,λk' o' hm=> ?_⟩
         · rcases List.mem_cons.1 hk' with rfl|hk'
           · simp
           · have:=e1 k' hk';simp at this ⊢;rcases this with h|h<;>simp[h]
         · obtain⟨i,o2,a,b,c⟩:=e3 k' o' hm
           exact⟨i+1,o2,by simpa using a,by simpa using b,c⟩
     | some o=>
       simp only[oz] at hh
       cases h1:o.rn (nH S t) with
       |none=>simp[h1] at hh
       | some o1=>
         cases h2:oz S t r os with
         |none=>simp[h1,h2] at hh
         | some q=>
           obtain⟨h',ks⟩:=q
           simp[h1,h2] at hh
           obtain⟨rfl,rfl⟩:=hh
           obtain⟨e1,e3⟩:=ih h2
           refine⟨λk' hk'=> ?_,λk' o' hm=> ?_⟩
           · rcases List.mem_cons.1 hk' with rfl|hk'
             · simp
             · have:=e1 k' hk';simp at this ⊢;rcases this with h|h<;>simp[h]
           · rcases List.mem_cons.1 hm with e|hm
             · simp at e;obtain⟨rfl,rfl⟩:=e;exact⟨0,o,rfl,rfl,h1⟩
             · obtain⟨i,o2,a,b,c⟩:=e3 k' o' hm
               exact⟨i+1,o2,by simpa using a,by simpa using b,c⟩
theorem qw.mono {P:Program}{g:FuncId}{args:Array Value}{w:World}{R R':Ending->World->Prop}(h:qw P g args w R)(hr:∀e w',R e w'->R' e w'):qw P g args w R':=by
 rcases h with ⟨h1,h2⟩|⟨v,w',h1,h2⟩
 ·exact .inl ⟨h1,h2.mono hr⟩
 ·exact .inr ⟨v,w',h1,hr _ _ h2⟩
theorem I9 {C:ez}{ev:bt}(aK:aD C ev){H:Heap}{g:FuncId}{args:List TV}{t:Nat}{res:tD}{G:Gh}{w:World}{vs:List Value}{keep:Bool}(h:uX ev H g args t keep=some res)
 (hw:WF G w)(hg:jK C G)(hH:HR G w H)(hfresh:∀p,¬G.dom (.loc (t::p)))(hv:ec G args vs):qw C.P g vs.toArray w (ng t G w res):=by
 unfold uX at h
 generalize hfr:Pt H keep args=q at h
 obtain⟨args1,ks⟩:=q
 dsimp only at h
 split at h
 ·simp at h
 rename_i S hS
 split at h
 case isFalse=>simp at h
 rename_i hn
 split at h
 case h_2=>simp at h
 rename_i atL os has hos
 have hst:=kN hw hH ks
 have hH1:HR (G.frozen w H ks) w (H.eY (eO H ks)):=HR.eY hst hw hH (λk o hm=>wm hw hH hm) (λk _ hk=>pn hk.1 hk.2)
 have hv1:ec (G.frozen w H ks) args1 vs:=by
  cases keep with
  | true=>
    obtain⟨rfl,rfl⟩:=Prod.mk.inj hfr
    exact hv.mono hst.le
  |false=>exact SZ hw hH ks hv hfr (λ_ hk=>hk)
 have hg1:jK C (G.frozen w H ks):=hg.mono hst.le
 generalize hG1:G.frozen w H ks=G1 at hst hH1 hv1 hg1
 have HT:∀k∈S,G1.dom k:=by
  intro k hk;obtain⟨j,hj⟩:=List.mem_iff_getElem?.1 hk;obtain⟨o,o',h1,_,_⟩:=(jT hos).2 j k hj;exact(hH1 k o h1).1
 have CJ:∀p,¬G1.dom (.loc (t::p)):=by
  intro p hd;rcases hst.news _ hd with d|d
  ·exact hfresh p d
  ·exact d
 have hc:=λr (hr:ev g atL os=some r)=>aK g atL os r hr (G1.within S) w vs (An hst.wf hn HT) (λx cs hx=>hg1 x cs hx)
  ⟨λi hi=>by have:=(jT hos).1;exact(by omega:i<S.length),λp d=>d⟩ (Ao hH1 hos) (hv1.rn mz has)
 have alr:∀(u:Heap) (l:List Nm),(∀k∈S,k∈u.map (·.1)++l)->∀k,((k∈ks/\∃g e fz cs,H.get k=some (.arr g e fz cs))\/k∈S)->k∈((eO H ks).filter (λp=> !(S.contains p.1))++u).map (·.1)++l:=by
  intro u l hu k hk;rw[List.map_append,List.append_assoc];by_cases hm:k∈S
  ·exact List.mem_append_right _ (hu k hm)
  ·rcases hk with ⟨h1,h2⟩|h2
   ·refine List.mem_append_left _ ?_;obtain⟨p,hp,e⟩:=List.mem_map.1 (pn h1 h2);refine List.mem_map.2 ⟨p,List.mem_filter.2 ⟨hp, ?_⟩,e⟩;simp[e,hm]
   ·exact absurd h2 hm
 have als:∀{G3:Gh} {w':World},Step (λk=>k∈S) (λk=>∃p,k=.loc (t::p)) G1 w G3 w'->∀k ob,(k,ob)∈(eO H ks).filter (λp=> !(S.contains p.1))->G3.dom k/\OR G3 w' k ob:=by
  intro G3 w' Nx k ob hm;obtain⟨hm1,hm2⟩:=List.mem_filter.1 hm;have hm3:k∉S:=by simpa using hm2
  obtain⟨d,ho⟩:=wm hw hH hm1;rw[hG1] at d ho;exact⟨Nx.le.dom _ d,Nx.keeps hst.wf d hm3 ho⟩
 split at h
 ·rename_i v os' news hr;split at h<;>try (simp at h;done)
  rename_i v' h1 h2 Bu hh1 hh2;obtain rfl:=Option.some.inj h;refine(hc _ hr).mono λe w' he=> ?_
  obtain⟨x,G2,rfl,hs2,hl,Y8,Y9,hx⟩:=he;have Nx:=wu hst.wf hn HT CJ hs2;have yu:=Ap hn HT CJ hs2;obtain⟨ek,_,hO⟩:=xF hh1;have hb:=hst.trans Nx;refine⟨x,G1.back S t G2,rfl,hb.mono (λk _ hk=> ?_) (λk hk=>hk.elim False.elim id),λk ob hm=> ?_,hx.rn yu Bu⟩
  ·have:=alr h1 [] (λk hk=>by rw[ek];simpa using hk) k hk;rw[List.map_append];rw[List.append_nil] at this;exact List.mem_append_left _ this
  ·rcases List.mem_append.1 hm with hm|hm
   ·rcases List.mem_append.1 hm with hm|hm
    ·exact als Nx k ob hm
    ·obtain⟨i,o',e1,e2,e3⟩:=hO k ob hm;obtain⟨d,ho⟩:=Y8 i o' e2;exact⟨.inl (HT _ (List.mem_of_getElem? e1)),OR.rn yu (λ_ _ _=>rfl) (u7 hn e1) ho e3⟩
   ·obtain⟨k',o',e1,e2,e3⟩:=CI hh2 k ob hm;obtain⟨el,d,ho⟩:=Y9 k' o' e1;cases k' with
    |arg i=>simp[Nm.jf] at el
    | loc p=>
      simp[nH] at e2
      subst e2
      exact⟨.inr ⟨p,rfl,d⟩,OR.rn yu (λ_ _ _=>rfl) (CH (CJ p) HT) ho e3⟩
 ·rename_i v os' hr;split at h<;>try (simp at h;done)
  rename_i v' h1 l Bu hh1;obtain rfl:=Option.some.inj h;refine(hc _ hr).mono λe w' he=> ?_
  obtain⟨x,G2,rfl,hs2,Y8,hx⟩:=he;have Nx:=wu hst.wf hn HT CJ hs2;have yu:=Ap hn HT CJ hs2;obtain⟨ek,hO⟩:=Nw hh1;have hb:=hst.trans Nx;refine⟨x,G1.back S t G2,rfl,hb.mono (λk _ hk=>alr h1 l ek k hk) (λk hk=>hk.elim False.elim id),λk ob hm=> ?_,hx.rn yu Bu⟩;rcases List.mem_append.1 hm with hm|hm
  ·exact als Nx k ob hm
  ·obtain⟨i,o',e1,e2,e3⟩:=hO k ob hm;obtain⟨d,ho⟩:=Y8 i o' e2;exact⟨.inl (HT _ (List.mem_of_getElem? e1)),OR.rn yu (λ_ _ _=>rfl) (u7 hn e1) ho e3⟩
 ·simp at h
end Go.Abs
namespace Go.Abs
open Go
def ahd (P:Program)(R:Ending->World->Prop):Result Next->Prop
 |.ok (.value v) w'=>R (.returned v) w'
 |.ok .skip w'=>R (.returned undef) w'
 |.ok (.enter f args) w'=>Calls P f args w' R
 |.halt (.panic v) w'=>R (.panicked [{v,recovered:=false}]) w'
 |_=>False
def mA (P:Program)(o:Oper)(a:Act)(w:World)(R:Ending->World->Prop):Prop:=ahd P R ((execOp a.eval o).run P w)
theorem mA.wp {P:Program}{o:Oper}{a:Act}{w:World}{R:Ending->World->Prop}(h:mA P o a w R)(hno:∀w',¬R .outgrown w'){next:Act->World->Prop}{Q:Exit->Act->World->Prop}
 (h1:∀x w',R (.returned x) w'->next (a.put o.dst x) w')(h2:∀ch w',R (.panicked ch) w'->Q (.panic ch) a w'):o.wp P a w next Q:=by
 unfold mA at h
 unfold Oper.wp
 generalize (execOp a.eval o).run P w=r at h ⊢
 unfold ahd at h
 split at h
 ·rw[Oper.upon_value];exact h1 _ _ h
 ·rw[Oper.upon_skip];exact h1 _ _ h
 ·rw[Oper.upon_enter];refine h.mono λe w' he=> ?_
  cases e with
  |returned x=>exact h1 x w' he
  |panicked ch=>exact h2 ch w' he
  |outgrown=>exact absurd he (hno w')
 ·rw[Oper.upon_panic];exact h2 _ _ h
 ·exact h.elim
theorem PY {P:Program}{o:Oper}{a:Act}{w:World}{R:Ending->World->Prop}{fo:Operand}{args:Array Operand}{ats:Array TypeId}{g:FuncId}{first captured:Array Value}
 (ho:o.op=.call {callee:=.value fo,args,argTypes:=ats})(hf:a.eval fo=.func (.func g) first captured)(h:qw P g (first++args.map a.eval++captured) w R):mA P o a w R:=by
 have e:(execOp a.eval o).run P w=(callFunc g (first++args.map a.eval++captured)).run P w:=by
  simp[execOp,ho,resolve,hf,Deferred.ofValue,invoke]
 unfold mA
 rw[e]
 rcases h with ⟨hr,hc⟩|⟨v,w',hr,hc⟩
 ·rw[hr];exact hc
 ·rw[hr];exact hc
theorem Gn {C:ez}{G:Gh}{w:World}{H:Heap}{t:TypeId}{p v:TV}{x:Value}(hH:HR G w H)(hw:WF G w)(hp:VR G p x)(h:loadT C.P H t p=some v):∃r,(do loadVar t (← asAddr x):Sem Value).run C.P w=.ok r w/\VR G v r:=by
 unfold loadT at h;cases ht:bx C.P t<;>cases hc:xo H p<;>simp[ht,hc] at h;rename_i ti co;obtain⟨cs,off⟩:=co;obtain⟨b,o,vs,rfl,hv,hcell⟩:=Gi hH hw hp hc;obtain⟨r,h1,h2⟩:=IJ ht hv hcell h;refine⟨r, ?_,h2⟩;have:(asAddr (.pointer (some ⟨b,o+off,none⟩))).run C.P w=.ok ⟨b,o+off,none⟩ w:=rfl;rw[iT this];exact h1
theorem S0 (t t':TypeId)(a:Addr)(n:String):Builtin.ssaWrapNilChk_ #[t] t' #[.pointer (some a),strVal "",strVal n]=pure (.pointer (some a)):=rfl
theorem S1 {C:ez}{H:Heap}{G:Gh}{w:World}{t:TypeId}{v x:TV}{u:Value}{name:String}{f:FuncId}(hw:WF G w)(hH:HR G w H)(hv:VR G v u)(h:Nh C.P H t v name=some (f,x))(n:Nat):
 ∃y,(method (n+1) t u name).run C.P.prog w=.ok (f,y) w/\VR G x y:=by
 unfold Nh at h
 split at h
 ·rename_i m hm;cases hi:C.P.prog.info? t with
  |none=>rw[hi] at hm;cases hm
  | some i=>
    rw[hi] at hm
    have hm:i.methods.find? (·.name==name)=some m:=hm
    split at h
    · rename_i g e hp hf hu
      simp only[Option.some.injEq,Prod.mk.injEq] at h
      obtain⟨rfl,rfl⟩:=h
      have hp0:m.path.toList=[]:=by simpa using hp
      refine⟨u, ?_,hv⟩
      simp[method,typeInfo,hi,hm,hp0,follow,hf,receiverAt,underlying,hu,Place.get]
    · rename_i g e hp hf hu
      split at h
      · rename_i k o
        split at h
        · rename_i y hl
          simp only[Option.some.injEq,Prod.mk.injEq] at h
          obtain⟨rfl,rfl⟩:=h
          have hp0:m.path.toList=[]:=by simpa using hp
          obtain⟨r,h1,h2⟩:=Gn hH hw hv hl
          refine⟨r, ?_,h2⟩
          generalize hk:TV.ptr k o=q at hv
          cases hv<;>cases hk
          simp[method,typeInfo,hi,hm,hp0,follow,hf,receiverAt,underlying,hu,Place.get,S0]
          have h1:((Sem.run C.P.prog (asAddr (Value.pointer (some {block:=G.mu k,off:=o}))) w).andThen λa w'=>Sem.run C.P.prog (loadVar e a) w')=Result.ok r w:=by simpa using h1
          split<;>(simp only[Sem.run_bind];rw[h1];rfl)
        · cases h
      · cases h
    · cases h
 ·cases h
theorem WW {P:Program}{o:Oper}{a:Act}{w:World}{R:Ending->World->Prop}{recv:Operand}{name:String}{args:Array Operand}{ats:Array TypeId}{g:FuncId}{t:TypeId}{u y:Value}
 (ho:o.op=.call {callee:=.invoke recv name,args,argTypes:=ats})(hr:a.eval recv=.iface t u)(hm:(method (P.types.size+Made.depth) t u name).run P w=.ok (g,y) w)(h:qw P g (#[y]++args.map a.eval) w R):mA P o a w R:=by
 have e:(execOp a.eval o).run P w=(callFunc g (#[y]++args.map a.eval)).run P w:=by
  have h0:(#[Value.iface t u]++args.map a.eval)[0]?=some (.iface t u):=by
   rw[Array.getElem?_append_left (by simp)];rfl
  have h2:(args.map a.eval).extract 0 args.size=args.map a.eval:=by
   apply Array.ext';simp;rw[List.take_of_length_le (by simp)]
  have e1:execOp a.eval o=callMethod (.iface t u) name (args.map a.eval):=by
   simp[execOp,ho,resolve,hr,invoke,h0,h2]
  rw[e1];unfold callMethod;simp only[Sem.run_bind];show((Sem.run P (method (P.types.size+Made.depth) t u name) w).andThen λa_2 w'=>Sem.run P (callFunc a_2.fst (#[a_2.snd]++Array.map a.eval args)) w')=_;rw[hm];rfl
 unfold mA
 rw[e]
 rcases h with ⟨hr,hc⟩|⟨v,w',hr,hc⟩
 ·rw[hr];exact hc
 ·rw[hr];exact hc
theorem Za {P:Program}{o:Oper}{a:Act}{w:World}{R:Ending->World->Prop}{x:Operand}{t:TypeId}{v:Value}(ho:o.op=.panic x)(hv:a.eval x=.iface t v)(h:R (.panicked [{v:=.iface t v,recovered:=false}]) w):mA P o a w R:=by
 have:(execOp a.eval o).run P w=.halt (.panic (.iface t v)) w:=by simp[execOp,ho,hv,Instr.panic,goPanic]
 unfold mA;rw[this];exact h
theorem S3 {G:Gh}{y v:TV}{x:Value}(h:Ni y=some v)(hv:VR G y x):∃t u,x=.iface t u/\VR G v x:=by
 unfold Ni at h;split at h
 ·simp at h;subst h;cases hv with|iface _ z u hu=>exact⟨_,u,rfl,.iface _ _ _ hu⟩
 ·simp at h;subst h;cases hv with|t _ _ hv=>cases hv with|iface _ z u hu=>exact⟨_,u,rfl,.t _ _ (.iface _ _ _ hu)⟩
 ·simp at h
theorem Ja {C:ez}{G:Gh}{slots:List TV}{a:Act}{fo:Operand}{args:Array Operand}{ats:Array TypeId}{g:FuncId}{atL:List TV}(hs:SR G slots a)(hg:jK C G)
 (h:lX C slots {callee:=.value fo,args,argTypes:=ats}=some (g,atL)):∃first captured:Array Value,a.eval fo=.func (.func g) first captured/\ec G atL (first++args.map a.eval++captured).toList:=by
 unfold lX at h
 simp only at h
 split at h
 ·rename_i hf hr;simp at h;obtain⟨rfl,rfl⟩:=h;have h1:=cK hs hg hf;have h2:=Al hs hg hr;cases h1 with
  | t _ _ h1=>
    generalize hx:a.eval fo=x at h1
    cases h1
    exact⟨#[], #[],rfl,by simpa using h2⟩
 ·rename_i g' fs cs as' hf hr;simp at h;obtain⟨rfl,rfl⟩:=h;have h1:=cK hs hg hf;have h2:=Al hs hg hr;generalize hx:a.eval fo=x at h1;cases h1 with
  | fn _ _ _ vs ws hl hv hl' Bu=>
    refine⟨vs.toArray,ws.toArray,rfl, ?_⟩
    have:=ec.append (ec.append (G:=G) ⟨hl,hv⟩ h2) ⟨hl',Bu⟩
    simpa using this
 ·simp at h
theorem eu.exec {P:Program}{t:Nat}{o:Oper}{a:Act}{w:World}{G:Gh}{v:TV}{u:List (Nm×aP)}(h:eu P (.loc [t]) o a w G v u):mA P o a w (ng t G w (.val v u)):=by
 obtain⟨x,w',G',hn,hs,hu,hv⟩:=h;have hR:ng t G w (.val v u) (.returned x) w':=⟨x,G',rfl,hs.mono (λ_ _ h=>h) (λk hk=>⟨[],hk⟩),hu,hv⟩;unfold mA;rcases hn with hn|⟨hn,rfl⟩<;>rw[hn]<;>exact hR
theorem ng.no {t:Nat}{G:Gh}{w:World}{r:tD}(w':World):¬ng t G w r .outgrown w':=by
 cases r<;>simp[ng]
theorem tK {C:ez}{ev:bt}(aK:aD C ev){f:FuncId}{H:Heap}{slots:List TV}{t:Nat}{o:Oper}{r:tD}{G:Gh}{w:World}{a:Act}(h:bp C ev f H slots t o=some r)
 (hw:WF G w)(hg:jK C G)(hs:SR G slots a)(hH:HR G w H)(hfresh:∀p,¬G.dom (.loc (t::p))):mA C.P o a w (ng t G w r):=by
 unfold bp at h
 split at h
 ·rename_i x ho;split at h<;>try (simp at h;done)
  rename_i v hv;simp at h;subst h;cases hx:dw C slots x with
  |none=>simp[hx] at hv
  | some y=>
    simp[hx] at hv
    obtain⟨ty,u,e,hvr⟩:=S3 hv (cK hs hg hx)
    refine Za ho e ⟨a.eval x,G,by rw[e],Step.refl hw _ _,by simp,hvr⟩
 ·rename_i fo args ats ho;split at h<;>try (simp at h;done)
  rename_i g atL hc;obtain⟨first,captured,e,hv⟩:=Ja hs hg hc;have:=I9 aK h hw hg hH hfresh hv;rw[Array.toArray_toList] at this;exact PY ho e this
 ·rename_i recv name args ats ho;split at h<;>try (simp at h;done)
  rename_i g atL hc;unfold HO at hc;split at hc<;>try (simp at hc;done)
  rename_i ty v as' hr hra;split at hc<;>try (simp at hc;done)
  rename_i f' x hm;simp only[Option.some.injEq,Prod.mk.injEq] at hc;obtain⟨rfl,rfl⟩:=hc;have h1:=cK hs hg hr;have h2:=Al hs hg hra;generalize hq:a.eval recv=q at h1;cases h1 with
  | iface _ _ u hu=>
    obtain⟨d,hd⟩:∃d,C.P.prog.types.size+Made.depth=d+1:=⟨C.P.prog.types.size+Made.depth - 1,by
      have h0:0<Made.depth:=by decide
      omega⟩
    obtain⟨y,h3,h4⟩:=S1 hw hH hu hm d
    have hv:ec G (x::as') (y::(args.map a.eval).toList):=ec.cons h4 (by simpa using h2)
    have:=I9 aK h hw hg hH hfresh hv
    refine WW ho hq (by rw[hd];exact h3) ?_
    have e:(y::(args.map a.eval).toList).toArray= #[y]++args.map a.eval:=by simp
    rw[e] at this
    exact this
 ·split at h<;>try (simp at h;done)
  rename_i v u he;simp at h;subst h;exact(WU hw hH (hfresh []) hs hg he).exec
theorem jC {G:Gh}{ops:Array Oper}{slots:List TV}{o:Oper}{a:Act}{b:Bool}(h:eT ops slots o=some b)(hs:SR G slots a):Region.wanted o (yielded ops a.tmps)=b:=by
 unfold eT at h;unfold Region.wanted;split at h
 ·rename_i hg;simp at h;subst h;simp[hg]
 ·rename_i j want hg;simp only[hg];unfold yielded;split at h
  ·rename_i hd;simp at h;subst h;simp[hd]
  ·rename_i d hd;rw[hd];simp only[Option.bind_some];have hl:=hs.1;have at':∀x,slots[d]?=some x->∃v,a.tmps[d]?=some v/\VR G x v:=λx hx=>by
    obtain⟨v,h1,h2⟩:=ec.at hs hx;exact⟨v,by simpa using h1,h2⟩
   split at h
   ·rename_i c hc;simp at h;subst h;obtain⟨v,e,hv⟩:=at' _ hc;rw[e];rw[hv.bool];cases c<;>cases want<;>rfl
   ·rename_i hc;simp at h;subst h;obtain⟨v,e,hv⟩:=at' _ hc;rw[e];cases hv with|t _ _ hv=>cases hv;rfl
   ·rename_i hc;simp at h;subst h;have:a.tmps[d]?=none:=by
     have:=List.getElem?_eq_none_iff.1 hc;rw[Array.getElem?_eq_none_iff];simp at hl;omega
    rw[this];rfl
   ·simp at h
def za (G:Gh)(t:Nat):Prop:=∀p,G.dom (.loc p)->∃n q,p=n::q/\n<t
theorem za.not {G:Gh}{t:Nat}(h:za G t)(p:List Nat):¬G.dom (.loc (t::p)):=by
 intro hd;obtain⟨n,q,e,hl⟩:=h _ hd;simp at e;omega
theorem za.step {G G':Gh}{t:Nat}{W:Nm->Prop}{w w':World}(h:za G t)(hs:Step W (λk=>∃p,k=.loc (t::p)) G w G' w'):za G' (t+1):=by
 intro p hd;rcases hs.news _ hd with d|⟨q,e⟩
 ·obtain⟨n,q,e,hl⟩:=h p d;exact⟨n,q,e,by omega⟩
 ·simp at e;exact⟨t,q,e,by omega⟩
theorem za.mono {G:Gh}{t t':Nat}(h:za G t)(hl:t<=t'):za G t':=λp d=>by
 obtain⟨n,q,e,hn⟩:=h p d;exact⟨n,q,e,by omega⟩
structure yO (C:ez)(G:Gh)(w:World)(st:St)(a:Act):Prop where
 wf:WF G w
 kg:jK C G
 slots:SR G st.slots a
 heap:HR G w st.H
 fresh:za G st.tick
abbrev ei:=Step (λ_=>True) (λk=>k.jf=true)
def Good (C:ez)(G:Gh)(w:World)(a:Act)(e:aS)(st':St)(ex:Exit)(a':Act)(w':World):Prop:=
 ∃G',ei G w G' w'/\a'.defers=a.defers/\match e with
  |.normal=>ex=.normal/\yO C G' w' st' a'
  |.exit id=>ex=.exit id/\yO C G' w' st' a'
  |.ret=>ex=.ret/\yO C G' w' st' a'
  |.panic v=>∃x,ex=.panic [{v:=x,recovered:=false}]/\VR G' v x/\HR G' w' st'.H/\SR G' st'.slots a'/\∃t,za G' t
theorem ei.comp {A B C:Gh}{u v w:World}(h:ei A u B v)(k:ei B v C w):ei A u C w:=
 (Step.trans h k).mono (λ_ _ _=>trivial) (λ_ hk=>hk.elim id id)
theorem Step.any {W:Nm->Prop}{t:Nat}{G G':Gh}{w w':World}(h:Step W (λk=>∃p,k=.loc (t::p)) G w G' w'):ei G w G' w':=
 h.mono (λ_ _ _=>trivial) (λk ⟨p,e⟩=>by subst e;rfl)
theorem Good.comp {C:ez}{G G1:Gh}{w w1:World}{a a1:Act}{e:aS}{st':St}{ex:Exit}{a':Act}{w':World}(h:ei G w G1 w1)(hd:a1.defers=a.defers)(k:Good C G1 w1 a1 e st' ex a' w'):Good C G w a e st' ex a' w':=by
 obtain⟨G',h1,h2,h3⟩:=k;exact⟨G',ei.comp h h1,h2.trans hd,h3⟩
theorem put_defers (a:Act)(d:Option Tmp)(x:Value):(a.put d x).defers=a.defers:=by cases d<;>rfl
theorem SR.put {G:Gh}{slots:List TV}{a:Act}{v:TV}{x:Value}(h:SR G slots a)(d:Option Tmp)(hv:VR G v x):SR G (ey slots d v) (a.put d x):=by
 cases d with
 |none=>exact h
 | some d=>
   refine⟨by have:=h.1;simp at this;simp[Act.put,ey,qU,this],λj c u hc hu=> ?_⟩
   simp only[ey,qU] at hc
   simp only[Act.put,Array.toList_setIfInBounds] at hu
   rw[List.getElem?_set] at hc hu
   by_cases e:d=j
   · subst e
     simp only[if_true] at hc hu
     split at hc
     · simp at hc;subst hc
       split at hu
       · simp at hu;subst hu;exact hv
       · simp at hu
     · simp at hc
   · rw[if_neg e] at hc hu
     exact h.2 j c u hc hu
theorem SR.mono {G G':Gh}{slots:List TV}{a:Act}(h:SR G slots a)(hG:G.le G'):SR G' slots a:=ec.mono hG h
theorem yO.unwanted {C:ez}{G:Gh}{w:World}{st:St}{a:Act}(h:yO C G w st a)(d:Option Tmp):yO C G w {st with slots:=ey st.slots d dh,tick:=st.tick+1} (a.put d undef):=
 ⟨h.wf,h.kg,h.slots.put d (q5 G),h.heap,h.fresh.mono (Nat.le_succ _)⟩
theorem yO.op {C:ez}{G G':Gh}{w w':World}{st:St}{a:Act}{v:TV}{u:Heap}{x:Value}(h:yO C G w st a)(d:Option Tmp)(hs:Step (λk=>k∈u.map (·.1)) (λk=>∃p,k=.loc (st.tick::p)) G w G' w')
 (hu:∀k ob,(k,ob)∈u->G'.dom k/\OR G' w' k ob)(hv:VR G' v x):yO C G' w' {slots:=ey st.slots d v,H:=st.H.eY u,tick:=st.tick+1} (a.put d x):=
 ⟨hs.wf,h.kg.mono hs.le,(h.slots.mono hs.le).put d hv,HR.eY hs h.wf h.heap hu (λk _ hk=>hk),h.fresh.step hs⟩
theorem HR.yG {G:Gh}{w:World}{H:Heap}(h:HR G w H)(ks:List Nm):HR G w (H.yG ks):=by
 intro k o hk;rw[Heap.yW] at hk;split at hk
 ·simp at hk
 ·exact h k o hk
theorem HR.panicked {N:Nm->Prop}{G G':Gh}{w w':World}{H:Heap}{u:Heap}{l:List Nm}(hw:WF G w)(hH:HR G w H)(hs:Step (λk=>k∈u.map (·.1)++l) N G w G' w')
 (hu:∀k ob,(k,ob)∈u->G'.dom k/\OR G' w' k ob):HR G' w' ((H.yG l).eY u):=by
 intro k o hk
 rcases Heap.wk (H.yG l) u k o hk with h1|⟨h1,hn⟩
 ·exact hu k o h1
 ·rw[Heap.yW] at h1;split at h1
  ·simp at h1
  ·rename_i hl;obtain⟨d,ho⟩:=hH k o h1;exact⟨hs.le.dom _ d,hs.keeps hw d (λx=>by rcases List.mem_append.1 x with x|x;exact hn x;exact hl x) ho⟩
theorem ad2 {C:ez}{ev:bt}(aK:aD C ev){f:FuncId}{ops:Array Oper}:∀(l:List Oper) (st:St) (e:aS) (st':St),Hg C ev f ops l st=some (e,st')->∀(G:Gh) (w:World) (a:Act),yO C G w st a->
 ∀Q:Exit->Act->World->Prop,(∀ex a' w',Good C G w a e st' ex a' w'->Q ex a' w')->wpList C.P ops Q l a w:=by
 intro l
 induction l with
 | nil=>
   intro st e st' h G w a hst Q hQ
   simp[Hg] at h
   obtain⟨rfl,rfl⟩:=h
   exact hQ _ _ _ ⟨G,Step.refl hst.wf _ _,rfl,rfl,hst⟩
 | cons o r ih=>
   intro st e st' h G w a hst Q hQ
   simp only[Hg] at h
   refine wpList_step λK hK=> ?_
   split at h
   · simp at h
   · rename_i hwn
     rw[jC hwn hst.slots]
     refine hK _ _ (ih _ _ _ h G w _ (hst.unwanted o.dst) Q λex a' w' hg=>hQ _ _ _ (Good.comp (Step.refl hst.wf _ _) (put_defers _ _ _) hg))
   · rename_i hwn
     rw[jC hwn hst.slots]
     simp only[if_true]
     split at h
     · simp at h
     · rename_i v u hx
       refine(tK aK hx hst.wf hst.kg hst.slots hst.heap hst.fresh.not).wp ng.no (λx w' hr=> ?_) (λch w' hr=> ?_)
       · obtain⟨x',G',e1,hs,hu,hv⟩:=hr
         simp at e1;subst e1
         exact hK _ _ (ih _ _ _ h G' w' _ (hst.op o.dst hs hu hv) Q λex a' w'' hg=>hQ _ _ _ (Good.comp hs.any (put_defers _ _ _) hg))
       · obtain⟨x',G',e1,_⟩:=hr
         simp at e1
     · rename_i v u l hx
       simp at h
       obtain⟨rfl,rfl⟩:=h
       refine(tK aK hx hst.wf hst.kg hst.slots hst.heap hst.fresh.not).wp ng.no (λx w' hr=> ?_) (λch w' hr=> ?_)
       · obtain⟨x',G',e1,_⟩:=hr
         simp at e1
       · obtain⟨x',G',e1,hs,hu,hv⟩:=hr
         simp at e1;subst e1
         exact hQ _ _ _ ⟨G',hs.any,rfl,x',rfl,hv,HR.panicked hst.wf hst.heap hs hu,hst.slots.mono hs.le,_,hst.fresh.step hs⟩
end Go.Abs
namespace Go.Abs
open Go
theorem ad3 {es:List Edge}{acc:List Nat}{i:Nat}:∀{s:Nat},(es.foldl (λs e=>if Region.binds .any e then s|||2 ^ e.on|||acc.getD e.on 0 else s) s).testBit i=true->
 s.testBit i=true\/∃e∈es,Region.binds .any e=true/\(e.on=i\/(acc.getD e.on 0).testBit i=true):=by
 induction es with
 |nil=>intro s h;exact .inl h
 | cons e r ih=>
   intro s h
   simp only[List.foldl_cons] at h
   rcases ih h with h|⟨e',h1,h2⟩
   · by_cases hb:Region.binds .any e=true
     · rw[if_pos hb] at h
       rw[Nat.testBit_or,Nat.testBit_or] at h
       simp only[Bool.or_eq_true] at h
       rcases h with (h|h)|h
       · exact .inl h
       · rw[Nat.testBit_two_pow] at h
         exact .inr ⟨e,List.mem_cons_self,hb,.inl (by simpa using h)⟩
       · exact .inr ⟨e,List.mem_cons_self,hb,.inr h⟩
     · rw[if_neg hb] at h;exact .inl h
   · exact .inr ⟨e',List.mem_cons_of_mem _ h1,h2⟩
theorem L7:∀(l:List Oper) (acc:List Nat),(nI l acc).length=acc.length+l.length/\(∀j,j<acc.length->(nI l acc)[j]?=acc[j]?)/\
 ∀j o i,l[j]?=some o->iC (nI l acc) i (acc.length+j)=true->∃e∈o.after.toList,Region.binds .any e=true/\(e.on=i\/(e.on<acc.length+j/\iC (nI l acc) i e.on=true)):=by
 intro l
 induction l with
 |nil=>intro acc;simp[nI]
 | cons o r ih=>
   intro acc
   simp only[nI]
   generalize hx:o.after.toList.foldl (λs e=>if Region.binds .any e then s|||2 ^ e.on|||acc.getD e.on 0 else s) 0=x
   obtain⟨h1,h2,h3⟩:=ih (acc++[x])
   refine⟨by rw[h1];simp;omega,λj hj=>by rw[h2 j (by simp;omega),List.getElem?_append_left hj],λj o' i hj hb=> ?_⟩
   cases j with
   | zero=>
     simp at hj
     subst hj
     unfold iC at hb
     have e0:(nI r (acc++[x]))[acc.length]?=some x:=by
       rw[h2 acc.length (by simp)]
       simp
     rw[Nat.add_zero,List.getD,e0] at hb
     simp only[Option.getD_some] at hb
     rw[← hx] at hb
     rcases ad3 hb with h|⟨e,he,hbd,h⟩
     · simp at h
     · refine⟨e,he,hbd,h.imp id λh=> ?_⟩
       have hl:e.on<acc.length:=by
         rcases Nat.lt_or_ge e.on acc.length with h'|h'
         · exact h'
         · simp[List.getD,List.getElem?_eq_none h'] at h
       refine⟨by omega, ?_⟩
       unfold iC
       rw[List.getD,h2 e.on (by simp;omega),List.getElem?_append_left hl]
       exact h
   | succ j=>
     have:=h3 j o' i (by simpa using hj) (by rw[show(acc++[x]).length+j=acc.length+(j+1) from by simp;omega];exact hb)
     rw[show(acc++[x]).length+j=acc.length+(j+1) from by simp;omega] at this
     exact this
theorem WX:∀{l:List Oper} {i:Nat},xy i l=true->∀j o,l[j]?=some o->∀e∈o.after.toList,Region.binds .any e=true->e.on<i+j:=by
 intro l;induction l with
 |nil=>intro i _ j o h;simp at h
 | cons x r ih=>
  intro i h j o hj e he hb
  simp only[xy,Bool.and_eq_true] at h
  cases j with
  |zero=>
   simp at hj;subst hj
   have:=List.all_eq_true.1 h.1 e he
   simp[hb] at this
   omega
  |succ j=>
   have:=ih h.2 j o (by simpa using hj) e he hb
   omega
theorem S4 {ops:Array Oper}{b:Nat}{j:Oper}{rj:Rec}:∀{xs:List Oper} {rs:List Rec} {i:Nat},Cr ops b j rj i xs rs=true->∀k x r,xs[k]?=some x->rs[k]?=some r->b.testBit (i+k)=true\/vL ops x j r rj=true:=by
 intro xs;induction xs with
 |nil=>intro rs i _ k x r h;simp at h
 | cons x xs ih=>
  intro rs i h k y r hx hr
  cases rs with
  |nil=>simp at hr
  | cons r0 rs=>
   simp only[Cr,Bool.and_eq_true,Bool.or_eq_true] at h
   cases k with
   |zero=>simp at hx hr;subst hx;subst hr;exact h.1
   |succ k=>
    have:=ih h.2 k y r (by simpa using hx) (by simpa using hr)
    rw[show i+1+k=i+(k+1) from by omega] at this
    exact this
theorem Ny {ops:Array Oper}{l:List Oper}{recs:List Rec}:∀{bs:List Nat} {os:List Oper} {rs:List Rec} {n:Nat},nW ops l recs bs os rs n=true->
 ∀k b o r,bs[k]?=some b->os[k]?=some o->rs[k]?=some r->Cr ops b o r 0 (l.take (n+k)) (recs.take (n+k))=true:=by
 intro bs
 induction bs with
 |nil=>intro os rs n _ k b o r h;simp at h
 | cons b bs ih=>
  intro os rs n h k b' o r hb ho hr
  cases os with
  |nil=>simp at ho
  | cons o0 os=>
   cases rs with
   |nil=>simp at hr
   | cons r0 rs=>
    simp only[nW,Bool.and_eq_true] at h
    cases k with
    |zero=>simp at hb ho hr;subst hb;subst ho;subst hr;exact h.1
    |succ k=>
     have:=ih h.2 k b' o r (by simpa using hb) (by simpa using ho) (by simpa using hr)
     rw[show n+1+k=n+(k+1) from by omega] at this
     exact this
noncomputable def jt (l:List Oper)(recs:List Rec)(s0:xw)(D:Nat->Bool):Nat->xw
 |0=>s0
 |n+1=>match l[n]?,recs[n]? with
  |some o,some r=>if D n then(jt l recs s0 D n).after o r.res else jt l recs s0 D n
  |_,_=>jt l recs s0 D n
section
variable {l:List Oper}{recs:List Rec}{s0:xw}
theorem Jb {slots:List TV}{d:Option Tmp}{v:TV}{t:Nat}(h:d≠some t):(ey slots d v)[t]?=slots[t]?:=by
 cases d with
 |none=>rfl
 |some d=>simp only[ey,qU];rw[List.getElem?_set];simp at h;simp[h]
theorem Bz {s:xw}{o:Oper}{r:Hh}{t:Nat}(h:o.dst≠some t):(s.after o r).slots[t]?=s.slots[t]?:=by
 cases r<;>simp only[xw.after]<;>first|rfl|exact Jb h
theorem Lw {slots Nz:List TV}{d:Option Tmp}{v:TV}{t:Nat}(h:slots[t]?=Nz[t]?):(ey slots d v)[t]?=(ey Nz d v)[t]?:=by
 cases d with
 |none=>exact h
 | some d=>
   simp only[ey,qU]
   rw[List.getElem?_set,List.getElem?_set]
   by_cases e:d=t
   · subst e
     simp only[if_true]
     by_cases h1:d<slots.length
     · have:d<Nz.length:=by
         rw[List.getElem?_eq_getElem h1] at h
         exact(List.getElem?_eq_some_iff.1 h.symm).1
       simp[h1,this]
     · rw[List.getElem?_eq_none (Nat.le_of_not_lt h1)] at h
       have:=List.getElem?_eq_none_iff.1 h.symm
       have h2:¬d<Nz.length:=Nat.not_lt.2 this
       simp[h1,h2]
   · simp[e,h]
theorem qx {s s':xw}{o:Oper}{r:Hh}{t:Nat}(h:s.slots[t]?=s'.slots[t]?):(s.after o r).slots[t]?=(s'.after o r).slots[t]?:=by
 cases r<;>simp only[xw.after]<;>first|exact h|exact Lw h
theorem Lx {H H':Heap}{k k':Nm}{o:aP}(h:H.get k=H'.get k):(H.put k' o).get k=(H'.put k' o).get k:=by
 rw[Heap.Cv,Heap.Cv,h]
theorem Jc {H H':Heap}{k:Nm}:∀{u:Heap},H.get k=H'.get k->(H.eY u).get k=(H'.eY u).get k:=by
 intro u;induction u generalizing H H' with
 |nil=>intro h;exact h
 |cons p r ih=>intro h;exact ih (Lx h)
theorem ND {H:Heap}{k:Nm}:∀{u:Heap},k∉u.map (·.1)->(H.eY u).get k=H.get k:=by
 intro u;induction u generalizing H with
 |nil=>intro _;rfl
 |cons p r ih=>
  intro h
  simp only[List.map_cons,List.mem_cons,not_or] at h
  have e:(H.eY (p::r))=(H.put p.1 p.2).eY r:=rfl
  rw[e,ih h.2,Heap.Cv,if_neg (λx=>h.1 x.symm)]
theorem L8 {s:xw}{o:Oper}{r:Hh}{k:Nm}(h:k∉r.keys):(s.after o r).H.get k=s.H.get k:=by
 cases r<;>simp only[xw.after]<;>first|rfl|exact ND h
theorem rQ {s s':xw}{o:Oper}{r:Hh}{k:Nm}(h:s.H.get k=s'.H.get k):(s.after o r).H.get k=(s'.after o r).H.get k:=by
 cases r<;>simp only[xw.after]<;>first|exact h|exact Jc h
theorem CK {D D':Nat->Bool}{t:Nat}:∀{n:Nat},(∀j o,j<n->l[j]?=some o->o.dst=some t->D j=D' j)->(jt l recs s0 D n).slots[t]?=(jt l recs s0 D' n).slots[t]?:=by
 intro n;induction n with
 |zero=>intro _;rfl
 | succ n ih=>
   intro h
   have Pp:=ih λj o hj=>h j o (by omega)
   simp only[jt]
   split
   · rename_i o r ho hr
     by_cases hd:o.dst=some t
     · rw[h n o (by omega) ho hd]
       split
       · exact qx Pp
       · exact Pp
     · split<;>split<;>first|exact qx Pp|exact Pp|(rw[Bz hd];exact Pp)
   · exact Pp
theorem Aq {D D':Nat->Bool}{k:Nm}:∀{n:Nat},(∀j r,j<n->recs[j]?=some r->k∈r.res.keys->D j=D' j)->(jt l recs s0 D n).H.get k=(jt l recs s0 D' n).H.get k:=by
 intro n;induction n with
 |zero=>intro _;rfl
 | succ n ih=>
   intro h
   have Pp:=ih λj o hj=>h j o (by omega)
   simp only[jt]
   split
   · rename_i o r ho hr
     by_cases hd:k∈r.res.keys
     · rw[h n r (by omega) hr hd]
       split
       · exact rQ Pp
       · exact Pp
     · split<;>split<;>first|exact rQ Pp|exact Pp|(rw[L8 hd];exact Pp)
   · exact Pp
theorem Jd {slots:List TV}{d:Option Tmp}{v:TV}:(ey slots d v).length=slots.length:=by cases d<;>simp[ey,qU]
theorem after_length {s:xw}{o:Oper}{r:Hh}:(s.after o r).slots.length=s.slots.length:=by
 cases r<;>simp[xw.after,Jd]
theorem Je {D:Nat->Bool}:∀{n:Nat},(jt l recs s0 D n).slots.length=s0.slots.length:=by
 intro n;induction n with
 |zero=>rfl
 | succ n ih=>
   simp only[jt]
   split
   · split
     · rw[after_length];exact ih
     · exact ih
   · exact ih
theorem tL {D:Nat->Bool}{m:Nat}:∀{n:Nat},m<=n->(∀j,m<=j->j<n->D j=false)->jt l recs s0 D n=jt l recs s0 D m:=by
 intro n;induction n with
 |zero=>   intro h _;have:m=0:=by omega
           subst this;rfl
 | succ n ih=>
   intro h hD
   by_cases e:m=n+1
   · subst e;rfl
   · have Pp:=ih (by omega) λj h1 h2=>hD j h1 (by omega)
     simp only[jt]
     rw[hD n (by omega) (by omega)]
     split<;>simp[Pp]
theorem Ar {D D':Nat->Bool}:∀{n:Nat},(∀j,j<n->D j=D' j)->jt l recs s0 D n=jt l recs s0 D' n:=by
 intro n;induction n with
 |zero=>intro _;rfl
 |succ n ih=>
  intro h
  simp only[jt]
  rw[ih λj hj=>h j (by omega),h n (by omega)]
theorem WY {D:Nat->Bool}(hD:∀j,D j=true):∀{os:List Oper} {rs:List Rec} {i:Nat},os.length=rs.length->(∀j,os[j]?=l[i+j]?)->(∀j,rs[j]?=recs[i+j]?)->Cs os rs (jt l recs s0 D i)=jt l recs s0 D (i+os.length):=by
 intro os;induction os with
 |nil=>intro rs i hl _ _;cases rs<;>simp at hl;rfl
 | cons o os ih=>
  intro rs i hl h1 h2
  cases rs with
  |nil=>simp at hl
  | cons r rs=>
   have e1:=h1 0
   have e2:=h2 0
   simp at e1 e2
   simp only[Cs]
   have:(jt l recs s0 D i).after o r.res=jt l recs s0 D (i+1):=by
    simp only[jt,← e1,← e2,hD i,if_true]
   rw[this,ih (by simpa using hl) (λj=>by have:=h1 (j+1);simpa [Nat.add_assoc,Nat.add_comm 1 j] using this) (λj=>by have:=h2 (j+1);simpa [Nat.add_assoc,Nat.add_comm 1 j] using this)]
   congr 1
   simp;omega
def E4 (recs:List Rec):Nat->Option Nat
 |0=>none
 |n+1=>match recs[n]? with
  |some r=>mh n (E4 recs n) r.res
  |none=>E4 recs n
theorem WZ:∀{n j:Nat},E4 recs n=some j->j<n/\∃r v u lo,recs[j]?=some r/\r.res=.panic v u lo:=by
 intro n;induction n with
 |zero=>intro j h;simp[E4] at h
 | succ n ih=>
   intro j h
   simp only[E4] at h
   split at h
   · rename_i r hr
     unfold mh at h
     split at h
     · rename_i v u lo hp;simp at h;subst h;exact⟨by omega,r,v,u,lo,hr,hp⟩
     · obtain⟨h1,h2⟩:=ih h;exact⟨by omega,h2⟩
   · obtain⟨h1,h2⟩:=ih h;exact⟨by omega,h2⟩
theorem Gp:∀{n j:Nat} {r:Rec} {v:TV} {u:Heap} {lo:List Nm},j<n->recs[j]?=some r->r.res=.panic v u lo->(E4 recs n).isSome=true:=by
 intro n;induction n with
 |zero=>intro j r v u lo h;omega
 | succ n ih=>
   intro j r v u lo h hr hp
   simp only[E4]
   by_cases e:j=n
   · subst e
     simp[hr,hp,mh]
   · have:=ih (j:=j) (by omega) hr hp
     split
     · unfold mh
       split
       · rfl
       · exact this
     · exact this
theorem ad4 {C:ez}{ev:bt}{f:FuncId}{ops:Array Oper}{bs:List Nat}{t0:Nat}{D:Nat->Bool}(hD:∀j,D j=true):∀{os:List Oper} {rs:List Rec} {i:Nat},
 Hj C ev f ops bs t0 i os (jt l recs s0 D i) (E4 recs i)=some rs->(∀j,os[j]?=l[i+j]?)->(∀j,rs[j]?=recs[i+j]?)->
 rs.length=os.length/\∀j o,os[j]?=some o->∃r,rs[j]?=some r/\YF C ev f ops bs t0 (i+j) o (jt l recs s0 D (i+j)) (E4 recs (i+j))=some r:=by
 intro os
 induction os with
 |nil=>intro rs i h _ _;simp[Hj] at h;subst h;simp
 | cons o os ih=>
  intro rs i h h1 h2
  simp only[Hj] at h
  split at h
  · simp at h
  rename_i rec W4
  split at h
  case h_2=>simp at h
  rename_i rs' hrs
  simp at h
  subst h
  have e1:=h1 0
  have e2:=h2 0
  simp at e1 e2
  have es:(jt l recs s0 D i).after o rec.res=jt l recs s0 D (i+1):=by
   simp only[jt,← e1,← e2,hD i,if_true]
  have ep:mh i (E4 recs i) rec.res=E4 recs (i+1):=by
   simp only[E4,← e2]
  rw[es,ep] at hrs
  obtain⟨h3,h4⟩:=ih hrs (λj=>by have:=h1 (j+1);simpa [Nat.add_assoc,Nat.add_comm 1 j] using this) (λj=>by have:=h2 (j+1);simpa [Nat.add_assoc,Nat.add_comm 1 j] using this)
  refine⟨by simp[h3],λj o' hj=> ?_⟩
  cases j with
  |zero=>simp at hj;subst hj;exact⟨rec,rfl,W4⟩
  |succ j=>
   obtain⟨r,a,b⟩:=h4 j o' (by simpa using hj)
   refine⟨r,by simpa using a, ?_⟩
   rw[show i+(j+1)=i+1+j from by omega]
   exact b
theorem NF:∀{rs:List Rec} {i:Nat},lY i rs=none->∀r∈rs,∀v u lo,r.res≠ .panic v u lo:=by
 intro rs;induction rs with
 |nil=>intro i _ r h;simp at h
 | cons x rs ih=>
   intro i h r hr v u lo e
   simp only[lY] at h
   split at h
   · simp at h
   · rename_i hne
     rcases List.mem_cons.1 hr with rfl|hr
     · exact hne _ _ _ e
     · exact ih h r hr v u lo e
theorem CL:∀{rs:List Rec} {i j:Nat} {v:TV} {u:Heap} {lo:List Nm},lY i rs=some (j,v,u,lo)->∃k r,j=i+k/\rs[k]?=some r/\r.res=.panic v u lo:=by
 intro rs;induction rs with
 |nil=>intro i j v u lo h;simp[lY] at h
 | cons x rs ih=>
   intro i j v u lo h
   simp only[lY] at h
   split at h
   · rename_i v' u' lo' hx
     simp at h
     obtain⟨rfl,rfl,rfl,rfl⟩:=h
     exact⟨0,x,rfl,rfl,hx⟩
   · obtain⟨k,r,h1,h2,h3⟩:=ih h
     exact⟨k+1,r,by omega,by simpa using h2,h3⟩
theorem S5 {b:Nat}{k:Nm}:∀{rs:List Rec} {i:Nat},k∉Ex b i rs->∀j r,rs[j]?=some r->k∈r.res.keys->b.testBit (i+j)=true:=by
 intro rs;induction rs with
 |nil=>intro i _ j r h;simp at h
 | cons x rs ih=>
  intro i h j r hr hk
  simp only[Ex,List.mem_append,not_or] at h
  cases j with
  |zero=>
   simp at hr;subst hr
   by_cases hb:b.testBit i=true
   · exact hb
   · rw[if_neg hb] at h;exact absurd hk h.1
  |succ j=>
   have:=ih h.2 j r (by simpa using hr) hk
   rw[show i+1+j=i+(j+1) from by omega] at this
   exact this
end
theorem wA {L:List Nat}:∀{slots:List TV} {i j:Nat},(kM L i slots)[j]?=if i+j∈L then slots[j]? else(slots[j]?).map λ_=>dh:=by
 intro slots;induction slots with
 |nil=>intro i j;simp[kM]
 | cons v r ih=>
  intro i j
  simp only[kM]
  cases j with
  |zero=>by_cases hi:i∈L<;>simp[hi]
  |succ j=>
   simp only[List.getElem?_cons_succ]
   rw[ih,show i+1+j=i+(j+1) from by omega]
theorem NG {L:List Nat}:∀{slots:List TV} {i:Nat},(kM L i slots).length=slots.length:=by
 intro slots;induction slots with
 |nil=>intro i;rfl
 |cons v r ih=>intro i;simp[kM,ih]
theorem PZ {L:List Nat}{s s':List TV}(hl:s.length=s'.length)(h:∀t∈L,s[t]?=s'[t]?):kM L 0 s=kM L 0 s':=by
 apply List.ext_getElem?;intro j;rw[wA,wA,Nat.zero_add];split
 ·rename_i hj;exact h j hj
 ·by_cases hj:j<s.length
  ·rw[List.getElem?_eq_getElem hj,List.getElem?_eq_getElem (by omega:j<s'.length)];rfl
  ·rw[List.getElem?_eq_none (by omega),List.getElem?_eq_none (by omega:s'.length<=j)]
def CM (L:List Nat)(a:Act):Act:={a with tmps:=(a.tmps.toList.zipIdx.map λp=>if L.contains p.2 then p.1 else undef).toArray}
theorem E5 {L:List Nat}{a:Act}{t:Nat}:(CM L a).tmps[t]?=(a.tmps[t]?).map λv=>if L.contains t then v else undef:=by
 unfold CM;simp only[List.getElem?_toArray,List.getElem?_map,List.getElem?_zipIdx];cases h:a.tmps[t]? <;>simp[h]
theorem ad5 {G:Gh}{slots:List TV}{a:Act}(h:SR G slots a)(L:List Nat):SR G (kM L 0 slots) (CM L a):=by
 refine⟨by have:=h.1;rw[NG];simp[CM,← this],λj c v hc hv=> ?_⟩;rw[wA,Nat.zero_add] at hc;have Bu:(CM L a).tmps[j]?=some v:=by simpa using hv
 rw[E5] at Bu;cases ha:a.tmps[j]? with
 |none=>simp[ha] at Bu
 | some u=>
   simp[ha] at Bu
   by_cases hj:j∈L
   · simp only[hj,if_true] at hc Bu
     subst Bu
     exact h.2 j c u hc (by simpa using ha)
   · simp only[hj,if_false] at hc Bu
     subst Bu
     cases hs:slots[j]? with
     |none=>simp[hs] at hc
     |some x=>simp[hs] at hc;subst hc;exact q5 G
theorem W5 {L:List Nat}{a:Act}{x:Operand}(h:∀t,x=.tmp t->t∈L):(CM L a).eval x=a.eval x:=by
 cases x with
 |tmp t=>
  have:=h t rfl
  simp only[Act.eval]
  rw[Array.getD_eq_getD_getElem?,Array.getD_eq_getD_getElem?,E5]
  cases ha:a.tmps[t]? <;>simp[this]
 |_=>rfl
theorem L9 {ops:Array Oper}{o:Oper}{a:Act}(hs:∀cs b,o.op≠ .select cs b):execOp (CM (o.looksAt ops) a).eval o=execOp a.eval o:=
 execOp_congr o hs λx hx=>W5 λt e=>by
  subst e;exact List.mem_append_left _ (List.mem_filterMap.2 ⟨.tmp t,by simpa using hx,rfl⟩)
theorem zb {ops:Array Oper}{o:Oper}{a:Act}:Region.wanted o (yielded ops (CM (o.looksAt ops) a).tmps)=Region.wanted o (yielded ops a.tmps):=by
 unfold Region.wanted;cases hg:o.guard with
 |none=>rfl
 | some gw=>
  obtain⟨g,want⟩:=gw
  have hy:yielded ops (CM (o.looksAt ops) a).tmps g=yielded ops a.tmps g:=by
   unfold yielded
   cases ht:(ops[g]?).bind (·.dst) with
   |none=>rfl
   |some t=>
    have hm:t∈o.looksAt ops:=by simp[Oper.looksAt,hg,ht]
    simp only[Option.bind_some]
    rw[E5]
    cases ha:a.tmps[t]? <;>simp[hm]
  simp only[hy]
theorem W6 {H:Heap}{k:Nm}{o:aP}:∀{fp:List Nm},(oD H fp).get k=some o->k∈fp/\H.get k=some o:=by
 intro fp;induction fp with
 |nil=>intro h;simp[oD,Heap.get] at h
 | cons x r ih=>
   intro h
   unfold oD at h
   rw[List.filterMap_cons] at h
   cases hx:H.get x with
   | none=>
     simp only[hx,Option.map_none] at h
     obtain⟨h1,h2⟩:=ih h
     exact⟨List.mem_cons_of_mem _ h1,h2⟩
   | some y=>
     simp only[hx,Option.map_some,Heap.get] at h
     split at h
     · rename_i e;simp at h;subst h;subst e;exact⟨List.mem_cons_self,hx⟩
     · obtain⟨h1,h2⟩:=ih h
       exact⟨List.mem_cons_of_mem _ h1,h2⟩
end Go.Abs
