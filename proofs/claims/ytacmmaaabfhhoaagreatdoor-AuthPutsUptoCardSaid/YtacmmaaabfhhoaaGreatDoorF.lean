/- Walking code over abstract states: less may be told of a state at any time, and names may be other ones. -/
import Derived.Test.YtacmmaaabfhhoaaGreatDoorD
set_option linter.unusedVariables false
set_option linter.unusedSimpArgs false
noncomputable section
namespace Go.Abs
open Go
def Ia (S:List Nm):Nm->Option Nm
 |.arg i=>some (.arg i)
 |.loc p=>(idxOf (.loc p) S 0).map λj=>.loc [j]
def NS (σ:Nm->Option Nm):List TV->List TV->Prop
 | [],[]=>True
 |x::xs,y::ys=>(y=.any\/x.rn σ=some y)/\NS σ xs ys
 |_,_=>False
def XQ (σ:Nm->Option Nm)(o o':aO):Prop:=o.rn σ=some o'\/∃ty cs cs',o=.cells ty cs/\o'=.cells ty cs'/\NS σ cs cs'
def B8 (σ:Nm->Option Nm)(H:Heap):Heap->Prop
 | []=>True
 |(k',o')::r=>(∃k o,H.get k=some o/\σ k=some k'/\XQ σ o o')/\B8 σ H r
def Gh.to (G:Gh)(S:List Nm):Gh:={
 F:=G.F
 mu:=λk=>match k with
  |.arg i=>G.mu (.arg i)
  |.loc [j]=>(match S[j]? with|some x=>G.mu x|none=>0)
  |.loc _=>0
 arr:=λk=>match k with
  |.arg i=>G.arr (.arg i)
  |.loc [j]=>(match S[j]? with|some x=>G.arr x|none=>none)
  |.loc _=>none
 dom:=λk=>match k with
  |.arg i=>G.dom (.arg i)
  |.loc [j]=>j<S.length
  |.loc _=>False}
section
variable {G:Gh}{w:World}{S:List Nm}
theorem Bf:Seen G (G.to S) (Ia S):=by
 refine⟨λ_ _ _ h=>h,λk k' hd hs=> ?_⟩;cases k with
 |arg i=>simp[Ia] at hs;subst hs;exact⟨hd,rfl,rfl⟩
 |loc p=>
  simp only[Ia] at hs
  cases h:idxOf (.loc p) S 0<;>simp[h] at hs
  rename_i i
  subst hs
  obtain⟨q,h1,h2⟩:=p8 h
  have:i=q:=by omega
  subst this
  have hl:=(List.getElem?_eq_some_iff.1 h2).1
  refine⟨hl, ?_, ?_⟩<;>simp[Gh.to,h2]
theorem zG {k:Nm}(h:(G.to S).dom k):(∃i,k=.arg i/\G.dom (.arg i))\/∃j,∃hj:j<S.length,k=.loc [j]/\(G.to S).mu k=G.mu S[j]/\(G.to S).arr k=G.arr S[j]:=by
 match k,h with
 |.arg i,h=>exact .inl ⟨i,rfl,h⟩
 |.loc [j],h=>
  have hj:j<S.length:=h
  exact .inr ⟨j,hj,rfl,by simp[Gh.to,hj],by simp[Gh.to,hj]⟩
theorem XR (hw:WF G w)(hn:S.Nodup)(hd:∀k∈S,G.dom k)(hl:∀k∈S,k.eR=true):WF (G.to S) w:=by
 refine⟨hw.F,λk k' d d' a a' e=> ?_,λk d=> ?_⟩
 ·have al:∀{A B:Gh} {x y:Nm},A.arr x=B.arr y->A.alive x->B.alive y:=λe a n c q=>a n c (e.trans q)
  rcases zG d with ⟨i,rfl,di⟩|⟨i,hi,rfl,mi,ri⟩<;>rcases zG d' with ⟨j,rfl,dj⟩|⟨j,hj,rfl,mj,rj⟩
  ·exact hw.inj _ _ di dj a a' e
  ·rw[mj] at e;have:=hw.inj _ _ di (hd _ (List.getElem_mem hj)) a (al rj a') e;have h2:=hl _ (List.getElem_mem hj);rw[← this] at h2;simp[Nm.eR] at h2
  ·rw[mi] at e;have:=hw.inj _ _ (hd _ (List.getElem_mem hi)) dj (al ri a) a' e;have h2:=hl _ (List.getElem_mem hi);rw[this] at h2;simp[Nm.eR] at h2
  ·rw[mi,mj] at e;have:=hw.inj _ _ (hd _ (List.getElem_mem hi)) (hd _ (List.getElem_mem hj)) (al ri a) (al rj a') e;rw[BZ hn hi hj this]
 ·rcases zG d with ⟨i,rfl,di⟩|⟨i,hi,rfl,mi,_⟩
  ·exact hw.lt _ di
  ·rw[mi];exact hw.lt _ (hd _ (List.getElem_mem hi))
theorem B9 {G':Gh}{σ:Nm->Option Nm}(h:Seen G G' σ):∀{xs ys:List TV} {vs:List Value},cr G xs vs->NS σ xs ys->cr G' ys vs
 | [],[],vs,hv,_=>by have:=hv.1;simp at this;subst this;exact cr.nil _
 |x::xs,y::ys,vs,hv,hi=>by
  obtain⟨v,vs',rfl,h1,h2⟩:=hv.gQ
  obtain⟨hy,hr⟩:=hi
  refine cr.cons ?_ (B9 h h2 hr)
  rcases hy with rfl|hy
  · exact .any _
  · exact h1.rn h hy
 | [],_::_,_,_,hi=>hi.elim
 |_::_,[],_,_,hi=>hi.elim
theorem NT {σ:Nm->Option Nm}{H:Heap}:∀{H':Heap} {k':Nm} {o':aO},B8 σ H H'->H'.get k'=some o'->∃k o,H.get k=some o/\σ k=some k'/\XQ σ o o':=by
 intro H';induction H' with
 |nil=>intro k' o' _ h;simp[Heap.get] at h
 |cons p r ih=>
  intro k' o' hi h
  obtain⟨k0,o0⟩:=p
  simp only[Heap.get] at h
  split at h
  · rename_i e;subst e;simp at h;subst h;exact hi.1
  · exact ih hi.2 h
theorem aby {H H':Heap}(hH:HR G w H)(h:B8 (Ia S) H H'):HR (G.to S) w H':=by
 intro k' o' hk;obtain⟨k,o,h1,h2,h3⟩:=NT h hk;obtain⟨hd,ho⟩:=hH _ _ h1;obtain⟨d',m',a'⟩:=(Bf (G:=G) (S:=S)).at_ k k' hd h2;refine⟨d', ?_⟩;rcases h3 with h3|⟨ty,cs,cs',rfl,rfl,h3⟩
 ·exact OR.rn Bf (λ_ _ _=>rfl) ⟨m',a'⟩ ho h3
 ·obtain⟨ha,vs,ty',fr,hh,ht,hv,hf⟩:=ho;exact⟨by rw[a'];exact ha,vs,ty',fr,by rw[m'];exact hh,ht,B9 Bf hv h3,λp=>by rw[m'];exact hf p⟩
theorem Vx {G0:Gh}{w0:World}(h0:∀p,¬G0.dom (.loc p))(h:cx G0 w0 G w)(hn:S.Nodup)(hd:∀k∈S,G.dom k)(hl:∀k∈S,k.eR=true):cx G0 w0 (G.to S) w:=by
 have arg:∀k,G0.dom k->∃i,k=.arg i:=λk hk=>by
  cases k with
  |arg i=>exact⟨i,rfl⟩
  |loc p=>exact absurd hk (h0 p)
 refine⟨⟨h.le.F,λk d=> ?_,λk d a=> ?_,λk n e c d a=> ?_⟩,XR h.wf hn hd hl,λk _ hk=>absurd trivial hk,h.blocks,λk d=> ?_,λk d=> ?_,h.size,h.os,h.tape,h.output⟩
 ·obtain⟨i,rfl⟩:=arg k d;exact h.le.dom _ d
 ·obtain⟨i,rfl⟩:=arg k d;exact h.le.plain _ d a
 ·obtain⟨i,rfl⟩:=arg k d;exact h.le.arr _ n e c d a
 ·rcases zG d with ⟨i,rfl,di⟩|⟨i,hi,rfl,_,_⟩
  ·exact h.news _ di
  ·exact .inr rfl
 ·rcases zG d with ⟨i,rfl,di⟩|⟨i,hi,rfl,mi,_⟩
  ·exact h.fresh _ di
  ·rw[ mi];rcases h.fresh _ (hd _ (List.getElem_mem hi)) with ⟨k0,d0,e0,o⟩|h2
   ·refine .inl ⟨k0,d0,e0, ?_⟩;rcases o with rfl|o
    ·obtain⟨j,e⟩:=arg _ d0;have h2:=hl _ (List.getElem_mem hi);rw[e] at h2;simp[Nm.eR] at h2
    ·exact .inr o
   ·exact .inr h2
end
section
variable {C:cE}
def Re (C:cE)(st st':St):Prop:=∀(G0:Gh) (w0:World) (G:Gh) (w:World) (a:Act),(∀p,¬G0.dom (.loc p))->cx G0 w0 G w->tV C G w st a->∃G',cx G0 w0 G' w/\tV C G' w st' a
theorem Re.refl (st:St):Re C st st:=λ_ _ G _ _ _ hs hst=>⟨G,hs,hst⟩
theorem Re.of_eq {st st':St}(h:st=st'):Re C st st':=h▸Re.refl st
theorem Re.mk (S:List Nm){sl sl':List TV}{H H':Heap}{t t':Nat}(h1:NS (Ia S) sl sl')(h2:B8 (Ia S) H H')(hn:S.Nodup)(hl:S.all Nm.eR=true)(hS:∀k∈S,(H.get k).isSome=true)(ht:S.length<=t'):
 Re C ⟨sl,H,t⟩ ⟨sl',H',t'⟩:=by
 intro G0 w0 G w a h0 hs hst
 have hd:∀k∈S,G.dom k:=λk hk=>by
  obtain⟨o,ho⟩:=Option.isSome_iff_exists.1 (hS k hk);exact(hst.heap k o ho).1
 have hl':∀k∈S,k.eR=true:=List.all_eq_true.1 hl
 refine⟨G.to S,Vx h0 hs hn hd hl',XR hst.wf hn hd hl',λg cs hg=>hst.iC g cs hg,B9 Bf hst.slots h1,aby hst.heap h2,λp hp=> ?_⟩
 rcases zG hp with ⟨i,e,_⟩|⟨j,hj,e,_,_⟩
 ·cases e
 ·injection e with e;exact⟨j,[],e,by show j<t';omega⟩
def AW (C:cE)(c:Code)(st:St)(Q:aJ->St->Prop):Prop:=
 ∀(G0:Gh) (w0:World) (G:Gh) (w:World) (a:Act),(∀p,¬G0.dom (.loc p))->cx G0 w0 G w->tV C G w st a->
  c.wp C.P (λex a' w'=>∃e st',Q e st'/\Good C G0 w0 a e st' ex a' w') a w
theorem Good.Ca {G:Gh}{w:World}{a a1:Act}{e:aJ}{st':St}{ex:Exit}{a':Act}{w':World}(hd:a1.defers=a.defers)(k:Good C G w a1 e st' ex a' w'):Good C G w a e st' ex a' w':=by
 obtain⟨G',h1,h2,h3⟩:=k;exact⟨G',h1,h2.trans hd,h3⟩
theorem AW.mono {c:Code}{st:St}{Q Q':aJ->St->Prop}(h:AW C c st Q)(hq:∀e st',Q e st'->Q' e st'):AW C c st Q':=
 λG0 w0 G w a h0 hs hst=>wp_mono (h G0 w0 G w a h0 hs hst) λ_ _ _ ⟨e,st',h1,h2⟩=>⟨e,st',hq _ _ h1,h2⟩
theorem AW.re {c:Code}{st st':St}{Q:aJ->St->Prop}(hr:Re C st st')(h:AW C c st' Q):AW C c st Q:=λG0 w0 G w a h0 hs hst=>by
 obtain⟨G',hs',lK⟩:=hr G0 w0 G w a h0 hs hst;exact h G0 w0 G' w a h0 hs' lK
theorem AW.eval {ev:aX}{f:FuncId}{fuel:Nat}(hm:C.P.prog.follows .mixedOrders=true)(az:aF C ev){c:Code}{st st':St}{e:aJ}{Q:aJ->St->Prop}(h:evalCode C ev f fuel c st=some (e,st'))(hq:Q e st'):AW C c st Q:=
 λG0 w0 G w a _ hs hst=>wp_mono (lU hm az c _ _ _ h G w a hst) λ_ _ _ hg=>⟨e,st',hq,Good.comp hs rfl hg⟩
theorem AW.skip {st:St}{Q:aJ->St->Prop}(hq:Q .normal st):AW C .skip st Q:=
 λG0 w0 G w a _ hs hst=>wp_skip ⟨.normal,st,hq,G,hs,rfl,rfl,hst⟩
theorem AW.label {l}{st:St}{Q:aJ->St->Prop}(hq:Q .normal st):AW C (.label l) st Q:=
 λG0 w0 G w a _ hs hst=>wp_label ⟨.normal,st,hq,G,hs,rfl,rfl,hst⟩
theorem AW.exit {id:Nat}{st:St}{Q:aJ->St->Prop}(hq:Q (.exit id) st):AW C (.exit id) st Q:=
 λG0 w0 G w a _ hs hst=>wp_exit ⟨.exit id,st,hq,G,hs,rfl,rfl,hst⟩
theorem AW.ret {st:St}{Q:aJ->St->Prop}(hq:Q .ret st):AW C .ret st Q:=
 λG0 w0 G w a _ hs hst=>wp_ret ⟨.ret,st,hq,G,hs,rfl,rfl,hst⟩
def Vy (C:cE)(y:Code)(Q:aJ->St->Prop):aJ->St->Prop
 |.normal,st=>AW C y st Q
 |e,st=>Q e st
theorem AW.seq {x y:Code}{st:St}{Q:aJ->St->Prop}(h:AW C x st (Vy C y Q)):AW C (.seq x y) st Q:=by
 intro G0 w0 G w a h0 hs hst;refine wp_seq (wp_mono (h G0 w0 G w a h0 hs hst) λex a1 w1 ⟨e,Vu,hq,hg⟩=> ?_);cases e with
 |normal=>
  obtain⟨rfl,hd,G1,hs1,iz⟩:=hg.nj
  exact wp_mono (hq G0 w0 G1 w1 a1 h0 hs1 iz) λ_ _ _ ⟨e,st',h1,h2⟩=>⟨e,st',h1,Good.Ca hd h2⟩
 |exit id=>exact fH (hg.fG (by simp)) ⟨_,_,hq,hg⟩
 |ret=>exact fH (hg.fG (by simp)) ⟨_,_,hq,hg⟩
 |panic v=>exact fH (hg.fG (by simp)) ⟨_,_,hq,hg⟩
theorem AW.cond {c:Operand}{x y:Code}{st:St}{b:Bool}{Q:aJ->St->Prop}(hc:bU C st.slots c=some (.t (.bool b)))(h1:b=true->AW C x st Q)(h2:b=false->AW C y st Q):AW C (.cond c x y) st Q:=by
 intro G0 w0 G w a h0 hs hst;cases b with
 |true=>exact wp_cond_true (bM hst.slots hst.iC hc).bool (h1 rfl G0 w0 G w a h0 hs hst)
 |false=>exact wp_cond_false (bM hst.slots hst.iC hc).bool (h2 rfl G0 w0 G w a h0 hs hst)
def Out (id:Nat)(Q:aJ->St->Prop):aJ->St->Prop
 |.exit id',st=>if id'=id then Q .normal st else Q (.exit id') st
 |e,st=>Q e st
theorem AW.block {id:Nat}{c:Code}{st:St}{Q:aJ->St->Prop}(h:AW C c st (Out id Q)):AW C (.block id c) st Q:=by
 intro G0 w0 G w a h0 hs hst;refine wp_block (wp_mono (h G0 w0 G w a h0 hs hst) λex a1 w1 ⟨e,Vu,hq,hg⟩=> ?_);cases e with
 |normal=>obtain⟨G1,hs,hd,rfl,iz⟩:=hg;exact⟨_,_,hq,G1,hs,hd,rfl,iz⟩
 | exit id'=>
   obtain⟨G1,hs,hd,rfl,iz⟩:=hg
   simp only[Out] at hq
   by_cases e1:id'=id
   · rw[if_pos e1] at hq
     simp only[Exit.inBlock,e1,if_true]
     exact⟨_,_,hq,G1,hs,hd,rfl,iz⟩
   · rw[if_neg e1] at hq
     simp only[Exit.inBlock,e1,if_false]
     exact⟨_,_,hq,G1,hs,hd,rfl,iz⟩
 |ret=>obtain⟨G1,hs,hd,rfl,iz⟩:=hg;exact⟨_,_,hq,G1,hs,hd,rfl,iz⟩
 |panic v=>obtain⟨G1,hs,hd,x,rfl,iz⟩:=hg;exact⟨_,_,hq,G1,hs,hd,x,rfl,iz⟩
def Round {α:Type}(C:cE)(st:α->St)(ok:α->Prop)(μ:α->Nat)(m:Nat)(Q:aJ->St->Prop):aJ->St->Prop
 |.normal,s=>∃y,ok y/\μ y<m/\Re C s (st y)
 |e,s=>Q e s
theorem AW.loop {α:Type}(st:α->St)(ok:α->Prop)(μ:α->Nat){body:Code}{Q:aJ->St->Prop}(x0:α){s0:St}(hr:Re C s0 (st x0))(h0:ok x0)
 (h:∀x,ok x->AW C body (st x) (Round C st ok μ (μ x) Q)):AW C (.loop body) s0 Q:=by
 refine AW.re hr ?_
 intro G0 w0 G w a hn hs hst
 have key:∀m x,μ x<m->ok x->∀(G:Gh) (w:World) (a1:Act),a1.defers=a.defers->cx G0 w0 G w->tV C G w (st x) a1->
  Code.rounds C.P body (λex a' w'=>∃e st',Q e st'/\Good C G0 w0 a e st' ex a' w') m a1 w:=by
  intro m
  induction m with
  |zero=>intro x hx;omega
  | succ m ih=>
   intro x hx hok G w a1 hd hs hst
   rw[rounds_succ]
   refine wp_mono (h x hok G0 w0 G w a1 hn hs hst) λex a2 w2 ⟨e,Vu,hq,hg⟩=> ?_
   cases e with
   |normal=>
    obtain⟨rfl,Ek,G1,hs1,iz⟩:=hg.nj
    obtain⟨y,hy,hlt,Ib⟩:=hq
    obtain⟨G2,wY,nr⟩:=Ib G0 w0 G1 w2 a2 hn hs1 iz
    exact ih y (by omega) hy G2 w2 a2 (Ek.trans hd) wY nr
   |exit id=>exact fH (hg.fG (by simp)) ⟨_,_,hq,Good.Ca hd hg⟩
   |ret=>exact fH (hg.fG (by simp)) ⟨_,_,hq,Good.Ca hd hg⟩
   |panic v=>exact fH (hg.fG (by simp)) ⟨_,_,hq,Good.Ca hd hg⟩
 exact wp_loop_rounds (μ x0+1) (key _ x0 (Nat.lt_succ_self _) h0 G w a rfl hs hst)
def To {α:Type}(C:cE)(st:α->St)(ok:α->Prop):aJ->St->Prop:=λe s=>e=.normal/\∃z,ok z/\Re C s (st z)
theorem AW.cut {α:Type}(st:α->St)(ok:α->Prop){x y:Code}{s0:St}{Q:aJ->St->Prop}(h1:AW C x s0 (To C st ok))(h2:∀z,ok z->AW C y (st z) Q):AW C (.seq x y) s0 Q:=by
 refine AW.seq (AW.mono h1 ?_);rintro e s ⟨rfl,z,hz,hr⟩;exact AW.re hr (h2 z hz)
def cD (C:cE)(ops:Array Oper)(l:List Oper)(st:St)(Q:aJ->St->Prop):Prop:=
 ∀(G0:Gh) (w0:World) (G:Gh) (w:World) (a:Act),(∀p,¬G0.dom (.loc p))->cx G0 w0 G w->tV C G w st a->
  ∀R:Exit->Act->World->Prop,(∀e st' ex a' w',Q e st'->Good C G0 w0 a e st' ex a' w'->R ex a' w')->wpList C.P ops R l a w
theorem AW.region {id:Nat}{ops:Array Oper}{st:St}{Q:aJ->St->Prop}(h:cD C ops ops.toList st Q):AW C (.region id ops false) st Q:=
 λG0 w0 G w a h0 hs hst=>wp_region_list (h G0 w0 G w a h0 hs hst _ λe st' _ _ _ h1 h2=>⟨e,st',h1,h2⟩)
theorem AW.drawn {ev:aX}{f:FuncId}(hm:C.P.prog.follows .mixedOrders=true)(az:aF C ev){id:Nat}{ops:Array Oper}{st st':St}{e:aJ}{Q:aJ->St->Prop}(h:vz C ev f ops st=some (e,st'))(hq:Q e st'):AW C (.region id ops true) st Q:=
 λG0 w0 G w a _ hs hst=>B6 hm az h hst λ_ _ _ hg=>⟨e,st',hq,Good.comp hs rfl hg⟩
section ops
variable {ops:Array Oper}{Q:aJ->St->Prop}{S:List TV}{H:Heap}{t:Nat}{o:Oper}{r:List Oper}
theorem cD.nil {st:St}(hq:Q .normal st):cD C ops [] st Q:=
 λG0 w0 G w a _ hs hst R hR=>hR _ _ _ _ _ hq ⟨G,hs,rfl,rfl,hst⟩
theorem cD.step {ev:aX}(az:aF C ev){f:FuncId}{v:TV}{u:Heap}(hw:dL ops S o=some true)(hx:aR C ev f H S t o=some (.val v u))(k:cD C ops r ⟨cI S o.dst v,H.dH u,t+1⟩ Q):cD C ops (o::r) ⟨S,H,t⟩ Q:=by
 intro G0 w0 G w a h0 hs hst R hR;refine wpList_step λK hK=> ?_
 rw[ie hw hst.slots];simp only[if_true];refine(qa az hx hst.wf hst.iC hst.slots hst.heap hst.fresh.not).wp kY.no (λx w' hr=> ?_) (λch w' hr=> ?_)
 ·obtain⟨x',G',e1,hs',hu,hv⟩:=hr;simp at e1;subst e1;exact hK _ _ (k G0 w0 G' w' _ h0 (cx.comp hs hs'.any) (hst.op o.dst hs' hu hv) R λe st' _ _ _ h1 h2=>hR _ _ _ _ _ h1 (Good.Ca (put_defers _ _ _) h2))
 ·obtain⟨x',G',e1,_⟩:=hr;simp at e1
theorem cD.panics {ev:aX}(az:aF C ev){f:FuncId}{v:TV}{u:Heap}{l:List Nm}(hw:dL ops S o=some true)(hx:aR C ev f H S t o=some (.panic v u l))(k:Q (.panic v) ⟨S,(H.sC l).dH u,t+1⟩):cD C ops (o::r) ⟨S,H,t⟩ Q:=by
 intro G0 w0 G w a h0 hs hst R hR;refine wpList_step λK hK=> ?_
 rw[ie hw hst.slots];simp only[if_true];refine(qa az hx hst.wf hst.iC hst.slots hst.heap hst.fresh.not).wp kY.no (λx w' hr=> ?_) (λch w' hr=> ?_)
 ·obtain⟨x',G',e1,_⟩:=hr;simp at e1
 ·obtain⟨x',G',e1,hs',hu,hv⟩:=hr;simp at e1;subst e1;exact hR _ _ _ _ _ k ⟨G',cx.comp hs hs'.any,rfl,x',rfl,hv,HR.panicked hst.wf hst.heap hs' hu,hst.slots.mono hs'.le,_,hst.fresh.step hs'⟩
theorem cD.unwanted (hw:dL ops S o=some false)(k:cD C ops r ⟨cI S o.dst bR,H,t+1⟩ Q):cD C ops (o::r) ⟨S,H,t⟩ Q:=by
 intro G0 w0 G w a h0 hs hst R hR;refine wpList_step λK hK=> ?_
 rw[ie hw hst.slots];exact hK _ _ (k G0 w0 G w _ h0 hs (hst.unwanted o.dst) R λe st' _ _ _ h1 h2=>hR _ _ _ _ _ h1 (Good.Ca (put_defers _ _ _) h2))
end ops
def ai (C:cE)(g:FuncId)(args:List TV)(aP:List aO)(r:bz):Prop:=
 ∀(G:Gh) (w:World) (vs:List Value),WF G w->iA C G->uD G aP.length->HR G w (bK 0 aP)->cr G args vs->mG C.P g vs.toArray w (p9 G w aP.length r)
def mX (C:cE)(g:FuncId)(s:List TV->List aO->Option bz):Prop:=∀args aP r,s args aP=some r->ai C g args aP r
def mI:aX:=λ_ _ _=>none
def mY (f:FuncId)(s:List TV->List aO->Option bz)(ev:aX):aX:=λg alA os=>if g=f then s alA os else ev g alA os
theorem aI:aF C mI:=λ_ _ _ _ h=>by simp[mI] at h
theorem av {f:FuncId}{s:List TV->List aO->Option bz}{ev:aX}(h1:mX C f s)(h2:aF C ev):aF C (mY f s ev):=by
 intro g args aP r h;unfold mY at h;split at h
 ·rename_i e;subst e;exact h1 args aP r h
 ·exact h2 g args aP r h
end
end Go.Abs
end
