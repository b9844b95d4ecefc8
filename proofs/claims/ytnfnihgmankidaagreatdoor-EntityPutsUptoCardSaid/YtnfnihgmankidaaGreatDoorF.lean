/- Walking code over abstract states: less may be told of a state at any time, and names may be other ones. -/
import Derived.Test.YtnfnihgmankidaaGreatDoorD
set_option linter.unusedVariables false
set_option linter.unusedSimpArgs false
noncomputable section
namespace Go.Abs
open Go
def Kj (S:List Nm):Nm->Option Nm
 |.arg i=>some (.arg i)
 |.loc p=>(idxOf (.loc p) S 0).map λj=>.loc [j]
def q8 (σ:Nm->Option Nm):List TV->List TV->Prop
 | [],[]=>True
 |x::xs,y::ys=>(y=.any\/x.rn σ=some y)/\q8 σ xs ys
 |_,_=>False
def ZY (σ:Nm->Option Nm)(o o':aO):Prop:=o.rn σ=some o'\/∃ty cs cs',o=.cells ty cs/\o'=.cells ty cs'/\q8 σ cs cs'
def DA (σ:Nm->Option Nm)(H:Heap):Heap->Prop
 | []=>True
 |(k',o')::r=>(∃k o,H.get k=some o/\σ k=some k'/\ZY σ o o')/\DA σ H r
def Gh.to (G:Gh)(S:List Nm):Gh:={
 F:=G.F
 mu:=λk=>match k with
  |.arg i=>G.mu (.arg i)
  |.loc [j]=>(match S[j]? with|some x=>G.mu x|none=>0)
  |.loc _=>0
 arr:=λk=>match k with
  |.arg i=>G.arr (.arg i)
  |.loc [j]=>(match S[j]? with|some x=>G.arr x|none=>none)
  |.loc _=>none
 dom:=λk=>match k with
  |.arg i=>G.dom (.arg i)
  |.loc [j]=>j<S.length
  |.loc _=>False}
section
variable {G:Gh}{w:World}{S:List Nm}
theorem CF:Seen G (G.to S) (Kj S):=by
 refine⟨λ_ _ _ h=>h,λk k' hd hs=> ?_⟩;cases k with
 |arg i=>simp[Kj] at hs;subst hs;exact⟨hd,rfl,rfl⟩
 |loc p=>
  simp only[Kj] at hs
  cases h:idxOf (.loc p) S 0<;>simp[h] at hs
  rename_i i
  subst hs
  obtain⟨q,h1,h2⟩:=qz h
  have:i=q:=by omega
  subst this
  have hl:=(List.getElem?_eq_some_iff.1 h2).1
  refine⟨hl, ?_, ?_⟩<;>simp[Gh.to,h2]
theorem A9 {k:Nm}(h:(G.to S).dom k):(∃i,k=.arg i/\G.dom (.arg i))\/∃j,∃hj:j<S.length,k=.loc [j]/\(G.to S).mu k=G.mu S[j]/\(G.to S).arr k=G.arr S[j]:=by
 match k,h with
 |.arg i,h=>exact .inl ⟨i,rfl,h⟩
 |.loc [j],h=>
  have hj:j<S.length:=h
  exact .inr ⟨j,hj,rfl,by simp[Gh.to,hj],by simp[Gh.to,hj]⟩
theorem ZZ (hw:WF G w)(hn:S.Nodup)(hd:∀k∈S,G.dom k)(hl:∀k∈S,k.dS=true):WF (G.to S) w:=by
 refine⟨hw.F,λk k' d d' a a' e=> ?_,λk d=> ?_⟩
 ·have al:∀{A B:Gh} {x y:Nm},A.arr x=B.arr y->A.alive x->B.alive y:=λe a n c q=>a n c (e.trans q)
  rcases A9 d with ⟨i,rfl,di⟩|⟨i,hi,rfl,mi,ri⟩<;>rcases A9 d' with ⟨j,rfl,dj⟩|⟨j,hj,rfl,mj,rj⟩
  ·exact hw.inj _ _ di dj a a' e
  ·rw[mj] at e;have:=hw.inj _ _ di (hd _ (List.getElem_mem hj)) a (al rj a') e;have h2:=hl _ (List.getElem_mem hj);rw[← this] at h2;simp[Nm.dS] at h2
  ·rw[mi] at e;have:=hw.inj _ _ (hd _ (List.getElem_mem hi)) dj (al ri a) a' e;have h2:=hl _ (List.getElem_mem hi);rw[this] at h2;simp[Nm.dS] at h2
  ·rw[mi,mj] at e;have:=hw.inj _ _ (hd _ (List.getElem_mem hi)) (hd _ (List.getElem_mem hj)) (al ri a) (al rj a') e;rw[Dm hn hi hj this]
 ·rcases A9 d with ⟨i,rfl,di⟩|⟨i,hi,rfl,mi,_⟩
  ·exact hw.lt _ di
  ·rw[mi];exact hw.lt _ (hd _ (List.getElem_mem hi))
theorem DB {G':Gh}{σ:Nm->Option Nm}(h:Seen G G' σ):∀{xs ys:List TV} {vs:List Value},cB G xs vs->q8 σ xs ys->cB G' ys vs
 | [],[],vs,hv,_=>by have:=hv.1;simp at this;subst this;exact cB.nil _
 |x::xs,y::ys,vs,hv,hi=>by
  obtain⟨v,vs',rfl,h1,h2⟩:=hv.fQ
  obtain⟨hy,hr⟩:=hi
  refine cB.cons ?_ (DB h h2 hr)
  rcases hy with rfl|hy
  · exact .any _
  · exact h1.rn h hy
 | [],_::_,_,_,hi=>hi.elim
 |_::_,[],_,_,hi=>hi.elim
theorem QI {σ:Nm->Option Nm}{H:Heap}:∀{H':Heap} {k':Nm} {o':aO},DA σ H H'->H'.get k'=some o'->∃k o,H.get k=some o/\σ k=some k'/\ZY σ o o':=by
 intro H';induction H' with
 |nil=>intro k' o' _ h;simp[Heap.get] at h
 |cons p r ih=>
  intro k' o' hi h
  obtain⟨k0,o0⟩:=p
  simp only[Heap.get] at h
  split at h
  · rename_i e;subst e;simp at h;subst h;exact hi.1
  · exact ih hi.2 h
theorem adL {H H':Heap}(hH:HR G w H)(h:DA (Kj S) H H'):HR (G.to S) w H':=by
 intro k' o' hk;obtain⟨k,o,h1,h2,h3⟩:=QI h hk;obtain⟨hd,ho⟩:=hH _ _ h1;obtain⟨d',m',a'⟩:=(CF (G:=G) (S:=S)).at_ k k' hd h2;refine⟨d', ?_⟩;rcases h3 with h3|⟨ty,cs,cs',rfl,rfl,h3⟩
 ·exact OR.rn CF (λ_ _ _=>rfl) ⟨m',a'⟩ ho h3
 ·obtain⟨ha,vs,ty',fr,hh,ht,hv,hf⟩:=ho;exact⟨by rw[a'];exact ha,vs,ty',fr,by rw[m'];exact hh,ht,DB CF hv h3,λp=>by rw[m'];exact hf p⟩
theorem XO {G0:Gh}{w0:World}(h0:∀p,¬G0.dom (.loc p))(h:dz G0 w0 G w)(hn:S.Nodup)(hd:∀k∈S,G.dom k)(hl:∀k∈S,k.dS=true):dz G0 w0 (G.to S) w:=by
 have arg:∀k,G0.dom k->∃i,k=.arg i:=λk hk=>by
  cases k with
  |arg i=>exact⟨i,rfl⟩
  |loc p=>exact absurd hk (h0 p)
 refine⟨⟨h.le.F,λk d=> ?_,λk d a=> ?_,λk n e c d a=> ?_⟩,ZZ h.wf hn hd hl,λk _ hk=>absurd trivial hk,h.blocks,λk d=> ?_,λk d=> ?_,h.size,h.os,h.tape,h.output⟩
 ·obtain⟨i,rfl⟩:=arg k d;exact h.le.dom _ d
 ·obtain⟨i,rfl⟩:=arg k d;exact h.le.plain _ d a
 ·obtain⟨i,rfl⟩:=arg k d;exact h.le.arr _ n e c d a
 ·rcases A9 d with ⟨i,rfl,di⟩|⟨i,hi,rfl,_,_⟩
  ·exact h.news _ di
  ·exact .inr rfl
 ·rcases A9 d with ⟨i,rfl,di⟩|⟨i,hi,rfl,mi,_⟩
  ·exact h.fresh _ di
  ·rw[ mi];rcases h.fresh _ (hd _ (List.getElem_mem hi)) with ⟨k0,d0,e0,o⟩|h2
   ·refine .inl ⟨k0,d0,e0, ?_⟩;rcases o with rfl|o
    ·obtain⟨j,e⟩:=arg _ d0;have h2:=hl _ (List.getElem_mem hi);rw[e] at h2;simp[Nm.dS] at h2
    ·exact .inr o
   ·exact .inr h2
end
section
variable {C:cE}
def Re (C:cE)(st st':St):Prop:=∀(G0:Gh) (w0:World) (G:Gh) (w:World) (a:Act),(∀p,¬G0.dom (.loc p))->dz G0 w0 G w->vG C G w st a->∃G',dz G0 w0 G' w/\vG C G' w st' a
theorem Re.refl (st:St):Re C st st:=λ_ _ G _ _ _ hs hst=>⟨G,hs,hst⟩
theorem Re.of_eq {st st':St}(h:st=st'):Re C st st':=h▸Re.refl st
theorem Re.mk (S:List Nm){sl sl':List TV}{H H':Heap}{t t':Nat}(h1:q8 (Kj S) sl sl')(h2:DA (Kj S) H H')(hn:S.Nodup)(hl:S.all Nm.dS=true)(hS:∀k∈S,(H.get k).isSome=true)(ht:S.length<=t'):
 Re C ⟨sl,H,t⟩ ⟨sl',H',t'⟩:=by
 intro G0 w0 G w a h0 hs hst
 have hd:∀k∈S,G.dom k:=λk hk=>by
  obtain⟨o,ho⟩:=Option.isSome_iff_exists.1 (hS k hk);exact(hst.heap k o ho).1
 have hl':∀k∈S,k.dS=true:=List.all_eq_true.1 hl
 refine⟨G.to S,XO h0 hs hn hd hl',ZZ hst.wf hn hd hl',λg cs hg=>hst.iT g cs hg,DB CF hst.slots h1,adL hst.heap h2,λp hp=> ?_⟩
 rcases A9 hp with ⟨i,e,_⟩|⟨j,hj,e,_,_⟩
 ·cases e
 ·injection e with e;exact⟨j,[],e,by show j<t';omega⟩
def AW (C:cE)(c:Code)(st:St)(Q:aK->St->Prop):Prop:=
 ∀(G0:Gh) (w0:World) (G:Gh) (w:World) (a:Act),(∀p,¬G0.dom (.loc p))->dz G0 w0 G w->vG C G w st a->
  c.wp C.P (λex a' w'=>∃e st',Q e st'/\Good C G0 w0 a e st' ex a' w') a w
theorem Good.FD {G:Gh}{w:World}{a a1:Act}{e:aK}{st':St}{ex:Exit}{a':Act}{w':World}(hd:a1.defers=a.defers)(k:Good C G w a1 e st' ex a' w'):Good C G w a e st' ex a' w':=by
 obtain⟨G',h1,h2,h3⟩:=k;exact⟨G',h1,h2.trans hd,h3⟩
theorem AW.mono {c:Code}{st:St}{Q Q':aK->St->Prop}(h:AW C c st Q)(hq:∀e st',Q e st'->Q' e st'):AW C c st Q':=
 λG0 w0 G w a h0 hs hst=>wp_mono (h G0 w0 G w a h0 hs hst) λ_ _ _ ⟨e,st',h1,h2⟩=>⟨e,st',hq _ _ h1,h2⟩
theorem AW.re {c:Code}{st st':St}{Q:aK->St->Prop}(hr:Re C st st')(h:AW C c st' Q):AW C c st Q:=λG0 w0 G w a h0 hs hst=>by
 obtain⟨G',hs',jk⟩:=hr G0 w0 G w a h0 hs hst;exact h G0 w0 G' w a h0 hs' jk
theorem AW.eval {ev:aW}{f:FuncId}{fuel:Nat}(hm:C.P.prog.follows .mixedOrders=true)(aC:aI C ev){c:Code}{st st':St}{e:aK}{Q:aK->St->Prop}(h:evalCode C ev f fuel c st=some (e,st'))(hq:Q e st'):AW C c st Q:=
 λG0 w0 G w a _ hs hst=>wp_mono (lB hm aC c _ _ _ h G w a hst) λ_ _ _ hg=>⟨e,st',hq,Good.comp hs rfl hg⟩
theorem AW.skip {st:St}{Q:aK->St->Prop}(hq:Q .normal st):AW C .skip st Q:=
 λG0 w0 G w a _ hs hst=>wp_skip ⟨.normal,st,hq,G,hs,rfl,rfl,hst⟩
theorem AW.label {l}{st:St}{Q:aK->St->Prop}(hq:Q .normal st):AW C (.label l) st Q:=
 λG0 w0 G w a _ hs hst=>wp_label ⟨.normal,st,hq,G,hs,rfl,rfl,hst⟩
theorem AW.exit {id:Nat}{st:St}{Q:aK->St->Prop}(hq:Q (.exit id) st):AW C (.exit id) st Q:=
 λG0 w0 G w a _ hs hst=>wp_exit ⟨.exit id,st,hq,G,hs,rfl,rfl,hst⟩
theorem AW.ret {st:St}{Q:aK->St->Prop}(hq:Q .ret st):AW C .ret st Q:=
 λG0 w0 G w a _ hs hst=>wp_ret ⟨.ret,st,hq,G,hs,rfl,rfl,hst⟩
def XP (C:cE)(y:Code)(Q:aK->St->Prop):aK->St->Prop
 |.normal,st=>AW C y st Q
 |e,st=>Q e st
theorem AW.seq {x y:Code}{st:St}{Q:aK->St->Prop}(h:AW C x st (XP C y Q)):AW C (.seq x y) st Q:=by
 intro G0 w0 G w a h0 hs hst;refine wp_seq (wp_mono (h G0 w0 G w a h0 hs hst) λex a1 w1 ⟨e,st1,hq,hg⟩=> ?_);cases e with
 |normal=>
  obtain⟨rfl,hd,G1,hs1,j5⟩:=hg.qA
  exact wp_mono (hq G0 w0 G1 w1 a1 h0 hs1 j5) λ_ _ _ ⟨e,st',h1,h2⟩=>⟨e,st',h1,Good.FD hd h2⟩
 |exit id=>exact gL (hg.gK (by simp)) ⟨_,_,hq,hg⟩
 |ret=>exact gL (hg.gK (by simp)) ⟨_,_,hq,hg⟩
 |panic v=>exact gL (hg.gK (by simp)) ⟨_,_,hq,hg⟩
theorem AW.cond {c:Operand}{x y:Code}{st:St}{b:Bool}{Q:aK->St->Prop}(hc:cg C st.slots c=some (.t (.bool b)))(h1:b=true->AW C x st Q)(h2:b=false->AW C y st Q):AW C (.cond c x y) st Q:=by
 intro G0 w0 G w a h0 hs hst;cases b with
 |true=>exact wp_cond_true (bP hst.slots hst.iT hc).bool (h1 rfl G0 w0 G w a h0 hs hst)
 |false=>exact wp_cond_false (bP hst.slots hst.iT hc).bool (h2 rfl G0 w0 G w a h0 hs hst)
def Out (id:Nat)(Q:aK->St->Prop):aK->St->Prop
 |.exit id',st=>if id'=id then Q .normal st else Q (.exit id') st
 |e,st=>Q e st
theorem AW.block {id:Nat}{c:Code}{st:St}{Q:aK->St->Prop}(h:AW C c st (Out id Q)):AW C (.block id c) st Q:=by
 intro G0 w0 G w a h0 hs hst;refine wp_block (wp_mono (h G0 w0 G w a h0 hs hst) λex a1 w1 ⟨e,st1,hq,hg⟩=> ?_);cases e with
 |normal=>obtain⟨G1,hs,hd,rfl,j5⟩:=hg;exact⟨_,_,hq,G1,hs,hd,rfl,j5⟩
 | exit id'=>
   obtain⟨G1,hs,hd,rfl,j5⟩:=hg
   simp only[Out] at hq
   by_cases e1:id'=id
   · rw[if_pos e1] at hq
     simp only[Exit.inBlock,e1,if_true]
     exact⟨_,_,hq,G1,hs,hd,rfl,j5⟩
   · rw[if_neg e1] at hq
     simp only[Exit.inBlock,e1,if_false]
     exact⟨_,_,hq,G1,hs,hd,rfl,j5⟩
 |ret=>obtain⟨G1,hs,hd,rfl,j5⟩:=hg;exact⟨_,_,hq,G1,hs,hd,rfl,j5⟩
 |panic v=>obtain⟨G1,hs,hd,x,rfl,j5⟩:=hg;exact⟨_,_,hq,G1,hs,hd,x,rfl,j5⟩
def Round {α:Type}(C:cE)(st:α->St)(ok:α->Prop)(μ:α->Nat)(m:Nat)(Q:aK->St->Prop):aK->St->Prop
 |.normal,s=>∃y,ok y/\μ y<m/\Re C s (st y)
 |e,s=>Q e s
theorem AW.loop {α:Type}(st:α->St)(ok:α->Prop)(μ:α->Nat){body:Code}{Q:aK->St->Prop}(x0:α){s0:St}(hr:Re C s0 (st x0))(h0:ok x0)
 (h:∀x,ok x->AW C body (st x) (Round C st ok μ (μ x) Q)):AW C (.loop body) s0 Q:=by
 refine AW.re hr ?_
 intro G0 w0 G w a hn hs hst
 have key:∀m x,μ x<m->ok x->∀(G:Gh) (w:World) (a1:Act),a1.defers=a.defers->dz G0 w0 G w->vG C G w (st x) a1->
  Code.rounds C.P body (λex a' w'=>∃e st',Q e st'/\Good C G0 w0 a e st' ex a' w') m a1 w:=by
  intro m
  induction m with
  |zero=>intro x hx;omega
  | succ m ih=>
   intro x hx hok G w a1 hd hs hst
   rw[rounds_succ]
   refine wp_mono (h x hok G0 w0 G w a1 hn hs hst) λex a2 w2 ⟨e,st1,hq,hg⟩=> ?_
   cases e with
   |normal=>
    obtain⟨rfl,hd2,G1,hs1,j5⟩:=hg.qA
    obtain⟨y,hy,hlt,FE⟩:=hq
    obtain⟨G2,hs2,FC⟩:=FE G0 w0 G1 w2 a2 hn hs1 j5
    exact ih y (by omega) hy G2 w2 a2 (hd2.trans hd) hs2 FC
   |exit id=>exact gL (hg.gK (by simp)) ⟨_,_,hq,Good.FD hd hg⟩
   |ret=>exact gL (hg.gK (by simp)) ⟨_,_,hq,Good.FD hd hg⟩
   |panic v=>exact gL (hg.gK (by simp)) ⟨_,_,hq,Good.FD hd hg⟩
 exact wp_loop_rounds (μ x0+1) (key _ x0 (Nat.lt_succ_self _) h0 G w a rfl hs hst)
def To {α:Type}(C:cE)(st:α->St)(ok:α->Prop):aK->St->Prop:=λe s=>e=.normal/\∃z,ok z/\Re C s (st z)
theorem AW.cut {α:Type}(st:α->St)(ok:α->Prop){x y:Code}{s0:St}{Q:aK->St->Prop}(h1:AW C x s0 (To C st ok))(h2:∀z,ok z->AW C y (st z) Q):AW C (.seq x y) s0 Q:=by
 refine AW.seq (AW.mono h1 ?_);rintro e s ⟨rfl,z,hz,hr⟩;exact AW.re hr (h2 z hz)
def dP (C:cE)(ops:Array Oper)(l:List Oper)(st:St)(Q:aK->St->Prop):Prop:=
 ∀(G0:Gh) (w0:World) (G:Gh) (w:World) (a:Act),(∀p,¬G0.dom (.loc p))->dz G0 w0 G w->vG C G w st a->
  ∀R:Exit->Act->World->Prop,(∀e st' ex a' w',Q e st'->Good C G0 w0 a e st' ex a' w'->R ex a' w')->wpList C.P ops R l a w
theorem AW.region {id:Nat}{ops:Array Oper}{st:St}{Q:aK->St->Prop}(h:dP C ops ops.toList st Q):AW C (.region id ops false) st Q:=
 λG0 w0 G w a h0 hs hst=>wp_region_list (h G0 w0 G w a h0 hs hst _ λe st' _ _ _ h1 h2=>⟨e,st',h1,h2⟩)
theorem AW.drawn {ev:aW}{f:FuncId}(hm:C.P.prog.follows .mixedOrders=true)(aC:aI C ev){id:Nat}{ops:Array Oper}{st st':St}{e:aK}{Q:aK->St->Prop}(h:w6 C ev f ops st=some (e,st'))(hq:Q e st'):AW C (.region id ops true) st Q:=
 λG0 w0 G w a _ hs hst=>Dy hm aC h hst λ_ _ _ hg=>⟨e,st',hq,Good.comp hs rfl hg⟩
section ops
variable {ops:Array Oper}{Q:aK->St->Prop}{S:List TV}{H:Heap}{t:Nat}{o:Oper}{r:List Oper}
theorem dP.nil {st:St}(hq:Q .normal st):dP C ops [] st Q:=
 λG0 w0 G w a _ hs hst R hR=>hR _ _ _ _ _ hq ⟨G,hs,rfl,rfl,hst⟩
theorem dP.step {ev:aW}(aC:aI C ev){f:FuncId}{v:TV}{u:Heap}(hw:dH ops S o=some true)(hx:aT C ev f H S t o=some (.val v u))(k:dP C ops r ⟨cU S o.dst v,H.dX u,t+1⟩ Q):dP C ops (o::r) ⟨S,H,t⟩ Q:=by
 intro G0 w0 G w a h0 hs hst R hR;refine wpList_step λK hK=> ?_
 rw[ji hw hst.slots];simp only[if_true];refine(sM aC hx hst.wf hst.iT hst.slots hst.heap hst.fresh.not).wp oh.no (λx w' hr=> ?_) (λch w' hr=> ?_)
 ·obtain⟨x',G',e1,hs',hu,hv⟩:=hr;simp at e1;subst e1;exact hK _ _ (k G0 w0 G' w' _ h0 (dz.comp hs hs'.any) (hst.op o.dst hs' hu hv) R λe st' _ _ _ h1 h2=>hR _ _ _ _ _ h1 (Good.FD (put_defers _ _ _) h2))
 ·obtain⟨x',G',e1,_⟩:=hr;simp at e1
theorem dP.panics {ev:aW}(aC:aI C ev){f:FuncId}{v:TV}{u:Heap}{l:List Nm}(hw:dH ops S o=some true)(hx:aT C ev f H S t o=some (.panic v u l))(k:Q (.panic v) ⟨S,(H.tU l).dX u,t+1⟩):dP C ops (o::r) ⟨S,H,t⟩ Q:=by
 intro G0 w0 G w a h0 hs hst R hR;refine wpList_step λK hK=> ?_
 rw[ji hw hst.slots];simp only[if_true];refine(sM aC hx hst.wf hst.iT hst.slots hst.heap hst.fresh.not).wp oh.no (λx w' hr=> ?_) (λch w' hr=> ?_)
 ·obtain⟨x',G',e1,_⟩:=hr;simp at e1
 ·obtain⟨x',G',e1,hs',hu,hv⟩:=hr;simp at e1;subst e1;exact hR _ _ _ _ _ k ⟨G',dz.comp hs hs'.any,rfl,x',rfl,hv,HR.panicked hst.wf hst.heap hs' hu,hst.slots.mono hs'.le,_,hst.fresh.step hs'⟩
theorem dP.unwanted (hw:dH ops S o=some false)(k:dP C ops r ⟨cU S o.dst bS,H,t+1⟩ Q):dP C ops (o::r) ⟨S,H,t⟩ Q:=by
 intro G0 w0 G w a h0 hs hst R hR;refine wpList_step λK hK=> ?_
 rw[ji hw hst.slots];exact hK _ _ (k G0 w0 G w _ h0 hs (hst.unwanted o.dst) R λe st' _ _ _ h1 h2=>hR _ _ _ _ _ h1 (Good.FD (put_defers _ _ _) h2))
end ops
def aq (C:cE)(g:FuncId)(args:List TV)(aU:List aO)(r:bk):Prop:=
 ∀(G:Gh) (w:World) (vs:List Value),WF G w->jO C G->yD G aU.length->HR G w (bX 0 aU)->cB G args vs->nk C.P g vs.toArray w (sL G w aU.length r)
def kJ (C:cE)(g:FuncId)(s:List TV->List aO->Option bk):Prop:=∀args aU r,s args aU=some r->aq C g args aU r
def mA:aW:=λ_ _ _=>none
def mZ (f:FuncId)(s:List TV->List aO->Option bk)(ev:aW):aW:=λg akb os=>if g=f then s akb os else ev g akb os
theorem aN:aI C mA:=λ_ _ _ _ h=>by simp[mA] at h
theorem aA {f:FuncId}{s:List TV->List aO->Option bk}{ev:aW}(h1:kJ C f s)(h2:aI C ev):aI C (mZ f s ev):=by
 intro g args aU r h;unfold mZ at h;split at h
 ·rename_i e;subst e;exact h1 args aU r h
 ·exact h2 g args aU r h
def Fin (C:cE)(fn:Func)(n:Nat)(r:bk):aK->St->Prop
 |.normal,st=>finish C fn n st=some r
 |.ret,st=>finish C fn n st=some r
 |.panic v,st=>v.names.any Nm.dS=false/\r=.panic v (pV st.H 0 n)
 |_,_=>False
theorem adM {f:FuncId}{fn:Func}{body:Code}{args:List TV}{aU:List aO}{r:bk}(A8:C.P.fn f=some fn)(hbody:fn.body=some body)(hname:fn.name≠ "runtime.NumGoroutine")
 (h:AW C body ⟨args++List.replicate (fn.ntmps - args.length) bS,bX 0 aU,0⟩ (Fin C fn aU.length r)):aq C f args aU r:=by
 intro G w vs hw hg had hH hv
 have hfn:=C.P.P9 _ _ A8
 have hst:vG C G w ⟨args++List.replicate (fn.ntmps - args.length) bS,bX 0 aU,0⟩ {tmps:=vs.toArray++Array.replicate (fn.ntmps - vs.toArray.size) undef,defers:=[]}:=by
  refine⟨hw,hg, ?_,hH,λp hp=>absurd hp (had.2 p)⟩;have e:(vs.toArray++Array.replicate (fn.ntmps - vs.toArray.size) undef).toList=vs++List.replicate (fn.ntmps - args.length) undef:=by simp[hv.1]
  unfold SR;rw[e];refine cB.append hv ⟨by simp,λj c u hc hu=> ?_⟩;rw[List.getElem?_replicate] at hc hu;by_cases hl:j<fn.ntmps - args.length
  ·rw[if_pos hl] at hc hu;simp at hc hu;subst hc;subst hu;exact l9 G
  ·rw[if_neg hl] at hc;simp at hc
 refine .inl ⟨?_,calls_of_wp hfn hbody ?_⟩
 ·simp[callFunc,hfn,hname,hbody]
 ·refine wp_mono (h G w G w _ had.2 (Step.refl hw _ _) hst) λex a' w' ⟨e,st,hq,hgd⟩=> ?_
  cases e with
  | normal=>
    obtain⟨G',hs,hd,rfl,jk⟩:=hgd
    exact⟨hd,sP hq hs jk⟩
  | ret=>
    obtain⟨G',hs,hd,rfl,jk⟩:=hgd
    exact⟨hd,sP hq hs jk⟩
  |exit id=>exact hq.elim
  | panic v=>
    obtain⟨_,rfl⟩:=hq
    obtain⟨G',hs,hd,x,rfl,hx,hH',_⟩:=hgd
    refine⟨hd,x,G',rfl,hs,λi o ho=> ?_,hx⟩
    have:=uf ho
    rw[Nat.zero_add] at this
    exact hH' _ _ this
end
end Go.Abs
end
