/- Walking code over abstract states: less may be told of a state at any time, and names may be other ones. -/
import Derived.Test.YtijfhoelihclbaaGreatDoorD
noncomputable section
namespace Go.Abs
open Go
def IY (S:List Nm):Nm→Option Nm
 |.arg i=>some (.arg i)
 |.loc p=>(idxOf (.loc p) S 0).map fun j=>.loc [j]
def into (σ:Nm→Option Nm):List TV→List TV→Prop
 | [],[]=>True
 |x::xs,y::ys=>(y=.any∨x.rn σ=some y)∧into σ xs ys
 |_,_=>False
def YJ (σ:Nm→Option Nm)(o o':aQ):Prop:=o.rn σ=some o'∨∃ty cs cs',o=.cells ty cs∧o'=.cells ty cs'∧into σ cs cs'
def CA (σ:Nm→Option Nm)(H:Heap):Heap→Prop
 | []=>True
 |(k',o')::r=>(∃k o,H.get k=some o∧σ k=some k'∧YJ σ o o')∧CA σ H r
def Gh.to (G:Gh)(S:List Nm):Gh:={
 F:=G.F
 mu:=fun k=>match k with
  |.arg i=>G.mu (.arg i)
  |.loc [j]=>(match S[j]? with|some x=>G.mu x|none=>0)
  |.loc _=>0
 arr:=fun k=>match k with
  |.arg i=>G.arr (.arg i)
  |.loc [j]=>(match S[j]? with|some x=>G.arr x|none=>none)
  |.loc _=>none
 dom:=fun k=>match k with
  |.arg i=>G.dom (.arg i)
  |.loc [j]=>j<S.length
  |.loc _=>False}
section
variable {G:Gh}{w:World}{S:List Nm}
theorem BJ:Seen G (G.to S) (IY S):=by
 refine⟨fun _ _ _ h=>h,fun k k' hd hs=> ?_⟩
 cases k with
 |arg i=>simp[IY] at hs;subst hs;exact⟨hd,rfl,rfl⟩
 |loc p=>
  simp only[IY] at hs
  cases h:idxOf (.loc p) S 0<;>simp[h] at hs
  rename_i i
  subst hs
  obtain⟨q,h1,h2⟩:=pg h
  have:i=q:=by omega
  subst this
  have hl:=(List.getElem?_eq_some_iff.1 h2).1
  refine⟨hl, ?_, ?_⟩<;>simp[Gh.to,h2]
theorem zZ {k:Nm}(h:(G.to S).dom k):(∃i,k=.arg i∧G.dom (.arg i))∨∃j,∃hj:j<S.length,k=.loc [j]∧(G.to S).mu k=G.mu S[j]∧(G.to S).arr k=G.arr S[j]:=by
 match k,h with
 |.arg i,h=>exact .inl ⟨i,rfl,h⟩
 |.loc [j],h=>
  have hj:j<S.length:=h
  exact .inr ⟨j,hj,rfl,by simp[Gh.to,hj],by simp[Gh.to,hj]⟩
theorem YK (hw:WF G w)(hn:S.Nodup)(hd:∀k∈S,G.dom k)(hl:∀k∈S,k.gy=true):WF (G.to S) w:=by
  refine⟨hw.F,fun k k' d d' e=> ?_,fun k d=> ?_⟩
  · rcases zZ d with ⟨i,rfl,di⟩|⟨i,hi,rfl,mi,_⟩<;>rcases zZ d' with ⟨j,rfl,dj⟩|⟨j,hj,rfl,mj,_⟩
    · exact hw.inj _ _ di dj e
    · rw[mj] at e
      have:=hw.inj _ _ di (hd _ (List.getElem_mem hj)) e
      have h2:=hl _ (List.getElem_mem hj)
      rw[← this] at h2
      simp[Nm.gy] at h2
    · rw[mi] at e
      have:=hw.inj _ _ (hd _ (List.getElem_mem hi)) dj e
      have h2:=hl _ (List.getElem_mem hi)
      rw[this] at h2
      simp[Nm.gy] at h2
    · rw[mi,mj] at e
      have:=hw.inj _ _ (hd _ (List.getElem_mem hi)) (hd _ (List.getElem_mem hj)) e
      rw[Cq hn hi hj this]
  · rcases zZ d with ⟨i,rfl,di⟩|⟨i,hi,rfl,mi,_⟩
    · exact hw.lt _ di
    · rw[mi];exact hw.lt _ (hd _ (List.getElem_mem hi))
theorem CB {G':Gh}{σ:Nm→Option Nm}(h:Seen G G' σ):∀{xs ys:List TV} {vs:List Value},cK G xs vs→into σ xs ys→cK G' ys vs
 | [],[],vs,hv,_=>by have:=hv.1;simp at this;subst this;exact cK.nil _
 |x::xs,y::ys,vs,hv,hi=>by
  obtain⟨v,vs',rfl,h1,h2⟩:=hv.iN
  obtain⟨hy,hr⟩:=hi
  refine cK.cons ?_ (CB h h2 hr)
  rcases hy with rfl|hy
  · exact .any _
  · exact h1.rn h hy
 | [],_::_,_,_,hi=>hi.elim
 |_::_,[],_,_,hi=>hi.elim
theorem PB {σ:Nm→Option Nm}{H:Heap}:∀{H':Heap} {k':Nm} {o':aQ},CA σ H H'→H'.get k'=some o'→∃k o,H.get k=some o∧σ k=some k'∧YJ σ o o':=by
 intro H'
 induction H' with
 |nil=>intro k' o' _ h;simp[Heap.get] at h
 |cons p r ih=>
  intro k' o' hi h
  obtain⟨k0,o0⟩:=p
  simp only[Heap.get] at h
  split at h
  · rename_i e;subst e;simp at h;subst h;exact hi.1
  · exact ih hi.2 h
theorem adF {H H':Heap}(hH:HR G w H)(h:CA (IY S) H H'):HR (G.to S) w H':=by
  intro k' o' hk
  obtain⟨k,o,h1,h2,h3⟩:=PB h hk
  obtain⟨hd,ho⟩:=hH _ _ h1
  obtain⟨d',m',a'⟩:=(BJ (G:=G) (S:=S)).at_ k k' hd h2
  refine⟨d', ?_⟩
  rcases h3 with h3|⟨ty,cs,cs',rfl,rfl,h3⟩
  · exact OR.rn BJ (fun _ _ _=>rfl) ⟨m',a'⟩ ho h3
  · obtain⟨ha,vs,ty',fr,hh,ht,hv,hf⟩:=ho
    exact⟨by rw[a'];exact ha,vs,ty',fr,by rw[m'];exact hh,ht,CB BJ hv h3,fun p=>by rw[m'];exact hf p⟩
theorem WL {G0:Gh}{w0:World}(h0:∀p,¬G0.dom (.loc p))(h:dG G0 w0 G w)(hn:S.Nodup)(hd:∀k∈S,G.dom k)(hl:∀k∈S,k.gy=true):dG G0 w0 (G.to S) w:=by
  have arg:∀k,G0.dom k→∃i,k=.arg i:=fun k hk=>by
    cases k with
    |arg i=>exact⟨i,rfl⟩
    |loc p=>exact absurd hk (h0 p)
  refine⟨⟨h.le.F,fun k d=> ?_,fun k d a=> ?_,fun k n e c d a=> ?_⟩,YK h.wf hn hd hl,fun k _ hk=>absurd trivial hk,h.blocks,fun k d=> ?_,fun k d=> ?_,h.size,h.os,h.tape,h.output⟩
  · obtain⟨i,rfl⟩:=arg k d;exact h.le.dom _ d
  · obtain⟨i,rfl⟩:=arg k d;exact h.le.plain _ d a
  · obtain⟨i,rfl⟩:=arg k d;exact h.le.arr _ n e c d a
  · rcases zZ d with ⟨i,rfl,di⟩|⟨i,hi,rfl,_,_⟩
    · exact h.news _ di
    · exact .inr rfl
  · rcases zZ d with ⟨i,rfl,di⟩|⟨i,hi,rfl,mi,_⟩
    · exact h.fresh _ di
    · rw[mi]
      rcases h.fresh _ (hd _ (List.getElem_mem hi)) with ⟨d0,_⟩|h2
      · obtain⟨j,e⟩:=arg _ d0
        have h2:=hl _ (List.getElem_mem hi)
        rw[e] at h2
        simp[Nm.gy] at h2
      · exact .inr h2
end
section
variable {C:dh}
def Re (C:dh)(st st':St):Prop:=∀(G0:Gh) (w0:World) (G:Gh) (w:World) (a:Act),(∀p,¬G0.dom (.loc p))→dG G0 w0 G w→w5 C G w st a→∃G',dG G0 w0 G' w∧w5 C G' w st' a
theorem Re.refl (st:St):Re C st st:=fun _ _ G _ _ _ hs hst=>⟨G,hs,hst⟩
theorem Re.of_eq {st st':St}(h:st=st'):Re C st st':=h▸Re.refl st
theorem Re.mk (S:List Nm){sl sl':List TV}{H H':Heap}{t t':Nat}(h1:into (IY S) sl sl')(h2:CA (IY S) H H')(hn:S.Nodup)(hl:S.all Nm.gy=true)(hS:∀k∈S,(H.get k).isSome=true)(ht:S.length≤t'):
    Re C ⟨sl,H,t⟩ ⟨sl',H',t'⟩:=by
  intro G0 w0 G w a h0 hs hst
  have hd:∀k∈S,G.dom k:=fun k hk=>by
    obtain⟨o,ho⟩:=Option.isSome_iff_exists.1 (hS k hk)
    exact(hst.heap k o ho).1
  have hl':∀k∈S,k.gy=true:=List.all_eq_true.1 hl
  refine⟨G.to S,WL h0 hs hn hd hl',YK hst.wf hn hd hl',fun g cs hg=>hst.iT g cs hg,CB BJ hst.slots h1,adF hst.heap h2,fun p hp=> ?_⟩
  rcases zZ hp with ⟨i,e,_⟩|⟨j,hj,e,_,_⟩
  · cases e
  · injection e with e
    exact⟨j,[],e,by show j<t';omega⟩
def AW (C:dh)(c:Code)(st:St)(Q:aV→St→Prop):Prop:=
 ∀(G0:Gh) (w0:World) (G:Gh) (w:World) (a:Act),(∀p,¬G0.dom (.loc p))→dG G0 w0 G w→w5 C G w st a→
  c.wp C.P (fun ex a' w'=>∃e st',Q e st'∧Good C G0 w0 a e st' ex a' w') a w
theorem Good.acts {G:Gh}{w:World}{a a1:Act}{e:aV}{st':St}{ex:Exit}{a':Act}{w':World}(hd:a1.defers=a.defers)(k:Good C G w a1 e st' ex a' w'):Good C G w a e st' ex a' w':=by
 obtain⟨G',h1,h2,h3⟩:=k
 exact⟨G',h1,h2.trans hd,h3⟩
theorem AW.mono {c:Code}{st:St}{Q Q':aV→St→Prop}(h:AW C c st Q)(hq:∀e st',Q e st'→Q' e st'):AW C c st Q':=
 fun G0 w0 G w a h0 hs hst=>wp_mono (h G0 w0 G w a h0 hs hst) fun _ _ _ ⟨e,st',h1,h2⟩=>⟨e,st',hq _ _ h1,h2⟩
theorem AW.re {c:Code}{st st':St}{Q:aV→St→Prop}(hr:Re C st st')(h:AW C c st' Q):AW C c st Q:=fun G0 w0 G w a h0 hs hst=>by
 obtain⟨G',hs',nG⟩:=hr G0 w0 G w a h0 hs hst
 exact h G0 w0 G' w a h0 hs' nG
theorem AW.eval {ev:aS}{f:FuncId}{fuel:Nat}(hm:C.P.prog.follows .mixedOrders=true)(ai:aF C ev){c:Code}{st st':St}{e:aV}{Q:aV→St→Prop}(h:evalCode C ev f fuel c st=some (e,st'))(hq:Q e st'):AW C c st Q:=
 fun G0 w0 G w a _ hs hst=>wp_mono (kN hm ai c _ _ _ h G w a hst) fun _ _ _ hg=>⟨e,st',hq,Good.comp hs rfl hg⟩
theorem AW.skip {st:St}{Q:aV→St→Prop}(hq:Q .normal st):AW C .skip st Q:=
 fun G0 w0 G w a _ hs hst=>wp_skip ⟨.normal,st,hq,G,hs,rfl,rfl,hst⟩
theorem AW.label {l}{st:St}{Q:aV→St→Prop}(hq:Q .normal st):AW C (.label l) st Q:=
 fun G0 w0 G w a _ hs hst=>wp_label ⟨.normal,st,hq,G,hs,rfl,rfl,hst⟩
theorem AW.exit {id:Nat}{st:St}{Q:aV→St→Prop}(hq:Q (.exit id) st):AW C (.exit id) st Q:=
 fun G0 w0 G w a _ hs hst=>wp_exit ⟨.exit id,st,hq,G,hs,rfl,rfl,hst⟩
theorem AW.ret {st:St}{Q:aV→St→Prop}(hq:Q .ret st):AW C .ret st Q:=
 fun G0 w0 G w a _ hs hst=>wp_ret ⟨.ret,st,hq,G,hs,rfl,rfl,hst⟩
def WM (C:dh)(y:Code)(Q:aV→St→Prop):aV→St→Prop
 |.normal,st=>AW C y st Q
 |e,st=>Q e st
theorem AW.seq {x y:Code}{st:St}{Q:aV→St→Prop}(h:AW C x st (WM C y Q)):AW C (.seq x y) st Q:=by
 intro G0 w0 G w a h0 hs hst
 refine wp_seq (wp_mono (h G0 w0 G w a h0 hs hst) fun ex a1 w1 ⟨e,st1,hq,hg⟩=> ?_)
 cases e with
 |normal=>
  obtain⟨rfl,hd,G1,hs1,mB⟩:=hg.si
  exact wp_mono (hq G0 w0 G1 w1 a1 h0 hs1 mB) fun _ _ _ ⟨e,st',h1,h2⟩=>⟨e,st',h1,Good.acts hd h2⟩
 |exit id=>exact jE (hg.jD (by simp)) ⟨_,_,hq,hg⟩
 |ret=>exact jE (hg.jD (by simp)) ⟨_,_,hq,hg⟩
 |panic v=>exact jE (hg.jD (by simp)) ⟨_,_,hq,hg⟩
theorem AW.cond {c:Operand}{x y:Code}{st:St}{b:Bool}{Q:aV→St→Prop}(hc:cU C st.slots c=some (.t (.bool b)))(h1:b=true→AW C x st Q)(h2:b=false→AW C y st Q):AW C (.cond c x y) st Q:=by
 intro G0 w0 G w a h0 hs hst
 cases b with
 |true=>exact wp_cond_true (bK hst.slots hst.iT hc).bool (h1 rfl G0 w0 G w a h0 hs hst)
 |false=>exact wp_cond_false (bK hst.slots hst.iT hc).bool (h2 rfl G0 w0 G w a h0 hs hst)
def Out (id:Nat)(Q:aV→St→Prop):aV→St→Prop
 |.exit id',st=>if id'=id then Q .normal st else Q (.exit id') st
 |e,st=>Q e st
theorem AW.block {id:Nat}{c:Code}{st:St}{Q:aV→St→Prop}(h:AW C c st (Out id Q)):AW C (.block id c) st Q:=by
  intro G0 w0 G w a h0 hs hst
  refine wp_block (wp_mono (h G0 w0 G w a h0 hs hst) fun ex a1 w1 ⟨e,st1,hq,hg⟩=> ?_)
  cases e with
  |normal=>obtain⟨G1,hs,hd,rfl,mB⟩:=hg;exact⟨_,_,hq,G1,hs,hd,rfl,mB⟩
  | exit id'=>
    obtain⟨G1,hs,hd,rfl,mB⟩:=hg
    simp only[Out] at hq
    by_cases e1:id'=id
    · rw[if_pos e1] at hq
      simp only[Exit.inBlock,e1,if_true]
      exact⟨_,_,hq,G1,hs,hd,rfl,mB⟩
    · rw[if_neg e1] at hq
      simp only[Exit.inBlock,e1,if_false]
      exact⟨_,_,hq,G1,hs,hd,rfl,mB⟩
  |ret=>obtain⟨G1,hs,hd,rfl,mB⟩:=hg;exact⟨_,_,hq,G1,hs,hd,rfl,mB⟩
  |panic v=>obtain⟨G1,hs,hd,x,rfl,mB⟩:=hg;exact⟨_,_,hq,G1,hs,hd,x,rfl,mB⟩
def Round {α:Type}(C:dh)(st:α→St)(ok:α→Prop)(μ:α→Nat)(m:Nat)(Q:aV→St→Prop):aV→St→Prop
 |.normal,s=>∃y,ok y∧μ y<m∧Re C s (st y)
 |e,s=>Q e s
theorem AW.loop {α:Type}(st:α→St)(ok:α→Prop)(μ:α→Nat){body:Code}{Q:aV→St→Prop}(x0:α){s0:St}(hr:Re C s0 (st x0))(h0:ok x0)
  (h:∀x,ok x→AW C body (st x) (Round C st ok μ (μ x) Q)):AW C (.loop body) s0 Q:=by
 refine AW.re hr ?_
 intro G0 w0 G w a hn hs hst
 have key:∀m x,μ x<m→ok x→∀(G:Gh) (w:World) (a1:Act),a1.defers=a.defers→dG G0 w0 G w→w5 C G w (st x) a1→
   Code.rounds C.P body (fun ex a' w'=>∃e st',Q e st'∧Good C G0 w0 a e st' ex a' w') m a1 w:=by
  intro m
  induction m with
  |zero=>intro x hx;omega
  | succ m ih=>
   intro x hx hok G w a1 hd hs hst
   rw[rounds_succ]
   refine wp_mono (h x hok G0 w0 G w a1 hn hs hst) fun ex a2 w2 ⟨e,st1,hq,hg⟩=> ?_
   cases e with
   |normal=>
    obtain⟨rfl,hd2,G1,hs1,mB⟩:=hg.si
    obtain⟨y,hy,hlt,hre⟩:=hq
    obtain⟨G2,hs2,WK⟩:=hre G0 w0 G1 w2 a2 hn hs1 mB
    exact ih y (by omega) hy G2 w2 a2 (hd2.trans hd) hs2 WK
   |exit id=>exact jE (hg.jD (by simp)) ⟨_,_,hq,Good.acts hd hg⟩
   |ret=>exact jE (hg.jD (by simp)) ⟨_,_,hq,Good.acts hd hg⟩
   |panic v=>exact jE (hg.jD (by simp)) ⟨_,_,hq,Good.acts hd hg⟩
 exact wp_loop_rounds (μ x0+1) (key _ x0 (Nat.lt_succ_self _) h0 G w a rfl hs hst)
def To {α:Type}(C:dh)(st:α→St)(ok:α→Prop):aV→St→Prop:=fun e s=>e=.normal∧∃z,ok z∧Re C s (st z)
theorem AW.cut {α:Type}(st:α→St)(ok:α→Prop){x y:Code}{s0:St}{Q:aV→St→Prop}(h1:AW C x s0 (To C st ok))(h2:∀z,ok z→AW C y (st z) Q):AW C (.seq x y) s0 Q:=by
 refine AW.seq (AW.mono h1 ?_)
 rintro e s ⟨rfl,z,hz,hr⟩
 exact AW.re hr (h2 z hz)
def eH (C:dh)(ops:Array Oper)(l:List Oper)(st:St)(Q:aV→St→Prop):Prop:=
 ∀(G0:Gh) (w0:World) (G:Gh) (w:World) (a:Act),(∀p,¬G0.dom (.loc p))→dG G0 w0 G w→w5 C G w st a→
  ∀R:Exit→Act→World→Prop,(∀e st' ex a' w',Q e st'→Good C G0 w0 a e st' ex a' w'→R ex a' w')→wpList C.P ops R l a w
theorem AW.region {id:Nat}{ops:Array Oper}{st:St}{Q:aV→St→Prop}(h:eH C ops ops.toList st Q):AW C (.region id ops false) st Q:=
 fun G0 w0 G w a h0 hs hst=>wp_region_list (h G0 w0 G w a h0 hs hst _ fun e st' _ _ _ h1 h2=>⟨e,st',h1,h2⟩)
theorem AW.drawn {ev:aS}{f:FuncId}(hm:C.P.prog.follows .mixedOrders=true)(ai:aF C ev){id:Nat}{ops:Array Oper}{st st':St}{e:aV}{Q:aV→St→Prop}(h:p7 C ev f ops st=some (e,st'))(hq:Q e st'):AW C (.region id ops true) st Q:=
 fun G0 w0 G w a _ hs hst=>Cx hm ai h hst fun _ _ _ hg=>⟨e,st',hq,Good.comp hs rfl hg⟩
section ops
variable {ops:Array Oper}{Q:aV→St→Prop}{S:List TV}{H:Heap}{t:Nat}{o:Oper}{r:List Oper}
theorem eH.nil {st:St}(hq:Q .normal st):eH C ops [] st Q:=
 fun G0 w0 G w a _ hs hst R hR=>hR _ _ _ _ _ hq ⟨G,hs,rfl,rfl,hst⟩
theorem eH.step {ev:aS}(ai:aF C ev){f:FuncId}{v:TV}{u:Heap}(hw:dF ops S o=some true)(hx:aX C ev f H S t o=some (.val v u))(k:eH C ops r ⟨eG S o.dst v,H.dJ u,t+1⟩ Q):eH C ops (o::r) ⟨S,H,t⟩ Q:=by
  intro G0 w0 G w a h0 hs hst R hR
  refine wpList_step fun K hK=> ?_
  rw[iz hw hst.slots]
  simp only[if_true]
  refine(qU ai hx hst.wf hst.iT hst.slots hst.heap hst.fresh.not).wp kM.no (fun x w' hr=> ?_) (fun ch w' hr=> ?_)
  · obtain⟨x',G',e1,hs',hu,hv⟩:=hr
    simp at e1;subst e1
    exact hK _ _ (k G0 w0 G' w' _ h0 (dG.comp hs hs'.any) (hst.op o.dst hs' hu hv) R fun e st' _ _ _ h1 h2=>hR _ _ _ _ _ h1 (Good.acts (put_defers _ _ _) h2))
  · obtain⟨x',G',e1,_⟩:=hr
    simp at e1
theorem eH.panics {ev:aS}(ai:aF C ev){f:FuncId}{v:TV}{u:Heap}{l:List Nm}(hw:dF ops S o=some true)(hx:aX C ev f H S t o=some (.panic v u l))(k:Q (.panic v) ⟨S,(H.tB l).dJ u,t+1⟩):eH C ops (o::r) ⟨S,H,t⟩ Q:=by
  intro G0 w0 G w a h0 hs hst R hR
  refine wpList_step fun K hK=> ?_
  rw[iz hw hst.slots]
  simp only[if_true]
  refine(qU ai hx hst.wf hst.iT hst.slots hst.heap hst.fresh.not).wp kM.no (fun x w' hr=> ?_) (fun ch w' hr=> ?_)
  · obtain⟨x',G',e1,_⟩:=hr
    simp at e1
  · obtain⟨x',G',e1,hs',hu,hv⟩:=hr
    simp at e1;subst e1
    exact hR _ _ _ _ _ k ⟨G',dG.comp hs hs'.any,rfl,x',rfl,hv,HR.panicked hst.wf hst.heap hs' hu⟩
theorem eH.unwanted (hw:dF ops S o=some false)(k:eH C ops r ⟨eG S o.dst b8,H,t+1⟩ Q):eH C ops (o::r) ⟨S,H,t⟩ Q:=by
 intro G0 w0 G w a h0 hs hst R hR
 refine wpList_step fun K hK=> ?_
 rw[iz hw hst.slots]
 exact hK _ _ (k G0 w0 G w _ h0 hs (hst.unwanted o.dst) R fun e st' _ _ _ h1 h2=>hR _ _ _ _ _ h1 (Good.acts (put_defers _ _ _) h2))
end ops
def ay (C:dh)(g:FuncId)(args:List TV)(aR:List aQ)(r:bG):Prop:=
 ∀(G:Gh) (w:World) (vs:List Value),WF G w→jq C G→zV G aR.length→HR G w (cH 0 aR)→cK G args vs→lu C.P g vs.toArray w (vw G w aR.length r)
def j7 (C:dh)(g:FuncId)(s:List TV→List aQ→Option bG):Prop:=∀args aR r,s args aR=some r→ay C g args aR r
def su:aS:=fun _ _ _=>none
def l6 (f:FuncId)(s:List TV→List aQ→Option bG)(ev:aS):aS:=fun g alS os=>if g=f then s alS os else ev g alS os
theorem aH:aF C su:=fun _ _ _ _ h=>by simp[su] at h
theorem ax {f:FuncId}{s:List TV→List aQ→Option bG}{ev:aS}(h1:j7 C f s)(h2:aF C ev):aF C (l6 f s ev):=by
 intro g args aR r h
 unfold l6 at h
 split at h
 · rename_i e;subst e;exact h1 args aR r h
 · exact h2 g args aR r h
end
end Go.Abs
end
