/- The operations are right: new objects, stores, literals. -/
import Derived.Test.YtnfnihgmankidaaGreatDoorA
import Derived.Lib.Strings
set_option linter.unusedVariables false
set_option linter.unusedSimpArgs false
namespace Go.Abs
open Go
section
variable {C:cE}{f:FuncId}{nm:Nm}{H:Heap}{slots:List TV}{a:Act}{w:World}{G:Gh}{v:TV}
def Gh.add (G:Gh)(nm:Nm)(b:Nat)(ar:Option (Nat×Nat×Nat)):Gh:={
 F:=G.F
 mu:=λk=>if k=nm then b else G.mu k
 arr:=λk=>if k=nm then ar else G.arr k
 dom:=λk=>k=nm\/G.dom k}
def World.ck (w:World)(o:Obj):World:={w with heap:=w.heap.push o}
theorem iJ (w:World)(o:Obj):(World.ck w o).heap[w.heap.size]?=some o:=by show(w.heap.push o)[w.heap.size]?=_;simp
theorem jZ {w:World}{o:Obj}{b:Nat}(h:b<w.heap.size):(World.ck w o).heap[b]?=w.heap[b]?:=by
 show(w.heap.push o)[b]?=_;rw[Array.getElem?_push,if_neg (by omega)]
theorem WF.adw (hw:WF G w){b o:Nat}{u:Value}(h:G.F b o=some u):b<w.heap.size:=by
 obtain⟨vs,ty,fr,h1,_⟩:=hw.F b o u h;exact(Array.getElem?_eq_some_iff.1 h1).1
theorem WF.Ge (hw:WF G w)(o:Nat):G.F w.heap.size o=none:=by
 cases h:G.F w.heap.size o with
 |none=>rfl
 |some u=>have:=hw.adw h;omega
theorem C9 (hn:¬G.dom nm)(b:Nat)(ar:Option (Nat×Nat×Nat)):G.le (G.add nm b ar):=by
 have hne:∀k,G.dom k->k≠nm:=λk d e=>hn (e▸d)
 refine⟨λ_ _ _ h=>h,λk d=>.inr d,λk d a=> ?_,λk n e c d a=>⟨n,e,c, ?_,Nat.le_refl _,λ_=>⟨rfl,rfl, ?_⟩,.inl rfl⟩⟩
 ·simp[Gh.add,hne k d,a]
 ·simp[Gh.add,hne k d,a]
 ·simp[Gh.add,hne k d]
theorem kS (hw:WF G w)(hn:¬G.dom nm)(o:Obj)(ar:Option (Nat×Nat×Nat))(W:Nm->Prop):Step W (λk=>k=nm) G w (G.add nm w.heap.size ar) (World.ck w o):=by
 have hne:∀k,G.dom k->k≠nm:=λk d e=>hn (e▸d)
 refine⟨C9 hn _ _,⟨λb p u h=> ?_,λk k' d d' a a' e=> ?_,λk d=> ?_⟩,λk d _=>by simp[Gh.add,hne k d],λb hb _=>⟨jZ hb,λ_=>rfl⟩,λk d=>d.symm.imp id id,λk d=> ?_,by simp[World.ck],rfl,rfl,rfl⟩
 ·obtain⟨vs,ty,fr,h1,h2⟩:=hw.F b p u h;exact⟨vs,ty,fr,by rw[jZ (Array.getElem?_eq_some_iff.1 h1).1];exact h1,h2⟩
 ·simp only[Gh.add] at e d d';rcases d with rfl|d<;>rcases d' with rfl|d'
  ·rfl
  ·rw[if_pos rfl,if_neg (hne _ d')] at e;have:=hw.lt _ d';omega
  ·rw[if_neg (hne _ d),if_pos rfl] at e;have:=hw.lt _ d;omega
  ·rw[if_neg (hne _ d),if_neg (hne _ d')] at e;exact hw.inj _ _ d d' ((C9 hn _ _).alive d a) ((C9 hn _ _).alive d' a') e
 ·simp only[Gh.add,World.ck,Array.size_push] at d ⊢;rcases d with rfl|d
  ·simp
  ·rw[if_neg (hne _ d)];have:=hw.lt _ d;omega
 ·rcases d with rfl|d
  ·exact .inr (by simp[Gh.add])
  ·exact .inl ⟨_,d,by simp[Gh.add,hne _ d],.inl rfl⟩
theorem AZ (hw:WF G w)(hn:¬G.dom nm){cs:List TV}{vs:List Value}(hv:cB G cs vs)(ty:TypeId):
 (G.add nm w.heap.size none).dom nm/\OR (G.add nm w.heap.size none) (World.ck w (.cells vs.toArray ty)) nm (.cells ty cs):=by
 refine⟨.inl rfl,by simp[Gh.add],vs.toArray,ty,(0,0), ?_,⟨?_,rfl⟩, ?_, ?_⟩
 ·simp[Gh.add,iJ]
 ·intro o _ h;omega
 ·simpa using hv.mono (C9 hn _ _)
 ·intro o;simpa [Gh.add] using hw.Ge o
theorem JX (hw:WF G w)(hn:¬G.dom nm){b:Bool}{bD cap:Nat}{cs:List TV}{vs:List Value}(he:0<bD)(hv:cB G cs (vs.take cs.length))(hs:vs.length=cap*bD)(hl:cs.length<=vs.length)(ty:TypeId)(fr:Nat×Nat)(hfr:l5 vs.toArray fr)(hun:C3 bD fr):
 (G.add nm w.heap.size (some (cs.length,bD,cap))).dom nm/\OR (G.add nm w.heap.size (some (cs.length,bD,cap))) (World.ck w (.cells vs.toArray ty fr)) nm (.arr (ty,b) bD false cs):=by
 refine⟨.inl rfl,he,cap,vs.toArray,ty,fr,by simp[Gh.add], ?_,⟨hfr,rfl,hun⟩,by simpa using hs,by simpa using hl, ?_, ?_⟩
 ·simp[Gh.add,iJ]
 ·simpa using hv.mono (C9 hn _ _)
 ·intro o _;simpa [Gh.add] using hw.Ge o
theorem zu (hw:WF G w)(hn:¬G.dom nm){b:Bool}{bD cap:Nat}{cs:List TV}{vs:List Value}(he:0<bD)(hv:cB G cs (vs.take cs.length))(hs:vs.length=cap*bD)(hl:cs.length<=vs.length)(ty:TypeId):
 (G.add nm w.heap.size (some (cs.length,bD,cap))).dom nm/\OR (G.add nm w.heap.size (some (cs.length,bD,cap))) (World.ck w (.cells vs.toArray ty)) nm (.arr (ty,b) bD false cs):=
 JX hw hn he hv hs hl ty (0,0) (λo _ h=>by omega) (λ_=>rfl)
theorem w9 {bD cap n len:Nat}(h:len*bD=n)(hn:¬G.dom nm):VR (G.add nm w.heap.size (some (n,bD,cap))) (.ref nm 0 len) (.slice (some ⟨w.heap.size,0,none⟩) len cap):=by
 refine .ref nm 0 len n bD cap _ (.inl rfl) (by simp[Gh.add]) (by simp[h]) ⟨_,_,rfl⟩ λ_=>⟨_,by simp;rfl,λ_=>by simp[Gh.add]⟩
theorem SD {o:Oper}{elem:TypeId}{ti:TI}{z:TV}(hw:WF G w)(hn:¬G.dom nm)(ho:o.op=.alloc elem)(ht:bf C.P elem=some ti)(hz:ti.zero=some z):
 cG C.P nm o a w G (.ptr nm 0) [(nm,.cells elem z.cells)]:=by
 obtain⟨x,h1,h2⟩:=eM ht hz w G
 have hc:=h2.cells (pX ht hz)
 have ha:=AZ hw hn hc elem
 refine cG.eR (w':=World.ck w (.cells x.cells.toList.toArray elem)) (G':=G.add nm w.heap.size none) (x:=.pointer (some ⟨w.heap.size,0,none⟩)) ?_ (kS hw hn _ _ _) ?_ ?_
 ·simp[execOp,ho,Instr.alloc,h1,newVar,jh,World.ck]
 ·intro k ob hm;simp at hm;obtain⟨rfl,rfl⟩:=hm;exact ha
 ·have:=VR.ptr (G:=G.add nm w.heap.size none) nm 0 (.inl rfl) (by simp[Gh.add]);simpa [Gh.add] using this
theorem aaX {o:Oper}{elem:TypeId}{x:Operand}{z:TV}(hw:WF G w)(hn:¬G.dom nm)(ho:o.op=.box elem x)(hz:VR G z (a.eval x))(hlf:z.cells.all TV.leaf=true):
 cG C.P nm o a w G (.ptr nm 0) [(nm,.cells elem z.cells)]:=by
 have hc:=hz.cells (CB hlf)
 have ha:=AZ hw hn hc elem
 refine cG.eR (w':=World.ck w (.cells (a.eval x).cells.toList.toArray elem)) (G':=G.add nm w.heap.size none) (x:=.pointer (some ⟨w.heap.size,0,none⟩)) ?_ (kS hw hn _ _ _) ?_ ?_
 ·simp[execOp,ho,Instr.box,newVar,jh,World.ck]
 ·intro k ob hm;simp at hm;obtain⟨rfl,rfl⟩:=hm;exact ha
 ·have:=VR.ptr (G:=G.add nm w.heap.size none) nm 0 (.inl rfl) (by simp[Gh.add]);simpa [Gh.add] using this
theorem cB.cD {cs xs:List TV}{vs ys:List Value}{off:Nat}(h:cB G cs vs)(hx:cB G xs ys):cB G (cD cs off xs) (over vs off ys):=by
 unfold Go.Abs.cD over;rw[hx.1];exact((h.take off).append hx).append (h.drop _)
theorem A0 {vs ys:List Value}{off n:Nat}(h:off+ys.length<=n)(hn:n<=vs.length):(over vs off ys).take n=over (vs.take n) off ys:=by
 unfold over;apply List.ext_getElem?;intro i;simp only[List.getElem?_take,List.getElem?_append,List.length_append,List.length_take,List.getElem?_drop];by_cases c1:i<n
 ·rw[if_pos c1];have e1:min off vs.length=off:=by omega
  have e2:min off (min n vs.length)=off:=by omega
  rw[e1,e2];by_cases c2:i<off
  ·simp[c2,show i<off+ys.length by omega,c1]
  ·by_cases c3:i<off+ys.length
   ·simp[c2,c3]
   ·simp[c3];intro hc;omega
 ·rw[if_neg c1];have e2:min off (min n vs.length)=off:=by omega
  rw[e2,if_neg (by omega),if_neg (by omega)]
theorem k3 {cs xs:List TV}{off:Nat}(h:off+xs.length<=cs.length):(cD cs off xs).length=cs.length:=by
 unfold cD;simp;omega
theorem bK {vs ys:List Value}{off:Nat}(h:off+ys.length<=vs.length):(over vs off ys).length=vs.length:=by
 unfold over;simp;omega
theorem mh {xs:List TV}{ys:List Value}(h:cB G xs ys)(hl:xs.all TV.leaf=true):∀y∈ys,one y=true:=by
 intro y hy;obtain⟨j,hj⟩:=List.mem_iff_getElem?.1 hy;have hjl:j<xs.length:=by have:=(List.getElem?_eq_some_iff.1 hj).1;have:=h.1;omega
 have hx:=List.getElem?_eq_getElem hjl;exact(h.2 j _ _ hx hj).leaf (List.all_eq_true.1 hl _ (List.getElem_mem hjl))
theorem gq (hw:WF G w){k:Nm}(hd:G.dom k)(ak:G.alive k){vs:List Value}{us:Array Value}{ty:TypeId}{fr:Nat×Nat}(hh:w.heap[G.mu k]?=some (.cells us ty fr))
 (hF:∀o,(∃u,G.F (G.mu k) o=some u)->vs[o]?=us[o]?):Step (λx=>x=k) (λ_=>False) G w G (World.aS w (G.mu k) vs.toArray ty fr):=by
 refine⟨.refl G,⟨λb o u h=> ?_,hw.inj,λk d=>by rw[l8];exact hw.lt k d⟩,λ_ _ _=>⟨rfl,rfl⟩,λb hb hn=>⟨gp (hn k rfl hd ak) _ _ _,λ_=>rfl⟩,λ_ d=>.inl d,λk d=>.inl ⟨k,d,rfl,.inl rfl⟩,by rw[l8];exact Nat.le_refl _,rfl,rfl,rfl⟩
 obtain⟨us',ty',fr',h1,h2⟩:=hw.F b o u h
 by_cases e:G.mu k=b
 ·subst e;refine⟨vs.toArray,ty,fr,bH (hw.lt k hd) _ _ _, ?_⟩;rw[hh] at h1;simp at h1;obtain⟨rfl,_,_⟩:=h1;have:=hF o ⟨u,h⟩;rw[h2] at this;simpa using this
 ·exact⟨us',ty',fr',by rw[gp e];exact h1,h2⟩
theorem zw {t:TypeId}{ti:TI}{x:Value}{p:TV}{b o:Nat}{vs:List Value}{ty:TypeId}{fr:Nat×Nat}(ht:bf C.P t=some ti)(hx:VR G p x)(hl:p.cells.length=ti.size)(hlf:p.cells.all TV.leaf=true)
 (hh:w.heap[b]?=some (.cells vs.toArray ty fr))(mX:l5 vs.toArray fr)(hle:o+ti.size<=vs.length):
 (storeVar t ⟨b,o,none⟩ x).run C.P w=.ok () (World.aS w b (over vs o x.cells.toList).toArray ty fr):=by
 have hc:=hx.cells (CB hlf)
 have hsz:x.cells.size=ti.size:=by have:=hc.1;simp at this;omega
 unfold storeVar
 rw[fR (dR ht w)]
 have:=gI (P:=C.P) (o:=o) x.cells.toList w 0 vs (mh hc hlf) hh mX (by simp[hsz];omega)
 simp only[Nat.add_zero] at this
 simp[hsz,this]
theorem Qj {o:Oper}{t:TypeId}{pa px:Operand}{p q:TV}{u:List (Nm×aO)}(hw:WF G w)(hH:HR G w H)(ho:o.op=.store t pa px)(hp:VR G p (a.eval pa))(hq:VR G q (a.eval px))(h:storeT C.P H t p q=some u):
 cG C.P nm o a w G bS u:=by
 unfold storeT at h
 cases ht:bf C.P t<;>simp only[ht,reduceCtorEq] at h
 rename_i ti
 split at h
 ·rename_i hc;obtain⟨hl,hlf⟩:=hc;have hqc:=hq.cells (CB hlf);have hql:(a.eval px).cells.toList.length=ti.size:=by rw[hqc.1,hl]
  split at h
  ·rename_i k off;split at h
   ·rename_i Hy cs hk;split at h<;>simp at h;rename_i hle;subst h;obtain⟨hd,har,vs,ty,fr,hh,mX,hv,hF⟩:=hH k _ hk;generalize hpv:a.eval pa=pv at hp;cases hp with|ptr _ _ _ _=>
    have hvl:vs.toList.length=cs.length:=hv.1;have hrun:=zw (o:=off) ht hq hl hlf (by simpa using hh) (by simpa using mX.1) (by omega);have hst:=gq (vs:=over vs.toList off (a.eval px).cells.toList) hw hd (Gh.jf har) hh (λo ⟨u,hu⟩=>by rw[hF] at hu;simp at hu);refine cG.CC (w':=World.aS w (G.mu k) (over vs.toList off (a.eval px).cells.toList).toArray ty fr) (G':=G) ?_ (hst.mono (λx _ e=>by simp[e]) (λ_ e=>e.elim)) ?_
    ·simp[execOp,ho,Instr.storeAt,hpv,Instr.sureAddr,hrun]
    ·intro k' ob hm;simp at hm;obtain⟨rfl,rfl⟩:=hm;refine⟨hd,har,_,ty,fr,bH (hw.lt _ hd) _ _ _,⟨?_,mX.2⟩,by simpa using hv.cD hqc,hF⟩;intro o ho';have:(over vs.toList off (a.eval px).cells.toList).length=vs.toList.length:=bK (by omega);exact mX.1 o (by simp[this] at ho';simpa using ho')
   ·simp at h
  ·rename_i k n off;split at h
   ·rename_i g bD cs hk;split at h<;>simp at h;rename_i cW;obtain⟨hn,hle⟩:=cW;subst h;obtain⟨hd,he,cap,vs,ty,fr,har,hh,mX,hs,hlc,hv,hF⟩:=hH k _ hk;generalize hpv:a.eval pa=pv at hp;cases hp with|js _ _ _ n' Sz cap' _ hd' og hle' ho' vz=>
    rw[har] at og;simp at og;obtain⟨e1,e2,e3⟩:=og;have hx:=vz (by omega);subst hx;have hrun:=zw (o:=off) ht hq hl hlf (by simpa using hh) (by simpa using mX.1) (by simp;omega);have hst:=gq (vs:=over vs.toList off (a.eval px).cells.toList) hw hd (Gh.fW har he) hh (λo ⟨u,hu⟩=>by rw[hF o (.inl rfl)] at hu;simp at hu);have hlen:(over vs.toList off (a.eval px).cells.toList).length=vs.toList.length:=bK (by rw[hql];simp;omega);refine cG.CC (w':=World.aS w (G.mu k) (over vs.toList off (a.eval px).cells.toList).toArray ty fr) (G':=G) ?_ (hst.mono (λx _ e=>by simp[e]) (λ_ e=>e.elim)) ?_
    ·simp[execOp,ho,Instr.storeAt,hpv,Instr.sureAddr,hrun]
    ·intro k' ob hm;simp at hm;obtain⟨rfl,rfl⟩:=hm;have HA:(cD cs off q.cells).length=cs.length:=k3 (by omega);refine⟨hd,he,cap,_,ty,fr,by rw[HA];exact har,bH (hw.lt _ hd) _ _ _,⟨?_,mX.2⟩,by simpa [hlen] using hs,by simp[hlen,HA];omega, ?_,λo _=>hF o (.inl rfl)⟩
     ·intro o ho';exact mX.1 o (by simp[hlen] at ho';simpa using ho')
     ·rw[HA];simp only[List.toList_toArray];rw[A0 (by omega) (by simp;omega)];exact hv.cD hqc
   ·simp at h
  ·simp at h
 ·simp at h
end
end Go.Abs
namespace Go.Abs
open Go
theorem Da (off:Nat):∀(ys:List Value) (j0:Nat) (vs:List Value),off+j0+ys.length<=vs.length->
 (ys.zipIdx j0).foldl (λ(cs:Array Value) (p:Value×Nat)=>cs.setIfInBounds (off+p.2) p.1) vs.toArray=(over vs (off+j0) ys).toArray:=by
 intro ys
 induction ys with
 |nil=>intro j0 vs _;simp[vP]
 |cons y r ih=>
  intro j0 vs h
  simp only[List.zipIdx_cons,List.foldl_cons]
  have:vs.toArray.setIfInBounds (off+j0) y=(vs.set (off+j0) y).toArray:=by simp
  rw[this,ih (j0+1) _ (by simp at h ⊢;omega),← Nat.add_assoc,F7 (by simpa [Nat.add_assoc] using h)]
theorem Db (ys:Array Value)(off:Nat)(vs:List Value)(h:off+ys.size<=vs.length):
 ys.zipIdx.foldl (λ(cs:Array Value) (p:Value×Nat)=>cs.setIfInBounds (off+p.2) p.1) vs.toArray=(over vs off ys.toList).toArray:=by
 have:=Da off ys.toList 0 vs (by simpa using h)
 rw[← Array.foldl_toList,Array.toList_zipIdx]
 simpa using this
section
variable {C:cE}{f:FuncId}{nm:Nm}{H:Heap}{slots:List TV}{a:Act}{w:World}{G:Gh}{v:TV}
inductive PR (G:Gh):List (Nat×TV)->List (Nat×Value)->Prop
 |nil:PR G [] []
 |cons {i x y ps qs} (h:VR G x y) (hs:PR G ps qs):PR G ((i,x)::ps) ((i,y)::qs)
theorem JY (hs:SR G slots a)(hg:jO C G){l:List (Nat×Operand)}{ps:List (Nat×TV)}(h:qt C slots l=some ps):PR G ps (l.map λ(p:Nat×Operand)=>(p.1,a.eval p.2)):=by
 induction l generalizing ps with
 |nil=>simp[qt] at h;subst h;exact .nil
 |cons p r ih=>
  obtain⟨i,x⟩:=p
  simp only[qt] at h
  cases h1:cg C slots x<;>cases h2:qt C slots r<;>simp[h1,h2] at h
  subst h
  exact .cons (bP hs hg h1) (ih h2)
theorem Dc {place:Nat->Option (Nat×Nat)}{ps:List (Nat×TV)}{qs:List (Nat×Value)}(hp:PR G ps qs):∀{cs ds:List TV} {vs:List Value},cB G cs vs->rE place cs ps=some ds->
 ∃us:List Value,Instr.fill place vs.toArray qs=some us.toArray/\cB G ds us:=by
 induction hp with
 |nil=>intro cs ds vs hv h;simp[rE] at h;subst h;exact⟨vs,by simp[Instr.fill],hv⟩
 | cons hxy h2 ih=>
   rename_i i x y ps' qs'
   intro cs ds vs hv h
   simp only[rE] at h
   cases hpl:place i with
   |none=>rw[hpl] at h;simp at h
   | some os=>
     obtain⟨off,size⟩:=os
     rw[hpl] at h
     simp only at h
     split at h
     · rename_i hc
       obtain⟨c1,c2,c3⟩:=hc
       have hxc:=hxy.cells (CB c3)
       have hsz:y.cells.size=size:=by have:=hxc.1;simp at this;omega
       have hvl:=hv.1
       obtain⟨us,h3,h4⟩:=ih (hv.cD hxc (off:=off)) h
       refine⟨us, ?_,h4⟩
       simp only[Instr.fill,hpl]
       rw[if_neg (by simp[hsz];omega)]
       rw[Db _ _ _ (by omega)]
       exact h3
     · simp at h
theorem Ck {w:World}:∀{l:List Field} {ps:List (Nat×Nat)},jU C.P l=some ps->(l.mapM λf=>Prod.mk f.offset<$>sizeOf f.type:Sem (List (Nat×Nat))).run C.P w=.ok ps w:=by
 intro l;induction l with
 |nil=>intro ps h;simp[jU] at h;subst h;simp
 |cons f r ih=>
  intro ps h
  simp only[jU] at h
  cases h1:bf C.P f.type<;>cases h2:jU C.P r<;>simp[h1,h2] at h
  subst h
  simp only[List.mapM_cons]
  simp[dR h1 w,ih h2]
theorem Mu {t:TypeId}{ps:List (Nat×TV)}{qs:Array (Nat×Value)}(hp:PR G ps qs.toList)(h:Mq C.P t ps=some v)(w:World):∃r,(Instr.build t qs).run C.P w=.ok r w/\VR G v r:=by
 unfold Mq at h;cases ht:bf C.P t<;>simp only[ht,reduceCtorEq] at h;rename_i ti;obtain⟨_,_,hu,_⟩:=bC ht;have kj:=aL hu w;split at h
 ·rename_i z fs hz hd;cases hf:jU C.P fs.toList<;>simp only[hf,reduceCtorEq] at h;rename_i pl;cases hfl:rE (λi=>pl[i]?) z.cells ps<;>simp only[hfl,reduceCtorEq] at h;rename_i cs;simp at h;subst h;obtain⟨zv,h1,h2⟩:=eM ht hz w G;obtain⟨us,h3,h4⟩:=Dc hp (h2.cells (pX ht hz)) hfl;refine⟨.agg us.toArray, ?_,vL h4⟩;have hfun:(λi:Nat=>(pl.toArray)[i]?)=λi=>pl[i]?:=by funext i;simp
  have hm:=Ck (C:=C) (w:=w) hf;simp[Instr.build,h1,kj,hd,Array.mapM_eq_mapM_toList,hm,hfun];simp only[Array.toArray_toList] at h3;rw[h3];rfl
 ·rename_i z n elem hz hd;cases hte:bf C.P elem<;>simp only[hte,reduceCtorEq] at h;rename_i te;cases hfl:rE (λi=>some (i*te.size,te.size)) z.cells ps<;>simp only[hfl,reduceCtorEq] at h;rename_i cs;simp at h;subst h;obtain⟨zv,h1,h2⟩:=eM ht hz w G;obtain⟨us,h3,h4⟩:=Dc hp (h2.cells (pX ht hz)) hfl;refine⟨.agg us.toArray, ?_,vL h4⟩;simp[Instr.build,h1,kj,hd,dR hte w];simp only[Array.toArray_toList] at h3;rw[h3];rfl
 ·simp at h
theorem fT (n:Nat)(z:List TV):(r7 n z).length=n*z.length:=by
 induction n with
 |zero=>simp[r7]
 |succ n ih=>simp[r7,ih,Nat.succ_mul];omega
theorem Dd {z:List TV}:∀{n j:Nat},j<n*z.length->(r7 n z)[j]?=z[j % z.length]?:=by
 intro n;induction n with
 |zero=>intro j h;simp at h
 | succ n ih=>
   intro j h
   simp only[r7]
   by_cases hj:j<z.length
   · rw[List.getElem?_append_left hj,Nat.mod_eq_of_lt hj]
   · rw[List.getElem?_append_right (by omega),ih (by rw[Nat.succ_mul] at h;omega)]
     have:j % z.length=(j - z.length) % z.length:=Nat.mod_eq_sub_mod (by omega)
     rw[this]
theorem De {z:TV}{zv:Value}(hz:VR G z zv)(hne:z≠ .any)(n m:Nat)(hm:z.cells.length=m)(hpos:0<m):cB G (r7 n z.cells) ((Array.range (n*m)).map (zv.cells[· % zv.cells.size]!)).toList:=by
 have hc:=hz.cells hne;have hsz:zv.cells.size=m:=by have:=hc.1;simp at this;omega
 refine⟨by simp[fT,hm],λj c u h1 h2=> ?_⟩;have hj:j<n*m:=by have:=(List.getElem?_eq_some_iff.1 h1).1;rw[fT,hm] at this;exact this
 rw[Dd (by rw[hm];exact hj),hm] at h1;have hmod:j % m<m:=Nat.mod_lt _ hpos;simp[hj,hsz,hmod] at h2;refine hc.2 (j % m) c u h1 ?_;simp[← h2,hsz,hmod]
open Classical in
noncomputable def Gh.row (G:Gh)(b:Nat)(vs:List Value):Gh:={G with F:=λc o=>if c=b then vs[o]? else G.F c o}
theorem SE (hw:WF G w)(vs:List Value):G.le (G.row w.heap.size vs):=by
 refine⟨λb o u h=> ?_,λ_ d=>d,λ_ _ a=>⟨a,rfl⟩,λ_ n e c _ a=>⟨n,e,c,a,Nat.le_refl _,λ_=>⟨rfl,rfl,rfl⟩,.inl rfl⟩⟩;have:=hw.adw h;simp only[Gh.row];rw[if_neg (by omega)];exact h
theorem row_step (hw:WF G w)(vs:List Value)(ty:TypeId)(W N:Nm->Prop)(fr:Nat×Nat:=(0,0)):Step W N G w (G.row w.heap.size vs) (World.ck w (.cells vs.toArray ty fr)):=by
 refine⟨SE hw vs,⟨λb o u h=> ?_,hw.inj,λk d=> ?_⟩,λ_ _ _=>⟨rfl,rfl⟩,λb hb _=>⟨jZ hb,λo=>by simp[Gh.row];omega⟩,λ_ d=>.inl d,λk d=>.inl ⟨k,d,rfl,.inl rfl⟩,by simp[World.ck],rfl,rfl,rfl⟩
 ·simp only[Gh.row] at h;split at h
  ·rename_i e;subst e;exact⟨vs.toArray,ty,fr,iJ _ _,by simpa using h⟩
  ·obtain⟨us,ty',fr',h1,h2⟩:=hw.F b o u h;exact⟨us,ty',fr',by rw[jZ (Array.getElem?_eq_some_iff.1 h1).1];exact h1,h2⟩
 ·have:=hw.lt k d;show G.mu k<(w.heap.push _).size;simp;omega
theorem Mv (hw:WF G w){g:Bool}{bD len:Nat}{ts es:List Tree}{vs:List Value}(hv:Cj G.F ts vs)(hc:chunk g bD len ts=some es)(cap:Nat)(hcap:len<=cap)(vs':List Value)(hpre:∀(j:Nat) u,vs[j]?=some u->vs'[j]?=some u):
 VT (G.row w.heap.size vs').F (.sl es) (.slice (some ⟨w.heap.size,0,none⟩) len cap):=by
 obtain⟨c1,c2,c3⟩:=tV hc
 subst c1
 by_cases hne:es=[]
 ·subst hne;exact .AO _ _
 ·refine .sl bD es _ 0 cap (λj=>vs.getD j undef) hne hcap c3 ?_ ?_
  ·intro j c hj;rw[c2] at hj;have hjl:j<vs.length:=by have:=(List.getElem?_eq_some_iff.1 hj).1;have:=hv.1;omega
   simp only[Gh.row,Nat.zero_add,if_true];rw[hpre j vs[j] (List.getElem?_eq_getElem hjl)];simp[List.getD,hjl]
  ·intro j c hj;rw[c2] at hj;have hjl:j<vs.length:=by have:=(List.getElem?_eq_some_iff.1 hj).1;have:=hv.1;omega
   have:=hv.2 j c vs[j] hj (List.getElem?_eq_getElem hjl);have e:vs.getD j undef=vs[j]:=by simp[List.getD,hjl]
   rw[e];exact this.mono (SE hw vs').F
theorem Df {o:Oper}{akb:Bool}{t:TypeId}{len:Nat}{parts:Array (Nat×Operand)}{ps:List (Nat×TV)}{u:List (Nm×aO)}(hw:WF G w)(hn:¬G.dom nm)(ho:o.op=.buildSlice t len parts)
 (hp:PR G ps (parts.map λ(p:Nat×Operand)=>(p.1,a.eval p.2)).toList)(h:rF C.P akb nm t len ps=some (v,u)):cG C.P nm o a w G v u:=by
 unfold rF at h
 cases ht:bf C.P t<;>simp only[ht,reduceCtorEq] at h
 rename_i ti
 obtain⟨_,_,hu,_⟩:=bC ht
 split at h
 ·rename_i elem hd;cases hte:bf C.P elem<;>simp only[hte,reduceCtorEq] at h;rename_i te;cases hz:te.zero<;>simp only[hz,reduceCtorEq] at h;rename_i z;split at h
  ·rename_i hc;obtain⟨c1,c2,c3,c4⟩:=hc;cases hfl:rE (λi=>some (i*te.size,te.size)) (r7 len z.cells) ps<;>simp only[hfl,reduceCtorEq] at h;rename_i cs;obtain⟨zv,h1,h2⟩:=eM hte hz w G;have hr:=De h2 (pX hte hz) len te.size c3 c1;obtain⟨us,h3,h4⟩:=Dc hp hr hfl;have adx:cs.length=len*te.size:=by
    have:∀(ps:List (Nat×TV)) (cs ds:List TV),rE (λi=>some (i*te.size,te.size)) cs ps=some ds->ds.length=cs.length:=by
     intro ps;induction ps with
     |nil=>intro cs ds h;simp[rE] at h;rw[h]
     | cons p r ih=>
       intro cs ds h
       simp only[rE] at h
       split at h
       · rename_i hcc
         rw[ih _ _ h,k3 (by omega)]
       · simp at h
    rw[this _ _ _ hfl,fT,c3]
   have ko:us.length=len*te.size:=by rw[h4.1,adx]
   have hrun:(execOp a.eval o).run C.P w=.ok (.value (.slice (some ⟨w.heap.size,0,none⟩) len len)) (World.ck w (.cells us.toArray elem)):=by
    have kj:=aL hu w;simp only[Array.toArray_toList] at h3;simp only[execOp,ho,Instr.buildSlice];simp only[bind_assoc,pure_bind,Sem.run_bind,kj,hd,Result.andThen_ok,dR hte w];rw[if_neg (by omega)];simp only[bind_assoc,pure_bind,Sem.run_bind,Result.andThen_ok,Sem.run_pure];by_cases h0:len*te.size=0
    ·rw[if_pos h0];have e:((Array.range (len*te.size)).map λx=>(#[]:Array Value)[x % (#[]:Array Value).size]!)=(Array.range (len*te.size)).map (zv.cells[· % zv.cells.size]!):=by rw[h0];simp
     rw[e,h3];simp[jh,World.ck]
    ·rw[if_neg h0];simp only[bind_assoc,pure_bind,Sem.run_bind,Result.andThen_ok,Sem.run_pure,h1,h3];simp[jh,World.ck]
   have Dg:∀g:Bool,cG C.P nm o a w G (.ref nm 0 len) [(nm,.arr (elem,g) te.size false cs)]:=by
    intro g;have yy:=zu (b:=g) (cap:=len) hw hn c1 (cs:=cs) (vs:=us) (by rw[List.take_of_length_le (by omega)];exact h4) ko (by omega) elem;refine cG.eR hrun (kS hw hn _ (some (cs.length,te.size,len)) _) ?_ ?_
    ·intro k ob hm;simp at hm;obtain⟨rfl,rfl⟩:=hm;exact yy
    ·exact w9 (by rw[adx]) hn
   split at h
   ·rename_i es x5;simp at h;obtain⟨rfl,rfl⟩:=h;cases hal:allT (cs.map OG)<;>rw[hal] at x5<;>simp at x5;rename_i ts;have h4:=Qc h4;rw[AR hal] at h4;have JZ:=Mv hw h4.Sl x5 len (Nat.le_refl _) us (λ_ _ h=>h);refine cG.eR hrun (row_step hw us elem _ _) (λ_ _ hm=>by simp at hm) ?_;obtain⟨e1,_⟩:=tV x5;subst e1;exact .jS es _ JZ
   ·simp at h;obtain⟨rfl,rfl⟩:=h;exact Dg _
  ·simp at h
 ·simp at h
end
end Go.Abs
namespace Go.Abs
open Go
theorem vS {n:Nat}:∀{es:List Tree} {i j:Nat} {e:Tree},(∀e∈es,e.cells.length=n)->es[i]?=some e->j<n->(flat es)[i*n+j]?=e.cells[j]?:=by
 intro es;induction es with
 |nil=>intro i j e _ h;simp at h
 | cons x r ih=>
  intro i j e hu h hj
  have hx:x.cells.length=n:=hu x List.mem_cons_self
  cases i with
  |zero=>
   simp at h;subst h
   simp only[flat,List.flatMap_cons,Nat.zero_mul,Nat.zero_add]
   rw[List.getElem?_append_left (by omega)]
  |succ i=>
   simp only[flat,List.flatMap_cons]
   rw[List.getElem?_append_right (by rw[hx,Nat.succ_mul];omega),hx]
   have:=ih (i:=i) (j:=j) (e:=e) (λe he=>hu e (List.mem_cons_of_mem _ he)) (by simpa using h) hj
   rw[← this]
   simp only[flat]
   congr 1
   rw[Nat.succ_mul];omega
theorem ff {n:Nat}:∀{es:List Tree},(∀e∈es,e.cells.length=n)->(flat es).length=es.length*n:=by
 intro es;induction es with
 |nil=>intro _;simp[flat]
 |cons x r ih=>
  intro hu
  have:=ih (λe he=>hu e (List.mem_cons_of_mem _ he))
  simp only[flat,List.flatMap_cons,List.length_append,hu x List.mem_cons_self,List.length_cons] at this ⊢
  rw[this,Nat.succ_mul];omega
theorem A1 {n:Nat}:∀{es:List Tree} {l:Nat},(∀e∈es,e.cells.length=n)->flat (es.drop l)=(flat es).drop (l*n):=by
 intro es;induction es with
 |nil=>intro l _;simp[flat]
 | cons x r ih=>
  intro l hu
  cases l with
  |zero=>simp
  |succ l=>
   have hx:x.cells.length=n:=hu x List.mem_cons_self
   have:=ih (l:=l) (λe he=>hu e (List.mem_cons_of_mem _ he))
   simp only[List.drop_succ_cons,flat,List.flatMap_cons] at this ⊢
   have e1:x.cells.drop ((l+1) *n)=[]:=List.drop_eq_nil_of_le (by rw[hx,Nat.succ_mul];omega)
   have e2:(l+1) *n - x.cells.length=l*n:=by rw[hx,Nat.succ_mul];omega
   rw[this,List.drop_append,e1,List.nil_append,e2]
theorem A3 {n:Nat}:∀{es:List Tree} {l:Nat},(∀e∈es,e.cells.length=n)->flat (es.take l)=(flat es).take (l*n):=by
 intro es;induction es with
 |nil=>intro l _;simp[flat]
 | cons x r ih=>
  intro l hu
  cases l with
  |zero=>simp[flat]
  |succ l=>
   have hx:x.cells.length=n:=hu x List.mem_cons_self
   have:=ih (l:=l) (λe he=>hu e (List.mem_cons_of_mem _ he))
   simp only[List.take_succ_cons,flat,List.flatMap_cons] at this ⊢
   have e1:x.cells.take ((l+1) *n)=x.cells:=List.take_of_length_le (by rw[hx,Nat.succ_mul];omega)
   have e2:(l+1) *n - x.cells.length=l*n:=by rw[hx,Nat.succ_mul];omega
   rw[this,List.take_append,e1,e2]
section
variable {C:cE}{f:FuncId}{nm:Nm}{H:Heap}{slots:List TV}{a:Act}{w:World}{G:Gh}{v:TV}
theorem lg {k:Nm}{off len:Nat}{g:TypeId×Bool}{bD:Nat}{fz:Bool}{cs:List TV}(h:iR H k off len=some (g,bD,fz,cs)):H.get k=some (.arr g bD fz cs)/\0<bD/\(off+len) *bD=cs.length:=by
 unfold iR at h;split at h
 ·split at h<;>simp at h;rename_i hc;obtain⟨rfl,rfl,rfl,rfl⟩:=h;exact⟨by assumption,hc.1,hc.2⟩
 ·simp at h
theorem tW {k:Nm}{off len:Nat}{g:TypeId×Bool}{bD:Nat}{fz:Bool}{cs:List TV}{x:Value}(hH:HR G w H)(h:iR H k off len=some (g,bD,fz,cs))(hx:VR G (.ref k off len) x):
 ∃cap vs ty fr b,G.dom k/\G.arr k=some (cs.length,bD,cap)/\w.heap[G.mu k]?=some (.cells vs ty fr)/\(l5 vs fr/\ty=g.1/\C3 bD fr)/\vs.size=cap*bD/\cs.length<=vs.size/\cB G cs (vs.toList.take cs.length)/\
  (∀o,(fz=false\/cs.length<=o)->G.F (G.mu k) o=none)/\x=.slice b len (cap - off)/\off+len<=cap/\(off<cap->b=some ⟨G.mu k,off*bD,none⟩):=by
 obtain⟨hk,hpos,htip⟩:=lg h
 obtain⟨hd,he,cap,vs,ty,fr,ha,hh,ht,hs,hl,hv,hf⟩:=hH k _ hk
 cases hx with|ref _ _ _ n' Sz cap' _ hd' og hle ho vz=>
  rw[ha] at og
  simp at og
  obtain⟨e1,e2,e3⟩:=og
  subst e2;subst e3
  obtain⟨b,rfl,hb⟩:=vz (by rw[htip];exact e1)
  have hcap:off+len<=cap:=by
   have:(off+len) *bD<=cap*bD:=by rw[htip,← hs];exact hl
   exact Nat.le_of_mul_le_mul_right this hpos
  exact⟨cap,vs,ty,fr,b,hd,ha,hh,ht,hs,hl,hv,hf,rfl,hcap,hb⟩
theorem XA {p:TV}{x:Value}{n:Nat}(hp:VR G p x)(h:yo H p=some n):(∃s:List UInt8,p=.t (.str s)/\n=s.length)\/(∃b c,x=.slice b n c)\/(p=.t .iI)\/(∃k,p=.map k)\/(∃k o l,p=.ref k o l/\n=l):=by
 unfold yo at h;split at h
 ·simp at h;exact .inl ⟨_,rfl,h.symm⟩
 ·simp at h;subst h;cases hp with|t _ _ hp=>cases hp with
   |AO b c=>exact .inr (.inl ⟨b,c,rfl⟩)
   |sl=>exact .inr (.inl ⟨_,_,rfl⟩)
 ·simp at h;subst h;cases hp;exact .inr (.inl ⟨_,_,rfl⟩)
 ·simp at h;subst h;cases hp;exact .inr (.inl ⟨_,_,rfl⟩)
 ·simp at h;exact .inr (.inr (.inr (.inr ⟨_,_,_,rfl,h.symm⟩)))
 ·exact .inr (.inr (.inl rfl))
 ·exact .inr (.inr (.inr (.inl ⟨_,rfl⟩)))
 ·simp at h
theorem VT.ZV {F:vI}{es:List Tree}{x:Value}{i:Nat}{e:Tree}(h:VT F (.sl es) x)(he:es[i]?=some e):
 ∃b o cap bD,∃vals:Nat->Value,x=.slice (some ⟨b,o,none⟩) es.length cap/\e.cells.length=bD/\(∀(j:Nat) c,e.cells[j]?=some c->F b (o+i*bD+j)=some (vals j))/\∀(j:Nat) c,e.cells[j]?=some c->VT F c (vals j):=by
 cases h with
 |AO b c=>simp at he
 | sl bD _ b o cap vals hne hc hu hF hv=>
   have hem:e∈es:=List.mem_of_getElem? he
   refine⟨b,o,cap,bD,λj=>vals (i*bD+j),rfl,hu e hem,λj c hj=> ?_,λj c hj=> ?_⟩
   · have hjl:j<bD:=by rw[← hu e hem];exact(List.getElem?_eq_some_iff.1 hj).1
     rw[Nat.add_assoc]
     exact hF _ c (by rw[vS hu he hjl];exact hj)
   · have hjl:j<bD:=by rw[← hu e hem];exact(List.getElem?_eq_some_iff.1 hj).1
     exact hv _ c (by rw[vS hu he hjl];exact hj)
theorem pq {t elem:TypeId}{ti te:TI}{b:Option Addr}{len cap:Nat}{i:Nat}{k:IntKind}{bb oo:Nat}(ht:bf C.P t=some ti)(hd:ti.desc=.slice elem)(hte:bf C.P elem=some te)
 (hb:b=some ⟨bb,oo,none⟩)(hi:i<len):(Instr.indexAt t (.slice b len cap) (.int k (i:Int))).run C.P w=.ok (.pointer (some ⟨bb,oo+i*te.size,none⟩)) w:=by
 subst hb
 obtain⟨_,_,hu,_⟩:=bC ht
 rw[hd] at hu
 have kj:=aL hu w
 simp[Instr.indexAt,asIntOf,kj,dR hte w,hi,oe]
theorem Dh {t:TypeId}{x y:Value}{p q:TV}(hH:HR G w H)(hp:VR G p x)(hq:VR G q y)(h:dI C.P H t p q=some v):∃r,(Instr.indexAt t x y).run C.P w=.ok r w/\VR G v r:=by
 unfold dI at h;cases ht:bf C.P t<;>cases hi:fA q<;>simp only[ht,hi,reduceCtorEq] at h;rename_i ti i;obtain⟨k,rfl⟩:=qw hq hi;split at h
 ·rename_i elem es hd;cases hte:bf C.P elem<;>cases he:es[i]? <;>simp only[hte,he,reduceCtorEq] at h;rename_i te e;split at h<;>simp at h;rename_i hs;subst h;obtain⟨b,o,cap,bD,vals,rfl,h1,h2,h3⟩:=hp.tree.ZV he;refine⟨_,pq ht hd hte rfl (List.getElem?_eq_some_iff.1 he).1, ?_⟩;rw[← hs,h1];exact .jt e.cells 0 b (o+i*bD) vals h2 h3
 ·rename_i elem es hd;cases hte:bf C.P elem<;>cases he:es[i]? <;>simp only[hte,he,reduceCtorEq] at h;rename_i te e;split at h<;>simp at h;rename_i hs;subst h;cases hp with|jS _ ad hp=>
  obtain⟨b,o,cap,bD,vals,hx,h1,h2,h3⟩:=hp.ZV he;simp at hx;obtain⟨hx,hx2⟩:=hx;refine⟨_,pq ht hd hte hx (List.getElem?_eq_some_iff.1 he).1, ?_⟩;rw[← hs,h1];exact .jt e.cells 0 b (o+i*bD) vals h2 h3
 ·rename_i elem k' off len hd;cases hte:bf C.P elem<;>cases hr:iR H k' off len<;>simp only[hte,hr,reduceCtorEq] at h;rename_i te r;obtain⟨g,bD,fz,cs⟩:=r;simp only at h;split at h<;>simp at h;rename_i hc;obtain⟨hs,hil⟩:=hc;subst h;obtain⟨cap,vs,ty,fr,b,q5,har,hh,mX,hsz,hlc,hv,hf,rfl,hcap,hb⟩:=tW hH hr hp;refine⟨_,pq ht hd hte (hb (by omega)) hil, ?_⟩;have e:off*bD+i*te.size=(off+i) *bD:=by rw[hs,Nat.add_mul]
  rw[e];exact .js k' cs.length _ cs.length bD cap _ q5 har (Nat.le_refl _) ⟨_,rfl⟩ (λ_=>rfl)
 ·rename_i len elem hd;cases hte:bf C.P elem<;>simp only[hte,reduceCtorEq] at h;rename_i te;split at h
  ·rename_i hil;obtain⟨b,o,rfl,hv⟩:=Gb hH hp h;refine⟨_, ?_,hv⟩;obtain⟨_,_,hu,_⟩:=bC ht;rw[hd] at hu;have kj:=aL hu w;simp[Instr.indexAt,asIntOf,kj,dR hte w,hil,oe,Instr.sureAddr]
  ·simp at h
 ·simp at h
theorem VT.sub {F:vI}{es:List Tree}{b:Option Addr}{len cap l h m size:Nat}(hv:VT F (.sl es) (.slice b len cap))(hs:jV size es=true)(h1:l<=h)(h2:h<=len)(h3:h<=m):
 VT F (.sl ((es.take h).drop l)) (.slice (if m=l then b else b.map (·.add (l*size))) (h - l) (m - l)):=by
 have hlen:len=es.length:=by cases hv<;>simp
 by_cases e:l=h
 ·subst e;rw[Nat.sub_self,List.drop_eq_nil_of_le (by simp;omega)];exact .AO _ _
 ·cases hv with
  |AO=>simp at h2;omega
  | sl bD _ b' o _ vals hne hc hu hF OI=>
    have hsz:bD=size:=by
      cases es with
      |nil=>exact absurd rfl hne
      |cons x r=>simp[jV] at hs;rw[← hs];exact(hu x List.mem_cons_self).symm
    subst hsz
    rw[if_neg (by omega)]
    simp only[Option.map_some,oe]
    have hsub:∀x∈(es.take h).drop l,x.cells.length=bD:=λx hx=>hu x (List.mem_of_mem_take (List.mem_of_mem_drop hx))
    have SF:((es.take h).drop l).length=h - l:=by simp;omega
    have hfl:flat ((es.take h).drop l)=((flat es).take (h*bD)).drop (l*bD):=by
      rw[A1 (λx hx=>hu x (List.mem_of_mem_take hx)),A3 hu]
    rw[← SF]
    refine .sl bD _ b' (o+l*bD) _ (λj=>vals (l*bD+j)) ?_ (by omega) hsub ?_ ?_
    · intro hh;rw[hh] at SF;simp at SF;omega
    · intro j c hj
      rw[hfl,List.getElem?_drop,List.getElem?_take] at hj
      split at hj
      · have:=hF _ c hj
        rw[← this];congr 1;omega
      · simp at hj
    · intro j c hj
      rw[hfl,List.getElem?_drop,List.getElem?_take] at hj
      split at hj
      · exact OI _ c hj
      · simp at hj
end
end Go.Abs
namespace Go.Abs
open Go
section
variable {C:cE}{f:FuncId}{nm:Nm}{H:Heap}{slots:List TV}{a:Act}{w:World}{G:Gh}{v:TV}
def Xg (G:Gh):Option TV->Option Value->Prop
 |none,none=>True
 |some p,some v=>VR G p v
 |_,_=>False
theorem qc {p:TV}{x:Value}{n y:Nat}{code:BoundsCode}(hp:VR G p x)(h:fA p=some n)(hy:n<=y):(Instr.sliceBound x y code).run C.P w=.ok n w:=by
 obtain⟨k,rfl⟩:=qw hp h;simp[Instr.sliceBound,asIntOf,hy]
theorem yz {isS:Bool}{len cap:Nat}{lo hi mx:Option TV}{xl xh xm:Option Value}{l h m:Nat}(hl:Xg G lo xl)(hh:Xg G hi xh)(hm:Xg G mx xm)
 (el:ez lo 0=some l)(eh:ez hi len=some h)(em:ez mx len=some m)(emx:(mx.isNone||hi.isSome)=true)(h1:l<=h)(h2:h<=m)(h3:m<=len)(h4:len<=cap):
 (Instr.sliceBounds isS len cap xl xh xm).run C.P w=.ok (l,h,if mx.isSome then m else cap) w:=by
 cases mx with
 | none=>
  cases xm with
  |some _=>exact absurd hm id
  |none=>
  simp[ez] at em;subst em
  cases hi with
  | none=>
   cases xh with
   |some _=>exact absurd hh id
   |none=>
   simp[ez] at eh;subst eh
   cases lo with
   |none=>
    cases xl with
    |some _=>exact absurd hl id
    |none=>simp[ez] at el;subst el;simp[Instr.sliceBounds]
   | some pl=>
    cases xl with
    |none=>exact absurd hl id
    |some vl=>
     simp only[Instr.sliceBounds]
     have hb:∀code,(Instr.sliceBound vl len code).run C.P w=.ok l w:=λcode=>qc hl el h1
     simp[hb]
  | some ph=>
   cases xh with
   |none=>exact absurd hh id
   |some vh=>
   have hb:∀code,(Instr.sliceBound vh cap code).run C.P w=.ok h w:=λcode=>qc hh eh (by omega)
   cases lo with
   |none=>
    cases xl with
    |some _=>exact absurd hl id
    |none=>simp[ez] at el;subst el;simp[Instr.sliceBounds,hb]
   | some pl=>
    cases xl with
    |none=>exact absurd hl id
    |some vl=>
     have hb2:∀code,(Instr.sliceBound vl h code).run C.P w=.ok l w:=λcode=>qc hl el h1
     simp[Instr.sliceBounds,hb,hb2]
 | some pm=>
  cases xm with
  |none=>exact absurd hm id
  |some vm=>
  have hbm:∀code,(Instr.sliceBound vm cap code).run C.P w=.ok m w:=λcode=>qc hm em (by omega)
  cases hi with
  |none=>simp at emx
  | some ph=>
   cases xh with
   |none=>exact absurd hh id
   |some vh=>
   have hb:∀code,(Instr.sliceBound vh m code).run C.P w=.ok h w:=λcode=>qc hh eh (by omega)
   cases lo with
   |none=>
    cases xl with
    |some _=>exact absurd hl id
    |none=>simp[ez] at el;subst el;simp[Instr.sliceBounds,hb,hbm]
   | some pl=>
    cases xl with
    |none=>exact absurd hl id
    |some vl=>
     have hb2:∀code,(Instr.sliceBound vl h code).run C.P w=.ok l w:=λcode=>qc hl el h1
     simp[Instr.sliceBounds,hb,hb2,hbm]
theorem Gg {t elem:TypeId}{ti te:TI}{b:Option Addr}{len cap l h m:Nat}{xl xh xm:Option Value}(ht:bf C.P t=some ti)(hd:ti.desc=.slice elem)(hte:bf C.P elem=some te)
 (hb:(Instr.sliceBounds true len cap xl xh xm).run C.P w=.ok (l,h,m) w):
 (Instr.sliceAt t (.slice b len cap) xl xh xm).run C.P w=.ok (.slice (if m=l then b else b.map (·.add (l*te.size))) (h - l) (m - l)) w:=by
 obtain⟨_,_,hu,_⟩:=bC ht
 rw[hd] at hu
 have kj:=aL hu w
 simp[Instr.sliceAt,Instr.slice,kj,hb,dR hte w]
theorem HB {tight:Bool}{es:List Tree}{b:Option Addr}{len cap l h m size:Nat}(hv:VT G.F (.sl es) (.slice b len cap))(hs:jV size es=true)(h1:l<=h)(h2:h<=len)(h3:h<=m)(ht:tight=true->m=h):
 VR G (Qb tight es l h) (.slice (if m=l then b else b.map (·.add (l*size))) (h - l) (m - l)):=by
 have hsub:=VT.sub hv hs h1 h2 h3
 unfold Qb
 split
 ·have hm:=ht (by assumption);subst hm;have hlen:((es.take m).drop l).length=m - l:=by
   have:len=es.length:=by cases hv<;>simp
   simp;omega
  rw[← hlen] at hsub ⊢;exact .jS _ _ hsub
 ·exact .t _ _ hsub
def Gh.cut (G:Gh)(k nm:Nm)(n m:Nat)(e c:Nat):Gh:=
 {G with mu:=λx=>if x=nm then G.mu k else G.mu x,arr:=λx=>if x=nm then some (m,e,c) else if x=k then some (n+1,0,0) else G.arr x,dom:=λx=>x=nm\/G.dom x}
theorem J1 {nm k:Nm}{n e c m:Nat}(hw:WF G w)(hn:¬G.dom nm)(hd:G.dom k)(ha:G.arr k=some (n,e,c))(he:0<e):Step (λx=>x=k) (λx=>x=nm) G w (G.cut k nm n m e c) w:=by
 have hkn:k≠nm:=λx=>hn (x▸hd)
 have hne:∀x,G.dom x->x≠nm:=λx d e=>hn (e▸d)
 have ak:G.alive k:=Gh.fW ha he;have al:∀x,x≠nm->(G.cut k nm n m e c).alive x->x≠k/\G.alive x:=λx h1 h=>by
  have h2:x≠k:=by
   intro e1;subst e1;exact h (n+1) 0 (by simp[Gh.cut,h1])
  exact⟨h2,λa b q=>h a b (by simp[Gh.cut,h1,h2,q])⟩
 refine⟨⟨λ_ _ _ h=>h,λx d=>.inr d,λx d a=> ?_,λx n0 e0 c0 d a=> ?_⟩,⟨hw.F,λx y d d' a a' q=> ?_,λx d=> ?_⟩,λx d h=> ?_,λ_ _ _=>⟨rfl,λ_=>rfl⟩,λx d=>d.symm,λx d=> ?_,Nat.le_refl _,rfl,rfl,rfl⟩
 ·have h2:x≠k:=by intro e1;subst e1;rw[ha] at a;cases a
  simp[Gh.cut,hne x d,h2,a]
 ·by_cases h2:x=k
  ·subst h2;rw[ha] at a;cases a;exact⟨n+1,0,0,by simp[Gh.cut,hkn],Nat.le_succ _,λq=>by omega,.inr rfl⟩
  ·exact⟨n0,e0,c0,by simp[Gh.cut,hne x d,h2,a],Nat.le_refl _,λ_=>⟨rfl,rfl,by simp[Gh.cut,hne x d]⟩,.inl rfl⟩
 ·by_cases h1:x=nm<;>by_cases h2:y=nm
  ·rw[h1,h2]
  ·obtain⟨g1,g2⟩:=al y h2 a';have dy:G.dom y:=d'.resolve_left h2;simp only[Gh.cut,if_pos h1,if_neg h2] at q;exact absurd (hw.inj _ _ hd dy ak g2 q).symm g1
  ·obtain⟨g1,g2⟩:=al x h1 a;have dx:G.dom x:=d.resolve_left h1;simp only[Gh.cut,if_neg h1,if_pos h2] at q;exact absurd (hw.inj _ _ dx hd g2 ak q) g1
  ·obtain⟨g1,g2⟩:=al x h1 a;obtain⟨g3,g4⟩:=al y h2 a';simp only[Gh.cut,if_neg h1,if_neg h2] at q;exact hw.inj _ _ (d.resolve_left h1) (d'.resolve_left h2) g2 g4 q
 ·simp only[Gh.cut];split
  ·exact hw.lt _ hd
  ·rename_i h1;exact hw.lt _ (d.resolve_left h1)
 ·simp[Gh.cut,hne x d,h]
 ·by_cases h1:x=nm
  ·exact .inl ⟨k,hd,by simp[Gh.cut,h1],.inr ⟨rfl,ak⟩⟩
  ·exact .inl ⟨x,d.resolve_left h1,by simp[Gh.cut,h1],.inl rfl⟩
theorem Qk        {nm:Nm}{o:Oper}{t:TypeId}{px:Operand}{XB XC XD:Option Operand}{p:TV}{lo hi mx:Option TV}{u:List (Nm×aO)}(hw:WF G w)(hH:HR G w H)(hn:¬G.dom nm)(ho:o.op=.slice t px XB XC XD)
 (hp:VR G p (a.eval px))(hl:Xg G lo (XB.map a.eval))(hh:Xg G hi (XC.map a.eval))(hm:Xg G mx (XD.map a.eval))(h:yp C.P H nm t p lo hi mx=some (v,u)):cG C.P nm o a w G v u:=by
 unfold yp at h
 split at h
 ·rename_i k len hv;split at h
  ·rename_i ti h0 g bD cs ht hi0 hro;split at h
   ·rename_i elem hd;split at h
    ·rename_i te hte;split at h
     ·rename_i hc;obtain⟨hc1,cW⟩:=hc;cases h;have je:∀r w',(Instr.sliceAt t (a.eval px) (XB.map a.eval) (XC.map a.eval) (XD.map a.eval)).run C.P w=.ok r w'->(execOp a.eval o).run C.P w=.ok (.value r) w':=by
       intro r w' hr;simp[execOp,ho,hr]
      generalize hpx:a.eval px=xv at hp;obtain⟨cap,vs,ty,fr,b,q5,har,J2,mX,hsz,hlc,hvs,hf,rfl,hcap,hb⟩:=tW hH hro hp;obtain⟨hk,hpos,htip⟩:=lg hro;have hkn:k≠nm:=λx=>hn (x▸q5)
      have hrun:=Gg (te:=te) (b:=b) (len:=len) (cap:=cap - 0) ht hd hte (yz (w:=w) hl hh hm (l:=0) (h:=h0) (m:=len) rfl hi0 rfl rfl (Nat.zero_le _) cW (Nat.le_refl _) (by omega));have hle:h0*bD<=cs.length:=by rw[← htip,Nat.zero_add];exact Nat.mul_le_mul_right _ cW
      have hlen:(cs.take (h0*bD)).length=h0*bD:=by rw[List.length_take,Nat.min_eq_left hle]
      have hst:=J1 (m:=h0*bD) hw hn q5 har hpos;refine cG.eR (w':=w) (G':=G.cut k nm cs.length (h0*bD) bD cap) (je _ _ (by rw[hpx];exact hrun)) (hst.mono (λx _ e=>by simp[e]) (λ_ e=>e)) ?_ ?_
      ·intro k1 ob hm1;simp only[List.mem_cons,List.not_mem_nil,or_false,Prod.mk.injEq] at hm1;rcases hm1 with ⟨rfl,rfl⟩|⟨rfl,rfl⟩
       ·exact⟨.inr q5,trivial⟩
       ·refine⟨.inl rfl,hpos,cap,vs,ty,fr, ?_, ?_,mX,hsz, ?_, ?_,λq _=> ?_⟩
        ·simp[Gh.cut,hlen]
        ·simpa [Gh.cut] using J2
        ·rw[hlen];omega
        ·have h3:=(hvs.take (h0*bD)).mono hst.le;rw[hlen];rwa [List.take_take,Nat.min_eq_left hle] at h3
        ·have:=hf q (.inl rfl);simpa [Gh.cut] using this
      ·refine .ref nm 0 h0 (h0*bD) bD cap _ (.inl rfl) (by simp[Gh.cut]) (by rw[Nat.zero_add];exact Nat.le_refl _) ⟨_,_,rfl⟩ λ_=> ?_
       refine⟨_,rfl,λhlt=> ?_⟩;rw[hb hlt];simp[Gh.cut,Addr.add]
     ·cases h
    ·cases h
   ·cases h
  ·cases h
 ·cases h
theorem Ql        {o:Oper}{t:TypeId}{px:Operand}{XB XC XD:Option Operand}{p:TV}{lo hi mx:Option TV}{ks:List Nm}(hw:WF G w)(hH:HR G w H)(ho:o.op=.slice t px XB XC XD)
 (hp:VR G p (a.eval px))(hl:Xg G lo (XB.map a.eval))(hh:Xg G hi (XC.map a.eval))(hm:Xg G mx (XD.map a.eval))(h:qq C.P H t p lo hi mx=some (v,ks)):cG C.P nm o a w G v (cT H ks):=by
 unfold qq at h
 cases ht:bf C.P t<;>simp only[ht,reduceCtorEq] at h
 rename_i ti
 obtain⟨_,_,hu,_⟩:=bC ht
 have je:∀r w',(Instr.sliceAt t (a.eval px) (XB.map a.eval) (XC.map a.eval) (XD.map a.eval)).run C.P w=.ok r w'->(execOp a.eval o).run C.P w=.ok (.value r) w':=by
  intro r w' hr;simp[execOp,ho,hr]
 split at h
 ·rename_i hd;rw[hd] at hu;have kj:=aL hu w;split at h
  ·rename_i s;split at h
   ·rename_i l Di el eh;split at h<;>simp at h;rename_i hc;obtain⟨hc1,cW⟩:=hc;obtain⟨rfl,rfl⟩:=h;have hx:=hp.str;cases hmx:XD.map a.eval with
    |some _=>rw[hmx] at hm;exact absurd hm id
    |none=>
    have hb:=yz (C:=C) (w:=w) (isS:=false) (len:=s.length) (cap:=s.length) hl hh (mx:=none) (xm:=none) trivial el eh rfl rfl hc1 cW (Nat.le_refl _) (Nat.le_refl _);refine cG.quiet hw (x:=.string ((ByteArray.mk s.toArray).extract l Di)) (je _ _ ?_) ?_
    ·rw[hx,hmx];simp only[Option.isSome_none,Bool.false_eq_true,if_false] at hb;have hb':(Instr.sliceBounds false (ByteArray.mk s.toArray).size (ByteArray.mk s.toArray).size (XB.map a.eval) (XC.map a.eval) none).run C.P w=.ok (l,Di,s.length) w:=hb;simp[Instr.sliceAt,Instr.slice,kj,hb']
    ·have e:(ByteArray.mk s.toArray).extract l Di=⟨((s.take Di).drop l).toArray⟩:=by
      apply Go.WideShapes.bytes_inj;rw[Go.Lib.extract_data];simp;rw[List.drop_take]
     rw[e];exact .t _ _ (.str _)
   ·simp at h
  ·simp at h
 ·rename_i elem hd;split at h
  ·rename_i te n hte hn;split at h
   ·rename_i l Di m el eh em emx;split at h
    ·rename_i hc;obtain⟨hc1,cW,iF⟩:=hc;have main:∀(b:Option Addr) (cap:Nat),n<=cap->a.eval px=.slice b n cap->
      (Instr.sliceAt t (a.eval px) (XB.map a.eval) (XC.map a.eval) (XD.map a.eval)).run C.P w=.ok (.slice (if(if mx.isSome then m else cap)=l then b else b.map (·.add (l*te.size))) (Di - l) ((if mx.isSome then m else cap) - l)) w:=by
      intro b cap hcap hx
      rw[hx]
      exact Gg ht hd hte (yz hl hh hm el eh em emx hc1 cW iF hcap)
     split at h
     ·simp at h;obtain⟨rfl,rfl⟩:=h;generalize hpx:a.eval px=xv at hp main;cases hp;simp[yo] at hn;subst hn;have:=main none 0 (by omega) rfl;have e:m=0/\Di=0/\l=0:=by omega
      obtain⟨rfl,rfl,rfl⟩:=e;simp at this;exact cG.quiet hw (je _ _ (by rw[hpx];exact this)) .cc
     ·rename_i es;split at h<;>simp at h;rename_i hs;obtain⟨rfl,rfl⟩:=h;simp[yo] at hn;subst hn;generalize hpx:a.eval px=xv at hp main;have hpt:=hp.tree;have yA:∃b cap,xv=.slice b es.length cap/\es.length<=cap:=by
       cases hpt with
       |AO b c=>exact⟨b,c,rfl,by simp⟩
       |sl e es b o cap vals hne hcp _ _ _=>exact⟨_,cap,rfl,hcp⟩
      obtain⟨b,cap,rfl,hcap⟩:=yA;refine cG.quiet hw (je _ _ (by rw[hpx];exact main b cap hcap rfl)) (HB hpt hs hc1 (by omega) ?_ ?_)
      ·cases mx<;>simp<;>omega
      ·intro SC;cases mx<;>simp at SC ⊢;exact SC
     ·rename_i es;split at h<;>simp at h;rename_i hs;obtain⟨rfl,rfl⟩:=h;simp[yo] at hn;subst hn;generalize hpx:a.eval px=xv at hp main;cases hp with|jS _ b hpt=>
      refine cG.quiet hw (je _ _ (by rw[hpx];exact main b es.length (Nat.le_refl _) rfl)) (HB hpt hs hc1 (by omega) ?_ ?_)
      ·cases mx<;>simp<;>omega
      ·intro SC;cases mx<;>simp at SC ⊢<;>omega
     ·rename_i k off len;simp[yo] at hn;subst hn;split at h
      ·rename_i hcc;obtain⟨ag2,ajj⟩:=hcc;subst ag2;split at h
       ·rename_i g bD fz cs hro;split at h<;>simp at h;rename_i x5;subst x5;obtain⟨rfl,rfl⟩:=h;generalize hpx:a.eval px=xv at hp main;obtain⟨cap,vs,ty,fr,b,q5,har,J2,mX,hsz,hlc,hv,hf,rfl,hcap,hb⟩:=tW hH hro hp;obtain⟨hk,hpos,htip⟩:=lg hro;refine cG.quiet hw (je _ _ (by rw[hpx];exact main b (cap - off) (by omega) rfl)) ?_;have hmx:mx=none:=by cases mx<;>simp_all
        subst hmx;simp only[Option.isSome_none,Bool.false_eq_true,if_false];have e1:(off+l+(Di - l)) *te.size=cs.length:=by rw[show off+l+(Di - l)=off+Di by omega];exact htip
        refine .ref k (off+l) (Di - l) cs.length te.size cap _ q5 har (by omega) ⟨_,_,rfl⟩ λ_=>⟨_,by rw[show cap - (off+l)=cap - off - l by omega],λhlt=> ?_⟩
        rw[if_neg (by omega),hb (by omega)];simp only[Option.map_some,oe];rw[Nat.add_mul]
       ·simp at h
      ·split at h
       ·rename_i es ks' hfz;split at h<;>simp at h;rename_i hs;obtain⟨rfl,rfl⟩:=h;have JZ:=AY hw hH ks' fL _ _ _ _ hfz (λ_ hk=>hk) hp;have hst:=iu hw hH ks';generalize hpx:a.eval px=xv at hp main JZ;have yA:∃b cap,xv=.slice b es.length cap/\es.length<=cap:=by
         cases JZ with
         |AO b c=>exact⟨b,c,rfl,by simp⟩
         |sl e es b o cap vals hne hcp _ _ _=>exact⟨_,cap,rfl,hcp⟩
        obtain⟨b,cap,rfl,hcap⟩:=yA;have hlen :es.length=len:=by
         simp only[fL,pQ] at hfz;split at hfz
         ·split at hfz
          ·split at hfz
           ·split at hfz
            ·rename_i hch;simp at hfz;rw[← hfz.1];exact(tV hch).1
            ·simp at hfz
           ·simp at hfz
          ·simp at hfz
         ·simp at hfz
        rw[← hlen] at main;refine cG.eR (G':=G.frozen w H ks') (je _ _ (by rw[hpx];exact main b cap hcap rfl)) (hst.mono (λk _ hk=>mg hk.1 hk.2) (λ_ e=>e.elim)) (λk ob hm'=>sI hw hH hm') (HB JZ hs hc1 (by omega) ?_ ?_)
        ·cases mx<;>simp<;>omega
        ·intro SC;cases mx<;>simp at SC ⊢;exact SC
       ·simp at h
     ·simp at h
    ·simp at h
   ·simp at h
  ·simp at h
 ·simp at h
end
end Go.Abs
namespace Go.Abs
open Go
theorem Qm (n:Nat):∀(r c:Nat),Builtin.growBy n r c<=max c (n+(n+768)/ 4):=by
 intro r;induction r with
 |zero=>intro c;simp only[Builtin.growBy];omega
 | succ r ih=>
   intro c
   simp only[Builtin.growBy]
   split
   · omega
   · have:=ih (c+(c+768)/ 4)
     omega
theorem nextslicecap_le {n c:Nat}(h:c<n):Builtin.nextslicecap n c<=2*n:=by
 unfold Builtin.nextslicecap;split
 ·omega
 ·split
  ·omega
  ·have:=Qm n 4 c;omega
section
variable {C:cE}{f:FuncId}{nm:Nm}{H:Heap}{slots:List TV}{a:Act}{w:World}{G:Gh}{v:TV}
theorem WF.drew (hw:WF G w):WF G w.drew:=⟨hw.F,hw.inj,hw.lt⟩
theorem fH (hw:WF G w)(W N:Nm->Prop):Step W N G w G w.drew:=
 ⟨.refl G,hw.drew,λ_ _ _=>⟨rfl,rfl⟩,λ_ _ _=>⟨rfl,λ_=>rfl⟩,λ_ h=>.inl h,λk h=>.inl ⟨k,h,rfl,.inl rfl⟩,Nat.le_refl _,rfl,rfl,rfl⟩
theorem HR.drew (hH:HR G w H):HR G w.drew H:=by
 intro k o hk;obtain⟨d,ho⟩:=hH k o hk;refine⟨d, ?_⟩;cases o<;>exact ho
theorem VT.Gi {es:List Tree}{b:Option Addr}{len cap size:Nat}(hw:WF G w)(hv:VT G.F (.sl es) (.slice b len cap))(hs:jV size es=true){n:Nat}(hn:n<=len):
 ∃us:Array Value,(Builtin.firstCells size n (.slice b len cap)).run C.P w=.ok us w/\cB G (((flat es).map .t).take (n*size)) us.toList:=by
 cases hv with
 | AO b c=>
   have:n=0:=by omega
   subst this
   refine⟨#[], ?_,by simp[flat];exact cB.nil G⟩
   cases b with
   |none=>simp[Builtin.firstCells]
   | some b=>
     have:=nV (P:=C.P) (w:=w) (b:=b.block) (o:=b.off) [] (by simp)
     simp[Builtin.firstCells,loadCells,loadCellsFrom]
 | sl bD _ b o _ vals hne hc hu hF OI=>
   have hsz:bD=size:=by
     cases es with
     |nil=>exact absurd rfl hne
     |cons x r=>simp[jV] at hs;rw[← hs];exact(hu x List.mem_cons_self).symm
   subst hsz
   have hfl:(flat es).length=es.length*bD:=ff hu
   have hle:n*bD<=(flat es).length:=by rw[hfl];exact Nat.mul_le_mul_right _ hn
   refine⟨((List.range (n*bD)).map vals).toArray, ?_, ?_⟩
   · have:=nV (P:=C.P) (w:=w) (b:=b) (o:=o) ((List.range (n*bD)).map vals) (λj u hj=>by
       have hjl:j<n*bD:=by have:=(List.getElem?_eq_some_iff.1 hj).1;simpa using this
       simp[hjl] at hj
       subst hj
       obtain⟨vs,ty,fr,h1,h2⟩:=hw.F _ _ _ (hF j _ (List.getElem?_eq_getElem (by omega)))
       rw[cell_of h1];exact h2)
     simp only[List.length_map,List.length_range] at this
     exact this
   · refine⟨by simp only[List.length_map,List.length_range,List.length_take,List.toList_toArray];omega,λj c u h1 h2=> ?_⟩
     have hjl:j<n*bD:=by have:=(List.getElem?_eq_some_iff.1 h2).1;simpa using this
     simp[hjl] at h2
     subst h2
     rw[List.getElem?_take,if_pos hjl,List.getElem?_map,List.getElem?_eq_getElem (by omega)] at h1
     simp at h1
     subst h1
     exact .t _ _ (OI j _ (List.getElem?_eq_getElem (by omega)))
theorem tX {g:Bool}{size m:Nat}{x:Value}{p:TV}{cs:List TV}(hw:WF G w)(hH:HR G w H)(hp:VR G p x)(h:eO H g size p=some (m,cs)):
 (Builtin.lenOf x).run C.P w=.ok m w/\cs.length=m*size/\∀n,n<=m->∃us:Array Value,(Builtin.firstCells size n x).run C.P w=.ok us w/\cB G (cs.take (n*size)) us.toList:=by
 unfold eO at h
 split at h
 ·simp at h;obtain⟨rfl,rfl⟩:=h;cases hp;exact⟨rfl,by simp,λn hn=>⟨#[],rfl,by simp;exact cB.nil G⟩⟩
 ·rename_i es;split at h<;>simp at h;rename_i hs;obtain⟨rfl,rfl⟩:=h;have hpt:=hp.tree;have hlen:(flat es).length=es.length*size:=by
   cases hpt with
   |AO=>simp[flat]
   | sl bD _ b o _ vals hne hc hu hF OI=>
     have hsz:bD=size:=by
       cases es with
       |nil=>exact absurd rfl hne
       |cons x r=>simp[jV] at hs;rw[← hs];exact(hu x List.mem_cons_self).symm
     subst hsz
     exact ff hu
  have hx:∃b cap,x=.slice b es.length cap:=by cases hpt<;>exact⟨_,_,rfl⟩
  obtain⟨b,cap,rfl⟩:=hx;exact⟨rfl,by simpa using hlen,λn hn=>hpt.Gi hw hs hn⟩
 ·rename_i es;split at h<;>simp at h;rename_i hs;obtain⟨rfl,rfl⟩:=h;cases hp with|jS _ b hpt=>
  have hlen:(flat es).length=es.length*size:=by
   cases hpt with
   |AO=>simp[flat]
   | sl bD _ b o _ vals hne hc hu hF OI=>
     have hsz:bD=size:=by
       cases es with
       |nil=>exact absurd rfl hne
       |cons x r=>simp[jV] at hs;rw[← hs];exact(hu x List.mem_cons_self).symm
     subst hsz
     exact ff hu
  exact⟨rfl,by simpa using hlen,λn hn=>hpt.Gi hw hs hn⟩
 ·rename_i k off len;split at h
  ·rename_i g' e fz cs' hro;split at h<;>simp at h;rename_i x5;subst x5;obtain⟨rfl,rfl⟩:=h;obtain⟨cap,vs,ty,fr,b,q5,har,J2,mX,hsz,hlc,hv,hf,rfl,hcap,hb⟩:=tW hH hro hp;obtain⟨hk,hpos,htip⟩:=lg hro;have hmul:(off+len) *e=off*e+len*e:=Nat.add_mul _ _ _;refine⟨rfl,by simp;omega,λn hn=> ?_⟩;have hne:n*e<=len*e:=Nat.mul_le_mul_right _ hn;refine⟨((vs.toList.drop (off*e)).take (n*e)).toArray, ?_, ?_⟩
   ·by_cases h0:n=0
    ·subst h0;cases b with
     |none=>simp[Builtin.firstCells]
     |some b=>simp[Builtin.firstCells,loadCells,loadCellsFrom]
    ·rw[ hb (by omega)];have:=nV (P:=C.P) (w:=w) (b:=G.mu k) (o:=off*e) ((vs.toList.drop (off*e)).take (n*e)) (λj u hj=>by
      rw[List.getElem?_take] at hj;split at hj
      ·rw[List.getElem?_drop] at hj;rw[cell_of J2];simpa using hj
      ·simp at hj)
     have hl:((vs.toList.drop (off*e)).take (n*e)).length=n*e:=by simp;omega
     rw[hl] at this;exact this
   ·have h1:=(hv.drop (off*e)).take (n*e);have e1:((vs.toList.take cs'.length).drop (off*e)).take (n*e)=(vs.toList.drop (off*e)).take (n*e):=by
     apply List.ext_getElem?;intro i;simp only[List.getElem?_take,List.getElem?_drop];by_cases c:i<n*e
     ·rw[if_pos c,if_pos c,if_pos (by omega)]
     ·rw[if_neg c,if_neg c]
    rw[e1] at h1;exact h1
  ·simp at h
 ·rename_i s;split at h<;>simp at h;rename_i hc;obtain⟨hc1,cW⟩:=hc;subst hc1;obtain⟨rfl,rfl⟩:=h;have:=hp.str;subst this;refine⟨by simp[Builtin.lenOf,ByteArray.size],by simp,λn hn=>⟨_,rfl, ?_⟩⟩;have e:((ByteArray.mk s.toArray).extract 0 n).data.toList=s.take n:=by
   rw[Go.Lib.extract_data];simp
  rw[Nat.mul_one];have e2:((((ByteArray.mk s.toArray).extract 0 n).data.map λb=>Value.int .u8 (b.toNat:Int)).toList)=(s.take n).map λb=>Value.int .u8 (b.toNat:Int):=by
   rw[Array.toList_map,e]
  rw[e2];refine⟨by simp,λj c u h1 h2=> ?_⟩;rw[← List.map_take,List.getElem?_map] at h1;rw[List.getElem?_map] at h2;cases hj:(s.take n)[j]? with
  |none=>rw[hj] at h1;simp at h1
  | some b=>
    rw[hj] at h1 h2
    simp at h1 h2
    subst h1;subst h2
    exact .t _ _ (.int _ _)
 ·simp at h
def Gh.grow (G:Gh)(k:Nm)(b:Nat)(ar:Nat×Nat×Nat):Gh:=
 {G with mu:=λx=>if x=k then b else G.mu x,arr:=λx=>if x=k then some ar else G.arr x}
theorem k4 {k:Nm}{n e c n' c':Nat}(b:Nat)(ha:G.arr k=some (n,e,c))(hlt:n<n'):G.le (G.grow k b (n',e,c')):=by
 refine⟨λ_ _ _ h=>h,λ_ d=>d,λx d a=> ?_,λx m e' c0 d a=> ?_⟩
 ·have:x≠k:=by intro e;subst e;rw[ha] at a;simp at a
  simp[Gh.grow,this,a]
 ·by_cases hx:x=k
  ·subst hx;rw[ha] at a;simp at a;obtain⟨rfl,rfl,rfl⟩:=a;exact⟨n',_,c',by simp[Gh.grow],Nat.le_of_lt hlt,λe=>by omega,.inl rfl⟩
  ·exact⟨m,_,c0,by simp[Gh.grow,hx,a],Nat.le_refl _,λ_=>⟨rfl,rfl,by simp[Gh.grow,hx]⟩,.inl rfl⟩
theorem grow_step (hw:WF G w){k:Nm}{n e c n':Nat}(ha:G.arr k=some (n,e,c))(hlt:n<n')(N:Nm->Prop):Step (λx=>x=k) N G w (G.grow k (G.mu k) (n',e,c)) w:=by
 have vF:∀x,(G.grow k (G.mu k) (n',e,c)).mu x=G.mu x:=by intro x;simp only[Gh.grow];split<;>simp_all
 refine⟨k4 _ ha hlt,⟨hw.F,λx y dx dy ax ay e=>hw.inj x y dx dy ((k4 _ ha hlt).alive dx ax) ((k4 _ ha hlt).alive dy ay) (by rw[vF,vF] at e;exact e),λx d=>by rw[vF];exact hw.lt x d⟩,λx d hn=>⟨vF x,by simp[Gh.grow,hn]⟩,λ_ _ _=>⟨rfl,λ_=>rfl⟩,λ_ d=>.inl d,λx d=>.inl ⟨x,d,vF x,.inl rfl⟩,Nat.le_refl _,rfl,rfl,rfl⟩
theorem A4 (hw:WF G w){k:Nm}{n e c n' c':Nat}(ha:G.arr k=some (n,e,c))(hlt:n<n')(o:Obj)(N:Nm->Prop):Step (λx=>x=k) N G w (G.grow k w.heap.size (n',e,c')) (World.ck w o):=by
 refine⟨k4 _ ha hlt,⟨λb p u h=> ?_,λx y dx dy ax ay he=> ?_,λx d=> ?_⟩,λx d hn=>by simp[Gh.grow,hn],λb hb _=>⟨jZ hb,λ_=>rfl⟩,λ_ d=>.inl d,λx d=> ?_,by simp[World.ck],rfl,rfl,rfl⟩
 ·obtain⟨vs,ty,fr,h1,h2⟩:=hw.F b p u h;exact⟨vs,ty,fr,by rw[jZ (Array.getElem?_eq_some_iff.1 h1).1];exact h1,h2⟩
 ·simp only[Gh.grow] at he dx dy;by_cases hx:x=k<;>by_cases hy:y=k
  ·rw[hx,hy]
  ·rw[if_pos hx,if_neg hy] at he;have:=hw.lt y dy;omega
  ·rw[if_neg hx,if_pos hy] at he;have:=hw.lt x dx;omega
  ·rw[if_neg hx,if_neg hy] at he;exact hw.inj x y dx dy ((k4 _ ha hlt).alive dx ax) ((k4 _ ha hlt).alive dy ay) he
 ·simp only[Gh.grow] at d ⊢;show _<(w.heap.push o).size;rw[Array.size_push];split
  ·omega
  ·have:=hw.lt x d;omega
 ·simp only[Gh.grow] at d ⊢;by_cases hx:x=k
  ·exact .inr (by rw[if_pos hx];exact Nat.le_refl _)
  ·exact .inl ⟨x,d,by rw[if_neg hx],.inl rfl⟩
theorem pz {elem st xt:TypeId}{ti tx te:TI}{z:TV}{b:Option Addr}{sLen sCap m:Nat}{r:TypeId}{x:Value}{olds news:Array Value}(BL:bf C.P st=some ti)(hd:ti.desc=.slice elem)(Xh:bf C.P xt=some tx)
 (JE:(∃e,tx.desc=.slice e)\/tx.desc=.string)(hte:bf C.P elem=some te)(hz:te.zero=some z)(hzl:z.cells.length=te.size)(hb0:te.bytes≠0)
 (hlen:(Builtin.lenOf x).run C.P w=.ok m w)(hnew:(Builtin.firstCells te.size m x).run C.P w.drew=.ok news w.drew)
 (hold:(Builtin.firstCells te.size sLen (.slice b sLen sCap)).run C.P w.drew=.ok olds w.drew)(hgt:sCap<sLen+m)(HC:(sLen+m) *te.bytes<=eP):
 ∃ fq,sLen+m<=fq/\∃rest:Array Value,rest.size=(fq - (sLen+m)) *te.size/\
  (Builtin.append_ #[st,xt] r #[.slice b sLen sCap,x]).run C.P w=.ok (.slice (some ⟨w.heap.size,0,none⟩) (sLen+m) fq) (World.ck w.drew (.cells (olds++news++rest) elem)):=by
 obtain⟨_,_,hu,_⟩:=bC BL
 rw[hd] at hu
 obtain⟨_,_,hux,_⟩:=bC Xh
 obtain⟨i,hi,_,_,hbytes,_⟩:=bC hte
 obtain⟨zv,hz1,C7⟩:=eM hte hz w.drew ⟨λ_ _=>none,λ_=>0,λ_=>none,λ_=>False⟩
 have hzs:zv.cells.size=te.size:=by have:=(C7.cells (pX hte hz)).1;simp at this;omega
 refine⟨(Question.appendCap (sLen+m) sCap elem).cut (w.tape w.drawn (Question.appendCap (sLen+m) sCap elem)), ?_,Builtin.zeroCells zv.cells ((Question.appendCap (sLen+m) sCap elem).cut (w.tape w.drawn (Question.appendCap (sLen+m) sCap elem)) - (sLen+m)), ?_, ?_⟩
 ·show sLen+m<=sLen+m+_;omega
 ·simp[Builtin.zeroCells,hzs]
 ·have kj:∀w,(underlying st).run C.P w=.ok (.slice elem) w:=λw=>aL hu w
  have Mw:∀w,(underlying xt).run C.P w=.ok tx.desc w:=λw=>aL hux w
  have hsz:∀w,(sizeOf elem).run C.P w=.ok te.size w:=λw=>dR hte w
  have SG:∀w,(typeInfo elem).run C.P w=.ok i w:=λw=>pW hi w
  have hnc:=nextslicecap_le hgt;have XE:¬(281474976710656<Builtin.nextslicecap (sLen+m) sCap*i.bytes):=by
   rw[hbytes];have h1:Builtin.nextslicecap (sLen+m) sCap*te.bytes<=2* (sLen+m) *te.bytes:=Nat.mul_le_mul_right _ hnc;have h2:2* (sLen+m) *te.bytes=2* ((sLen+m) *te.bytes):=Nat.mul_assoc _ _ _;unfold eP at HC;omega
  have hb1:¬i.bytes=0:=by rw[hbytes];exact hb0
  have hq:(Question.appendCap (sLen+m) sCap elem).forced=false:=rfl;have ady:¬sLen+m<=sCap:=by omega
  rcases JE with ⟨e,JE⟩|JE<;>rw[JE] at Mw
  ·simp[Builtin.append_,kj,Mw,hsz,hlen,SG,ady,hb1,XE,hq,hold,hnew,hz1,jh,World.ck];rfl
  ·simp[Builtin.append_,kj,Mw,hsz,hlen,SG,ady,hb1,XE,hq,hold,hnew,hz1,jh,World.ck];rfl
theorem vT {elem st xt:TypeId}{ti tx te:TI}{b:Option Addr}{sLen sCap m:Nat}{r:TypeId}{x:Value}{news:Array Value}{w':World}(BL:bf C.P st=some ti)(hd:ti.desc=.slice elem)(Xh:bf C.P xt=some tx)
 (JE:(∃e,tx.desc=.slice e)\/tx.desc=.string)(hte:bf C.P elem=some te)
 (hlen:(Builtin.lenOf x).run C.P w=.ok m w)(hnew:(Builtin.firstCells te.size m x).run C.P w=.ok news w)(hle:sLen+m<=sCap)
 (hst:∀ad,b=some ad->(storeCells (ad.add (sLen*te.size)) news.toList).run C.P w=.ok () w')(hnn:b=none->w'=w):
 (Builtin.append_ #[st,xt] r #[.slice b sLen sCap,x]).run C.P w=.ok (.slice b (sLen+m) sCap) w':=by
 obtain⟨_,_,hu,_⟩:=bC BL
 rw[hd] at hu
 obtain⟨_,_,hux,_⟩:=bC Xh
 have kj:=aL hu w
 have Mw:=aL hux w
 have hsz:=dR hte w
 rcases JE with ⟨e,JE⟩|JE<;>rw[JE] at Mw<;>cases b with
 |none=>have:=hnn rfl;subst this;simp[Builtin.append_,kj,Mw,hsz,hlen,hnew,hle]
 |some ad=>simp[Builtin.append_,kj,Mw,hsz,hlen,hnew,hle,hst ad rfl]
theorem J3 {o:Oper}{b:Builtin}{args:Array Operand}{ats:Array TypeId}{r:Value}{w':World}(ho:o.op=.call {callee:=.builtin .append,args,argTypes:=ats})
 (h:(Builtin.append_ ats o.type (args.map a.eval)).run C.P w=.ok r w'):(execOp a.eval o).run C.P w=.ok (.value r) w':=by
 simp[execOp,ho,resolve,invoke,builtin,h]
theorem Mx {o         : Oper}{args:Array Operand}{ats:Array TypeId}{st xt:TypeId}{s x:TV}{u:List (Nm×aO)}(hw:WF G w)(hH:HR G w H)(hn:¬G.dom nm)(ho:o.op=.call {callee:=.builtin .append,args,argTypes:=ats})
 (hat:ats.toList=[st,xt])(hargs:cB G [s,x] (args.map a.eval).toList)(h:jM C.P nm H st xt s x=some (v,u)):cG C.P nm o a w G v u:=by
 have HD:ats= #[st,xt]:=by rw[← Array.toArray_toList (xs:=ats),hat]
 obtain⟨sv,rest,Dj,hs,mY⟩:=hargs.fQ
 obtain⟨xv,SH,he2,hx,Dk⟩:=mY.fQ
 have hr2:SH=[]:=by have:=Dk.1;simpa using this
 subst hr2
 subst he2
 have R9:args.map a.eval= #[sv,xv]:=by rw[← Array.toArray_toList (xs:=args.map a.eval),Dj]
 have je:∀r w',(Builtin.append_ #[st,xt] o.type #[sv,xv]).run C.P w=.ok r w'->(execOp a.eval o).run C.P w=.ok (.value r) w':=λr w' hr=>J3 (b:=.append) ho (by rw[HD,R9];exact hr)
 clear Dk mY Dj R9 hat
 unfold jM at h
 cases BL:bf C.P st<;>cases Xh:bf C.P xt<;>simp only[BL,Xh,reduceCtorEq] at h
 rename_i ti tx
 split at h
 ·rename_i elem hd adz;have JE:(∃e,tx.desc=.slice e)\/tx.desc=.string:=by
   split at adz
   ·rename_i e hh;exact .inl ⟨e,hh⟩
   ·rename_i hh;exact .inr hh
   ·simp at adz
  cases hte:bf C.P elem<;>simp only[hte,reduceCtorEq] at h;rename_i te;cases hz:te.zero<;>simp only[hz,reduceCtorEq] at h;rename_i z;split at h
  ·simp at h
  ·rename_i SI;simp only[not_or,Decidable.not_not] at SI;obtain⟨hs0,hzl,hb0⟩:=SI;have hpos:0<te.size:=by omega
   split at h
   ·rename_i m cs hsrc;obtain⟨JF,hcl,hfc⟩:=tX (C:=C) hw hH hx hsrc;obtain⟨news,Cm,Cn⟩:=hfc m (Nat.le_refl _);obtain⟨ajk,_,ag3⟩:=tX (C:=C) hw.drew hH.drew hx hsrc;rw[List.take_of_length_le (by omega)] at Cn;split at h
    ·rename_i hm0;subst hm0;have hnil:news= #[]:=by
      have h1:=Cn.1;have:cs=[]:=List.length_eq_zero_iff.1 (by omega);subst this;simp at h1;exact h1
     subst hnil;have fit:∀(b:Option Addr) (sLen sCap:Nat),sLen<=sCap->sv=.slice b sLen sCap->(execOp a.eval o).run C.P w=.ok (.value (.slice b sLen sCap)) w:=by
      intro b sLen sCap hle hsv;subst hsv;exact je _ _ (vT BL hd Xh JE hte JF Cm (by omega) (λad _=>by simp[storeCells]) (λ_=>rfl))
     split at h
     ·simp at h;obtain⟨rfl,rfl⟩:=h;cases hs;exact cG.quiet hw (fit none 0 0 (Nat.le_refl _) rfl) .cc
     ·rename_i es;simp at h;obtain⟨rfl,rfl⟩:=h;have hst:=hs.tree;cases hst with
      |AO b c=>exact cG.quiet hw (fit b 0 c (by omega) rfl) (.t _ _ (.AO b c))
      |sl e es b o cap vals h1 h2 h3 h4 h5=>exact cG.quiet hw (fit _ _ cap h2 rfl) (.t _ _ (.sl e es b o cap vals h1 h2 h3 h4 h5))
     ·rename_i es;simp at h;obtain⟨rfl,rfl⟩:=h;cases hs with|jS _ b hst=>exact cG.quiet hw (fit b _ _ (Nat.le_refl _) rfl) (.jS es b hst)
     ·rename_i k off len;split at h<;>simp at h;rename_i hro;obtain⟨rfl,rfl⟩:=h;obtain⟨⟨g,bD,fz,cs'⟩,hro⟩:=Option.isSome_iff_exists.1 hro;obtain⟨cap,vs,ty,fr,b,q5,har,J2,mX,hsz,hlc,hv,hf,rfl,hcap,hb⟩:=tW hH hro hs;exact cG.quiet hw (fit b len (cap - off) (by omega) rfl) hs
     ·simp at h
    ·rename_i hm0;split at h
     ·rename_i hlf;have J4:=mh Cn hlf;obtain⟨qx,aaY,J5⟩:=ag3 m (Nat.le_refl _);rw[List.take_of_length_le (by omega)] at J5;split at h
      ·split at h<;>simp at h;rename_i HC;obtain⟨rfl,rfl⟩:=h;cases hs;obtain⟨fq,hnc,rest,mY,hrun⟩:=pz (sLen:=0) (sCap:=0) (b:=none) (r:=o.type) (olds:= #[]) BL hd Xh JE hte hz hzl hb0 JF aaY (by simp[Builtin.firstCells]) (by omega) (by simpa using HC);have hvl:(qx.toList++rest.toList).length=fq*te.size:=by
        have h1:=J5.1;have h2:fq*te.size=m*te.size+(fq - m) *te.size:=by rw[← Nat.add_mul];congr 1;omega
        have h3:rest.toList.length=(fq - m) *te.size:=by simpa using mY
        rw[List.length_append,h3,h1,hcl,h2]
       have yy:=zu (nm:=nm) (b:=te.agg) (cap:=fq) (w:=w.drew) hw.drew hn hpos (cs:=cs) (vs:=qx.toList++rest.toList) (by rw[List.take_append_of_le_length (by rw[J5.1];exact Nat.le_refl _),List.take_of_length_le (by rw[J5.1];exact Nat.le_refl _)];exact J5) hvl (by have h9:=J5.1;simp only[List.length_append] at h9 ⊢;omega) elem;have Dg:(qx.toList++rest.toList).toArray= #[]++qx++rest:=by simp
       rw[Dg] at yy;refine cG.eR (je _ _ hrun) (((fH hw (λ_=>False) (λ_=>False)).trans (kS (w:=w.drew) hw.drew hn _ (some (cs.length,te.size,fq)) (λ_=>False))).mono (λ_ _ hh=>by simp at hh) (λ_ hh=>by simpa using hh)) ?_ ?_
       ·intro k ob hm;simp at hm;obtain⟨rfl,rfl⟩:=hm;exact yy
       ·have:=w9 (w:=w.drew) (nm:=nm) (bD:=te.size) (cap:=fq) (n:=cs.length) (len:=m) (by rw[hcl]) hn;simpa using this
      ·rename_i es;split at h
       ·rename_i n old hold;split at h<;>simp at h;rename_i HC;obtain⟨rfl,rfl⟩:=h;obtain⟨hlo,hol,hfo⟩:=tX (C:=C) hw.drew hH.drew hs hold;cases hs with|jS _ b hst=>
        have ag4:n=es.length:=by
         simp only[eO] at hold;split at hold<;>simp at hold;exact hold.1.symm
        subst ag4;obtain⟨zx,ho1,J6⟩:=hfo es.length (Nat.le_refl _);rw[List.take_of_length_le (by omega)] at J6;obtain⟨fq,hnc,rest,mY,hrun⟩:=pz (sLen:=es.length) (sCap:=es.length) (b:=b) (r:=o.type) (olds:=zx) BL hd Xh JE hte hz hzl hb0 JF aaY ho1 (by omega) HC;have vU:=J6.append J5;have Qn:(zx.toList++qx.toList).length=(es.length+m) *te.size:=by rw[vU.1,List.length_append,hol,hcl,Nat.add_mul]
        have hvl:(zx.toList++qx.toList++rest.toList).length=fq*te.size:=by
         have h2:fq*te.size=(es.length+m) *te.size+(fq - (es.length+m)) *te.size:=by rw[← Nat.add_mul];congr 1;omega
         have h3:rest.toList.length=(fq - (es.length+m)) *te.size:=by simpa using mY
         rw[List.length_append,h3,Qn,h2]
        have yy:=zu (nm:=nm) (b:=te.agg) (cap:=fq) (w:=w.drew) hw.drew hn hpos (cs:=old++cs) (vs:=zx.toList++qx.toList++rest.toList) (by rw[List.take_append_of_le_length (by rw[vU.1];exact Nat.le_refl _),List.take_of_length_le (by rw[vU.1];exact Nat.le_refl _)];exact vU) hvl (by have h9:=vU.1;simp only[List.length_append] at h9 ⊢;omega) elem;have Dg:(zx.toList++qx.toList++rest.toList).toArray=zx++qx++rest:=by simp
        rw[Dg] at yy;refine cG.eR (je _ _ hrun) (((fH hw (λ_=>False) (λ_=>False)).trans (kS (w:=w.drew) hw.drew hn _ (some ((old++cs).length,te.size,fq)) (λ_=>False))).mono (λ_ _ hh=>by simp at hh) (λ_ hh=>by simpa using hh)) ?_ ?_
        ·intro k ob hm;simp at hm;obtain⟨rfl,rfl⟩:=hm;exact yy
        ·exact w9 (w:=w.drew) (nm:=nm) (bD:=te.size) (cap:=fq) (n:=(old++cs).length) (len:=es.length+m) (by rw[List.length_append,hol,hcl,Nat.add_mul]) hn
       ·simp at h
      ·rename_i k len;split at h
       ·rename_i g e fz old hro;split at h<;>simp at h;rename_i hc;obtain⟨he,hg1,HC⟩:=hc;subst he;obtain⟨rfl,rfl⟩:=h;obtain⟨hk,adA,htip⟩:=lg hro;obtain⟨cap,vs,ty,fr,b,q5,har,J2,mX,hsz,hlc,hv,hf,rfl,hcap,hb⟩:=tW hH hro hs;simp only[Nat.zero_add,Nat.sub_zero,Nat.zero_mul] at*;have hml:old.length<(old++cs).length:=by
         rw[List.length_append,hcl];have:0<m*te.size:=Nat.mul_pos (by omega) hpos;omega
        have hnl:(old++cs).length=(len+m) *te.size:=by rw[List.length_append,hcl,← htip,Nat.add_mul]
        by_cases hfit:len+m<=cap
        ·have hb':=hb (by omega);subst hb';have hle2:(len+m) *te.size<=cap*te.size:=Nat.mul_le_mul_right _ hfit;have Qo:old.length+news.toList.length<=vs.toList.length:=by
          rw[Cn.1];have:(old++cs).length<=vs.size:=by rw[hnl,hsz];exact hle2
          simpa using this
         have hst:=gI (P:=C.P) (b:=G.mu k) (o:=len*te.size) (ty:=ty) (fr:=fr) news.toList w 0 vs.toList J4 (by simpa using J2) (by simpa using mX.1) (by simpa [htip] using Qo);simp only[Nat.add_zero,htip] at hst;have hrun:=vT (r:=o.type) (b:=some ⟨G.mu k,0,none⟩) BL hd Xh JE hte JF Cm hfit (λad had=>by simp at had;subst had;rw[oe,Nat.zero_add,htip];exact hst) (λhh=>by simp at hh);have s1:=gq (vs:=over vs.toList old.length news.toList) hw q5 (Gh.fW har adA) J2 (λq ⟨uu,hq⟩=>by
          have hql:q<old.length:=by
           rcases Nat.lt_or_ge q old.length with h|h
           ·exact h
           ·rw[hf q (.inr h)] at hq;simp at hq
          unfold over;rw[List.append_assoc,List.getElem?_append_left (by simp;omega),List.getElem?_take,if_pos hql];simp)
         have ag5:G.arr k=some (old.length,te.size,cap):=har;have s2:=grow_step (n':=(old++cs).length) s1.wf ag5 hml (λ_=>False);refine cG.eR (je _ _ hrun) ((s1.trans s2).mono (λq _ hq=>by simpa using hq) (λ_ hq=>by simp at hq)) ?_ ?_
         ·intro k' ob hm;simp at hm;obtain⟨rfl,rfl⟩:=hm;have vF:(G.grow k' (G.mu k') ((old++cs).length,te.size,cap)).mu k'=G.mu k':=by simp[Gh.grow]
          have hol:(over vs.toList old.length news.toList).length=vs.toList.length:=bK Qo;refine⟨q5,hpos,cap,(over vs.toList old.length news.toList).toArray,ty,fr,by simp[Gh.grow],by rw[vF];exact bH (hw.lt _ q5) _ _ _,⟨?_,mX.2⟩,by simpa [hol] using hsz, ?_, ?_, ?_⟩
          ·intro q hq;exact mX.1 q (by simp[hol] at hq;simpa using hq)
          ·rw[List.size_toArray,hol];have:=Qo;rw[Cn.1] at this;simpa using this
          ·have e1:((over vs.toList old.length news.toList).toArray.toList).take (old++cs).length=vs.toList.take old.length++news.toList:=by
            unfold over;rw[List.toList_toArray,List.take_append_of_le_length (by simp[Cn.1.symm];omega),List.take_of_length_le (by simp[Cn.1.symm];omega)]
           rw[e1];exact(hv.append Cn).mono (k4 _ har hml)
          ·intro q hq;rw[vF];refine hf q (hq.imp id (λhh=>by omega))
         ·refine .ref k 0 (len+m) (old++cs).length te.size cap _ q5 (by simp[Gh.grow]) (by rw[Nat.zero_add,hnl];exact Nat.le_refl _) ⟨_,_,rfl⟩ λ_=>⟨_,by simp;rfl,λ_=>by simp[Gh.grow]⟩
        ·have adB:VR G (.ref k 0 len) (.slice b len cap):=hs;obtain⟨hlo,_,hfo⟩:=tX (C:=C) (g:=g.2) hw.drew hH.drew (p:=.ref k 0 len) (size:=te.size) (m:=len) (cs:=old) adB (by simp[eO,hro]);obtain⟨zx,ho1,J6⟩:=hfo len (Nat.le_refl _);rw[List.take_of_length_le (by omega)] at J6;obtain⟨fq,hnc,rest,mY,hrun⟩:=pz (sLen:=len) (sCap:=cap) (b:=b) (r:=o.type) (olds:=zx) BL hd Xh JE hte hz hzl hb0 JF aaY ho1 (by omega) HC;have vU:=J6.append J5;have Qn:(zx.toList++qx.toList).length=(len+m) *te.size:=by rw[vU.1,hnl]
         have hvl:(zx.toList++qx.toList++rest.toList).length=fq*te.size:=by
          have h2:fq*te.size=(len+m) *te.size+(fq - (len+m)) *te.size:=by rw[← Nat.add_mul];congr 1;omega
          have h3:rest.toList.length=(fq - (len+m)) *te.size:=by simpa using mY
          rw[List.length_append,h3,Qn,h2]
         have hst:=A4 (w:=w.drew) (c':=fq) hw.drew har hml (.cells (zx++qx++rest) elem) (λ_=>False);refine cG.eR (je _ _ hrun) (((fH hw (λ_=>False) (λ_=>False)).trans hst).mono (λq _ hq=>by simpa using hq) (λ_ hq=>by simp at hq)) ?_ ?_
         ·intro k' ob hm;simp at hm;obtain⟨rfl,rfl⟩:=hm;have vF:(G.grow k' w.drew.heap.size ((old++cs).length,te.size,fq)).mu k'=w.drew.heap.size:=by simp[Gh.grow]
          have Dg:(zx++qx++rest).toList=zx.toList++qx.toList++rest.toList:=by simp
          refine⟨q5,hpos,fq,zx++qx++rest,elem,(0,0),by simp[Gh.grow],by rw[vF];exact iJ _ _,⟨λq _ hq=>by omega,hg1.symm,λ_=>rfl⟩,by rw[← Array.length_toList,Dg];exact hvl,by have h9:=vU.1;rw[← Array.length_toList,Dg];simp only[List.length_append] at h9 ⊢;omega, ?_, ?_⟩
          ·rw[Dg,List.take_append_of_le_length (by rw[vU.1];exact Nat.le_refl _),List.take_of_length_le (by rw[vU.1];exact Nat.le_refl _)];exact vU.mono (k4 _ har hml)
          ·intro q _;rw[vF];exact hw.drew.Ge q
         ·refine .ref k 0 (len+m) (old++cs).length te.size fq _ q5 (by simp[Gh.grow]) (by rw[Nat.zero_add,hnl];exact Nat.le_refl _) ⟨_,_,rfl⟩ λ_=>⟨_,by simp;rfl,λ_=>by simp[Gh.grow]⟩
       ·simp at h
      ·simp at h
     ·simp at h
   ·simp at h
 ·simp at h
end
end Go.Abs
namespace Go.Abs
open Go
section
variable {C:cE}{f:FuncId}{nm:Nm}{H:Heap}{slots:List TV}{a:Act}{w:World}{G:Gh}{v:TV}
theorem Fy {o:Oper}{t:TypeId}{pl pc:Operand}{l c:TV}{u:List (Nm×aO)}(hw:WF G w)(hn:¬G.dom nm)(ho:o.op=.makeSlice t pl pc)(hl:VR G l (a.eval pl))(hc:VR G c (a.eval pc))
 (h:yu C.P nm t l c=some (v,u)):cG C.P nm o a w G v u:=by
 unfold yu at h
 cases ht:bf C.P t<;>cases hli:fA l<;>cases hci:fA c<;>simp only[ht,hli,hci,reduceCtorEq] at h
 rename_i ti ln cn
 obtain⟨kl,hlv⟩:=qw hl hli
 obtain⟨kc,hcv⟩:=qw hc hci
 obtain⟨_,_,hu,_⟩:=bC ht
 split at h
 ·rename_i elem hd;rw[hd] at hu;have kj:=aL hu w;cases hte:bf C.P elem<;>simp only[hte,reduceCtorEq] at h;rename_i te;obtain⟨i,hi,_,_,hbytes,_⟩:=bC hte;have SG:=pW hi w;cases hz:te.zero<;>simp only[hz,reduceCtorEq] at h;rename_i z;split at h
  ·rename_i hg;obtain⟨h1,h2,h3,h4,h5,h6⟩:=hg;simp at h;obtain⟨rfl,rfl⟩:=h;obtain⟨zv,hz1,C7⟩:=eM hte hz w G;have hr:=De C7 (pX hte hz) cn te.size h5 h4;have hsz:zv.cells.size=te.size:=by have:=(C7.cells (pX hte hz)).1;simp at this;omega
   have hwrap:∀n:Nat,n<=eP->IntKind.i64.wrap (n:Int)=n:=by
    intro n hn;unfold eP at hn;exact Go.IntWalk.i64_in _ (by omega)
   have hcb:((cn:Int) * (te.bytes:Int):Int)<=70368744177664:=by
    have:((cn*te.bytes:Nat):Int)<=70368744177664:=by unfold eP at h2;omega
    simpa using this
   let cells:=((Array.range (cn*te.size)).map (zv.cells[· % zv.cells.size]!));have hrun:(execOp a.eval o).run C.P w=.ok (.value (.slice (some ⟨w.heap.size,0,none⟩) ln cn)) (World.ck w (.cells cells elem)):=by
    have hb:¬((te.bytes:Int) * (cn:Int)>281474976710656):=by rw[Int.mul_comm];omega
    have hroom:¬(cn*te.bytes>140737488355328):=by unfold eP at h2;omega
    have e1:IntKind.i64.wrap (ln:Int)=ln:=hwrap ln (by omega);have e2:IntKind.i64.wrap (cn:Int)=cn:=hwrap cn h3;have hb':¬(281474976710656<(i.bytes:Int) * (cn:Int)):=by rw[hbytes];exact hb
    have hc1:¬((cn:Int)<0):=by omega
    have cW:¬((ln:Int)<0):=by omega
    have iF:¬(cn<ln):=by omega
    have SJ:¬(cn*i.bytes>2 ^ 47):=by rw[hbytes];exact hroom
    simp only[execOp,ho,hlv,hcv,Instr.makeSlice];by_cases h0:cn*te.size=0
    ·have e:((Array.range (cn*te.size)).map λ_=>(default:Value))=cells:=by simp only[cells];rw[h0];simp
     simp[kj,asInt,asIntOf,SG,e1,e2,dR hte w,jh,askRoom,roomBytes,hb',hc1,cW,iF,SJ,h0];rw[← e,h0];rfl
    ·simp[kj,asInt,asIntOf,SG,e1,e2,dR hte w,jh,askRoom,roomBytes,hb',hc1,cW,iF,SJ,h0,hz1];rfl
   have yy:=zu (nm:=nm) (b:=te.agg) (cap:=cn) (cs:=r7 ln z.cells) hw hn h4 (vs:=cells.toList) (by
    have hlen:(r7 ln z.cells).length=ln*te.size:=by rw[fT,h5]
    refine⟨?_,λj x y hx hy=> ?_⟩
    ·have:=hr.1;rw[List.length_take,this,fT,fT,h5];have:ln*te.size<=cn*te.size:=Nat.mul_le_mul_right _ h1;omega
    ·have hjl:j<ln*te.size:=by have:=(List.getElem?_eq_some_iff.1 hx).1;omega
     have hjc:j<cn*te.size:=Nat.lt_of_lt_of_le hjl (Nat.mul_le_mul_right _ h1);rw[List.getElem?_take,if_pos (by omega)] at hy;refine hr.2 j x y ?_ hy;rw[Dd (by rw[h5];exact hjc),← Dd (n:=ln) (by rw[h5];exact hjl)];exact hx) (by have:=hr.1;rw[this,fT,h5]) (by
      have:=hr.1;rw[this,fT,fT];exact Nat.mul_le_mul_right _ h1) elem
   rw[Array.toArray_toList] at yy;refine cG.eR hrun (kS hw hn _ (some ((r7 ln z.cells).length,te.size,cn)) _) ?_ ?_
   ·intro k ob hm;simp at hm;obtain⟨rfl,rfl⟩:=hm;exact yy
   ·exact w9 (by rw[fT,h5]) hn
  ·simp at h
 ·simp at h
theorem SK {o:Oper}{args:Array Operand}{ats:Array TypeId}{dt xt:TypeId}{d x:TV}{u:List (Nm×aO)}(hw:WF G w)(hH:HR G w H)(ho:o.op=.call {callee:=.builtin .copy,args,argTypes:=ats})
 (hat:ats.toList=[dt,xt])(hargs:cB G [d,x] (args.map a.eval).toList)(h:Si C.P H dt d x=some (v,u)):cG C.P nm o a w G v u:=by
 have HD:ats= #[dt,xt]:=by rw[← Array.toArray_toList (xs:=ats),hat]
 obtain⟨dv,rest,Dj,hd',mY⟩:=hargs.fQ
 obtain⟨xv,SH,he2,hx,Dk⟩:=mY.fQ
 have hr2:SH=[]:=by have:=Dk.1;simpa using this
 subst hr2
 subst he2
 have R9:args.map a.eval= #[dv,xv]:=by rw[← Array.toArray_toList (xs:=args.map a.eval),Dj]
 have je:∀r w',(Builtin.copy_ #[dt,xt] o.type #[dv,xv]).run C.P w=.ok r w'->(execOp a.eval o).run C.P w=.ok (.value r) w':=λr w' hr=>by
  rw[← HD,← R9] at hr;simp[execOp,ho,resolve,invoke,builtin,hr]
 clear Dk mY Dj R9 hat
 unfold Si at h
 cases BL:bf C.P dt<;>simp only[BL,reduceCtorEq] at h
 rename_i ti
 obtain⟨_,_,hu,_⟩:=bC BL
 split at h
 ·rename_i elem hd;rw[hd] at hu;have kj:=aL hu w;cases hte:bf C.P elem<;>simp only[hte,reduceCtorEq] at h;rename_i te;have hsz:=dR hte w;split at h
  ·rename_i r hsrc;simp at h;obtain⟨rfl,rfl⟩:=h;obtain⟨m,cs⟩:=r;obtain⟨JF,hcl,hfc⟩:=tX (C:=C) hw hH hx hsrc;obtain⟨us,Cm,_⟩:=hfc 0 (by omega);cases hd';refine cG.quiet hw (je (.int .i64 0) w ?_) (.t _ _ (.int _ _));simp[Builtin.copy_,kj,JF,hsz,Cm,goInt]
  ·rename_i k off len m cs hsrc;split at h
   ·rename_i g e old hro;split at h<;>simp at h;rename_i hc;obtain⟨x5,hlf⟩:=hc;subst x5;obtain⟨rfl,rfl⟩:=h;obtain⟨JF,hcl,hfc⟩:=tX (C:=C) hw hH hx hsrc;obtain⟨us,Cm,Cn⟩:=hfc (min m len) (Nat.min_le_left _ _);obtain⟨hk,hpos,htip⟩:=lg hro;obtain⟨cap,vs,ty,fr,b,q5,har,J2,mX,aaZ,hlc,hv,hf,rfl,hcap,hb⟩:=tW hH hro hd';have hml:(off+len) *te.size=off*te.size+len*te.size:=Nat.add_mul _ _ _;have hmin:min m len*te.size<=len*te.size:=Nat.mul_le_mul_right _ (Nat.min_le_right _ _);have ve:min m len*te.size<=cs.length:=by rw[hcl];exact Nat.mul_le_mul_right _ (Nat.min_le_left _ _)
    have q6:us.toList.length=min m len*te.size:=by rw[Cn.1,List.length_take];omega
    have Qo:off*te.size+us.toList.length<=vs.toList.length:=by rw[q6];simp;omega
    have J4:=mh Cn (List.all_eq_true.2 λy hy=>List.all_eq_true.1 hlf y (List.mem_of_mem_take hy));have hst:=gI (P:=C.P) (b:=G.mu k) (o:=off*te.size) (ty:=ty) (fr:=fr) us.toList w 0 vs.toList J4 (by simpa using J2) (by simpa using mX.1) (by simpa using Qo);simp only[Nat.add_zero] at hst;have s1:=gq (vs:=over vs.toList (off*te.size) us.toList) hw q5 (Gh.fW har hpos) J2 (λq ⟨uu,hq⟩=>by rw[hf q (.inl rfl)] at hq;simp at hq);have hol:(over vs.toList (off*te.size) us.toList).length=vs.toList.length:=bK Qo;have hrun:(Builtin.copy_ #[dt,xt] o.type #[.slice b len (cap - off),xv]).run C.P w=.ok (.int .i64 ((min m len:Nat):Int)) (World.aS w (G.mu k) (over vs.toList (off*te.size) us.toList).toArray ty fr):=by
     have hmn:Nat.min m len=min m len:=rfl;have ag6:(Builtin.firstCells te.size (Nat.min m len) xv).run C.P w=.ok us w:=Cm;cases b with
     | none=>
       have h0:off=cap:=by
         rcases Nat.lt_or_ge off cap with h|h
         · have:=hb h;simp at this
         · omega
       have OH:len=0:=by omega
       subst OH
       have ko:us.toList=[]:=by apply List.length_eq_zero_iff.1;rw[q6];simp
       rw[ko,vP,Array.toArray_toList,l7 J2]
       have hf0:(Builtin.firstCells te.size 0 xv).run C.P w=.ok us w:=by simpa using Cm
       simp[Builtin.copy_,kj,JF,hsz,hf0,goInt]
     | some ad=>
       by_cases hlt:off<cap
       · have:=hb hlt
         simp at this
         subst this
         simp[Builtin.copy_,kj,JF,hsz,ag6,hst,goInt]
       · have OH:len=0:=by omega
         subst OH
         have ko:us.toList=[]:=by apply List.length_eq_zero_iff.1;rw[q6];simp
         have xT:us= #[]:=by rw[← Array.toArray_toList (xs:=us),ko]
         rw[ko,vP,Array.toArray_toList,l7 J2]
         have hf0:(Builtin.firstCells te.size 0 xv).run C.P w=.ok #[] w:=by rw[← xT];simpa using Cm
         simp[Builtin.copy_,kj,JF,hsz,hf0,storeCells,goInt]
    refine cG.eR (je _ _ hrun) (s1.mono (λx _ e=>by simp[e]) (λ_ e=>e.elim)) ?_ (.t _ _ (.int _ _));intro k' ob hm;simp at hm;obtain⟨rfl,rfl⟩:=hm;have htl:(cs.take (min m len*te.size)).length=min m len*te.size:=by rw[List.length_take];omega
    have HA:(cD old (off*te.size) (cs.take (min m len*te.size))).length=old.length:=k3 (by rw[htl];omega);refine⟨q5,hpos,cap,(over vs.toList (off*te.size) us.toList).toArray,ty,fr,by rw[HA];exact har,bH (hw.lt _ q5) _ _ _,⟨?_,mX.2⟩,by simpa [hol] using aaZ,by rw[HA,List.size_toArray,hol];simpa using hlc, ?_,λo _=>hf o (.inl rfl)⟩
    ·intro o ho';exact mX.1 o (by simp[hol] at ho';simpa using ho')
    ·rw[HA,List.toList_toArray,A0 (by rw[q6];omega) (by simpa using hlc)];exact hv.cD Cn
   ·simp at h
  ·simp at h
 ·simp at h
theorem J7 {z:List TV}{p:TV->Bool}(h:z.all p=true):∀n,(r7 n z).all p=true
 |0=>rfl
 |n+1=>by
  show(z++r7 n z).all p=true
  rw[List.all_append,h,J7 h n];rfl
theorem Qp {o:Oper}{args:Array Operand}{ats:Array TypeId}{dt:TypeId}{d:TV}{u:List (Nm×aO)}(hw:WF G w)(hH:HR G w H)(ho:o.op=.call {callee:=.builtin .clear,args,argTypes:=ats})
 (hat:ats.toList=[dt])(hargs:cB G [d] (args.map a.eval).toList)(h:yq C.P H dt d=some (v,u)):cG C.P nm o a w G v u:=by
 have HD:ats= #[dt]:=by rw[← Array.toArray_toList (xs:=ats),hat]
 obtain⟨dv,rest,Dj,hd',mY⟩:=hargs.fQ
 have hr2:rest=[]:=by have:=mY.1;simpa using this
 subst hr2
 have R9:args.map a.eval= #[dv]:=by rw[← Array.toArray_toList (xs:=args.map a.eval),Dj]
 have je:∀r w',(Builtin.clear_ #[dt] o.type #[dv]).run C.P w=.ok r w'->(execOp a.eval o).run C.P w=.ok (.value r) w':=λr w' hr=>by
  rw[← HD,← R9] at hr;simp[execOp,ho,resolve,invoke,builtin,hr]
 clear mY Dj R9 hat
 unfold yq at h
 cases BL:bf C.P dt<;>simp only[BL,reduceCtorEq] at h
 rename_i ti
 obtain⟨_,_,hu,_⟩:=bC BL
 split at h
 ·rename_i elem hd;rw[hd] at hu;have kj:=aL hu w;cases hte:bf C.P elem<;>simp only[hte,reduceCtorEq] at h;rename_i te;split at h
  ·rename_i z k off len hz;split at h
   ·rename_i g e old hro;split at h<;>simp at h;rename_i hc;obtain⟨x5,hzl,hlf⟩:=hc;subst x5;obtain⟨rfl,rfl⟩:=h;obtain⟨zv,hz1,C7⟩:=eM hte hz w G;obtain⟨hk,hpos,htip⟩:=lg hro;obtain⟨cap,vs,ty,fr,b,q5,har,J2,mX,aaZ,hlc,hv,hf,rfl,hcap,hb⟩:=tW hH hro hd';have hsz:zv.cells.size=te.size:=by have:=(C7.cells (pX hte hz)).1;simp at this;omega
    have hr:=De C7 (pX hte hz) len zv.cells.size (by rw[hzl,hsz]) (by omega);obtain⟨us,ko⟩:∃us,us=Builtin.zeroCells zv.cells len:=⟨_,rfl⟩;have Cn:cB G (r7 len z.cells) us.toList:=by rw[ko];unfold Builtin.zeroCells;exact hr
    have hml:(off+len) *te.size=off*te.size+len*te.size:=Nat.add_mul _ _ _;have hrl:(r7 len z.cells).length=len*te.size:=by rw[fT,hzl]
    have q6:us.toList.length=len*te.size:=by rw[Cn.1,hrl]
    have Qo:off*te.size+us.toList.length<=vs.toList.length:=by rw[q6];simp;omega
    have J4:=mh Cn (J7 hlf len);have hst:=gI (P:=C.P) (b:=G.mu k) (o:=off*te.size) (ty:=ty) (fr:=fr) us.toList w 0 vs.toList J4 (by simpa using J2) (by simpa using mX.1) (by simpa using Qo);simp only[Nat.add_zero] at hst;have s1:=gq (vs:=over vs.toList (off*te.size) us.toList) hw q5 (Gh.fW har hpos) J2 (λq ⟨uu,hq⟩=>by rw[hf q (.inl rfl)] at hq;simp at hq);have hol:(over vs.toList (off*te.size) us.toList).length=vs.toList.length:=bK Qo;have hzero:len=0->∀b':Option Addr,(Builtin.clear_ #[dt] o.type #[.slice b' len (cap - off)]).run C.P w=.ok (.tuple #[]) (World.aS w (G.mu k) (over vs.toList (off*te.size) us.toList).toArray ty fr):=λh0 b'=>by
     have ag7:us.toList=[]:=by apply List.length_eq_zero_iff.1;rw[q6,h0];simp
     rw[ag7,vP,Array.toArray_toList,l7 J2,h0];cases b'<;>simp[Builtin.clear_,kj]
    have hrun:(Builtin.clear_ #[dt] o.type #[.slice b len (cap - off)]).run C.P w=.ok (.tuple #[]) (World.aS w (G.mu k) (over vs.toList (off*te.size) us.toList).toArray ty fr):=by
     by_cases h0:len=0
     ·exact hzero h0 b
     ·have hlt:off<cap:=by omega
      have:=hb hlt;subst this;obtain⟨n,rfl⟩:∃n,len=n+1:=⟨len - 1,by omega⟩;rw[ko] at hst ⊢;simp[Builtin.clear_,kj,hz1,hst]
    refine cG.eR (je _ _ hrun) (s1.mono (λx _ e=>by simp[e]) (λ_ e=>e.elim)) ?_ (.t _ _ (.cv [] [] rfl (by simp)));intro k' ob hm;simp at hm;obtain⟨rfl,rfl⟩:=hm;have HA:(cD old (off*te.size) (r7 len z.cells)).length=old.length:=k3 (by rw[hrl];omega);refine⟨q5,hpos,cap,(over vs.toList (off*te.size) us.toList).toArray,ty,fr,by rw[HA];exact har,bH (hw.lt _ q5) _ _ _,⟨?_,mX.2⟩,by simpa [hol] using aaZ,by rw[HA,List.size_toArray,hol];simpa using hlc, ?_,λo _=>hf o (.inl rfl)⟩
    ·intro o ho';exact mX.1 o (by simp[hol] at ho';simpa using ho')
    ·rw[HA,List.toList_toArray,A0 (by rw[q6];omega) (by simpa using hlc)];exact hv.cD Cn
   ·simp at h
  ·simp at h
 ·simp at h
end
end Go.Abs
namespace Go.Abs
open Go
section
variable {C:cE}{f:FuncId}{nm:Nm}{H:Heap}{slots:List TV}{a:Act}{w:World}{G:Gh}{v:TV}
theorem HE:∀{cs:List TV} {bs:List UInt8} {us:List Value},bytesOf cs=some bs->cB G cs us->∃ns:List Int,us=ns.map (Value.int .u8)/\bs=ns.map λn=>UInt8.ofNat n.toNat:=by
 intro cs;induction cs with
 |nil=>intro bs us h hv;simp[bytesOf] at h;subst h;have:=hv.1;simp at this;subst this;exact⟨[],rfl,rfl⟩
 | cons c r ih=>
   intro bs us h hv
   obtain⟨u,us',rfl,h1,h2⟩:=hv.fQ
   unfold bytesOf at h
   split at h
   · rename_i heq;simp at heq
   · rename_i n r' heq
     simp at heq
     obtain⟨rfl,rfl⟩:=heq
     cases hb:bytesOf r with
     |none=>rw[hb] at h;simp at h
     | some bs'=>
       rw[hb] at h
       simp at h
       subst h
       obtain⟨ns,e1,e2⟩:=ih hb h2
       have:=h1.int
       subst this
       exact⟨n::ns,by simp[e1],by simp[e2]⟩
   · simp at h
theorem foldl_push (ns:List Int):∀(s:ByteArray),(ns.foldl (λ(r:ByteArray) (n:Int)=>r.push (UInt8.ofNat n.toNat)) s).data.toList=s.data.toList++ns.map λn=>UInt8.ofNat n.toNat:=by
 induction ns with
 |nil=>intro s;simp
 |cons n r ih=>
  intro s
  simp only[List.foldl_cons]
  rw[ih]
  simp[ByteArray.push]
abbrev SL (b:UInt8):Value:=Value.int .u8 (b.toNat:Int)
def bytesRow (s:List UInt8)(cap:Nat):List Value:=s.map SL++List.replicate (cap - s.length) (Value.int .u8 0)
theorem vg {s:List UInt8}{cap:Nat}(h:s.length<=cap):(bytesRow s cap).length=cap:=by
 unfold bytesRow;simp;omega
theorem HF (F:vI)(s:List UInt8):Cj F (s.map λb=>Tree.int .u8 (b.toNat:Int)) (s.map SL):=by
 refine⟨by simp,λj c u h1 h2=> ?_⟩;rw[List.getElem?_map] at h1 h2;cases hj:s[j]? with
 |none=>rw[hj] at h1;simp at h1
 |some b=>rw[hj] at h1 h2;simp at h1 h2;subst h1;subst h2;exact .int _ _
theorem zy (s:List UInt8)(elem:TypeId):
 ∃ cap,s.length<=cap/\(Conv.stringToBytes elem ⟨s.toArray⟩).run C.P w=.ok (.slice (some ⟨w.heap.size,0,none⟩) s.length cap)
  (World.ck w.drew (.cells (bytesRow s cap).toArray elem (cap,cap+1))):=by
 refine⟨(Question.appendCap s.length 0 elem).cut (w.tape w.drawn (Question.appendCap s.length 0 elem)), ?_, ?_⟩
 ·show s.length<=s.length+_;omega
 ·have hq:(Question.appendCap s.length 0 elem).forced=false:=rfl;have hsz:(ByteArray.mk s.toArray).size=s.length:=by show s.toArray.size=_;simp
  have hcap:s.length<=(Question.appendCap s.length 0 elem).cut (w.tape w.drawn (Question.appendCap s.length 0 elem)):=by
   show s.length<=s.length+_;omega
  generalize hc:(Question.appendCap s.length 0 elem).cut (w.tape w.drawn (Question.appendCap s.length 0 elem))=cap at hcap ⊢;simp only[Conv.stringToBytes,hsz,markStringish];simp only[Sem.run_bind];have h1:(choose (Question.appendCap s.length 0 elem)).run C.P w=.ok cap w.drew:=by
   rw[← hc];unfold choose;simp only[Sem.run,hq];rfl
  rw[h1];simp only[Result.andThen_ok,jh];have Dg:((ByteArray.mk s.toArray).data.map λb=>Value.int .u8 (b.toNat:Int))++Array.replicate (cap - s.length) (Value.int .u8 0)=(bytesRow s cap).toArray:=by
   simp[bytesRow]
  rw[Dg];have hvl:=vg hcap;generalize bytesRow s cap=vs at hvl ⊢;have hnew:({w.drew with heap:=w.drew.heap.push (.cells vs.toArray elem)}:World).heap[w.drew.heap.size]?=some (.cells vs.toArray elem):=iJ w.drew _;have aa0:({w.drew with heap:=w.drew.heap.push (.cells vs.toArray elem)}:World).shape? w.drew.heap.size=some (elem,vs.length):=by
   unfold World.shape?;rw[hnew];simp
  simp only[Sem.run_bind,shape,Sem.run,aa0,Result.andThen_ok];have hfr:({w.drew with heap:=w.drew.heap.push (.cells vs.toArray elem)}:World).freeze {block:=w.drew.heap.size,off:=vs.length} 1=World.ck w.drew (.cells vs.toArray elem (cap,cap+1)):=by
   unfold World.freeze World.ck;rw[if_neg (by omega)];congr 1;apply Array.ext_getElem?;intro i;rw[Array.getElem?_modify];by_cases e:w.drew.heap.size=i
   ·subst e;rw[if_pos rfl,hnew,Array.getElem?_push,if_pos rfl];simp[hvl]
   ·rw[if_neg e];show(w.drew.heap.push _)[i]?=_;rw[Array.getElem?_push,Array.getElem?_push];rw[if_neg (λh=>e h.symm),if_neg (λh=>e h.symm)]
  simp only[freeze,Sem.run,hfr];rfl
theorem J8 {o:Oper}{akb:Bool}{src dst:TypeId}{px:Operand}{p:TV}{u:List (Nm×aO)}(hw:WF G w)(hH:HR G w H)(hn:¬G.dom nm)(ho:o.op=.convert src dst px)(hp:VR G p (a.eval px))
 (h:sG C.P akb nm H src dst p=some (v,u)):cG C.P nm o a w G v u:=by
 have je:∀r w',(convert src dst (a.eval px)).run C.P w=.ok r w'->(execOp a.eval o).run C.P w=.ok (.value r) w':=by
  intro r w' hr;simp[execOp,ho,hr]
 unfold sG at h
 cases hs:bf C.P src<;>cases hd:bf C.P dst<;>simp only[hs,hd,reduceCtorEq] at h
 rename_i ts td
 obtain⟨_,_,ko,_⟩:=bC hs
 obtain⟨_,_,hud,_⟩:=bC hd
 split at h
 ·rename_i s h1 h2;simp at h;obtain⟨rfl,rfl⟩:=h;rw[h1] at ko;rw[h2] at hud;have hx:=hp.str;have us:=aL ko w;have ud:=aL hud w;refine cG.quiet hw (je (a.eval px) w ?_) hp;rw[hx];simp[convert,us,ud]
 ·rename_i e s h1 h2;rw[h1] at ko;rw[h2] at hud;have hx:=hp.str;have us:=aL ko w;have ud:=aL hud w;cases he:bf C.P e<;>simp only[he,reduceCtorEq] at h;rename_i te;obtain⟨_,_,hue,_⟩:=bC he;split at h
  ·rename_i hde;rw[hde] at hue;have ue:=aL hue w;obtain⟨cap,hcap,hrun⟩:=zy (C:=C) (w:=w) s e;have SN:(convert src dst (a.eval px)).run C.P w=.ok (.slice (some ⟨w.heap.size,0,none⟩) s.length cap) (World.ck w.drew (.cells (bytesRow s cap).toArray e (cap,cap+1))):=by
    rw[hx];simp[convert,us,ud,ue,hrun]
   have JZ:=HF G.F s;split at h
   ·simp at h;obtain⟨rfl,rfl⟩:=h;have hpre:(List.take (s.map λb=>TV.t (Tree.int .u8 (b.toNat:Int))).length (bytesRow s cap))=s.map SL:=by
     unfold bytesRow;rw[List.take_append_of_le_length (by simp),List.take_of_length_le (by simp)]
    have Qn:=vg hcap;have yy:=JX (nm:=nm) (b:=false) (bD:=1) (cap:=cap) (w:=w.drew) hw.drew hn (by omega) (cs:=s.map λb=>TV.t (Tree.int .u8 (b.toNat:Int))) (vs:=bytesRow s cap) (by rw[hpre];have:=JZ.JQ;simpa [List.map_map,Function.comp_def] using this) (by omega) (by simp;omega) e (cap,cap+1) (λo ho hh=>by rw[List.size_toArray,Qn] at ho;omega) (λh=>absurd rfl h);refine cG.eR (je _ _ SN) (((fH hw (λ_=>False) (λ_=>False)).trans (kS (w:=w.drew) hw.drew hn _ (some ((s.map λb=>TV.t (Tree.int .u8 (b.toNat:Int))).length,1,cap)) (λ_=>False))).mono (λ_ _ hh=>by simp at hh) (λ_ hh=>by simpa using hh)) ?_ ?_
    ·intro k ob hm;simp at hm;obtain⟨rfl,rfl⟩:=hm;simpa using yy
    ·exact w9 (w:=w.drew) (nm:=nm) (bD:=1) (cap:=cap) (len:=s.length) (by simp) hn
   ·simp at h;obtain⟨rfl,rfl⟩:=h;have hch:chunk false 1 s.length (s.map λb=>Tree.int .u8 (b.toNat:Int))=some (s.map λb=>Tree.int .u8 (b.toNat:Int)):=by
     clear hx hp hrun SN JZ hcap je;induction s with
     |nil=>rfl
     |cons b r ih=>simp[chunk,ih,Tree.leaf]
    have hr:=Mv (w:=w.drew) hw.drew JZ hch cap hcap (bytesRow s cap) (λj u hj=>by
     unfold bytesRow;rw[List.getElem?_append_left (by exact(List.getElem?_eq_some_iff.1 hj).1)];exact hj)
    refine cG.eR (je _ _ SN) (((fH hw (λ_=>False) (λ_=>False)).trans (row_step (w:=w.drew) hw.drew _ e (λ_=>False) (λ_=>False) (cap,cap+1))).mono (λ_ _ hh=>by simp at hh) (λ_ hh=>by simp at hh)) (λ_ _ hm=>by simp at hm) (.t _ _ hr)
  ·simp at h
 ·rename_i e h1 h2;rw[h1] at ko;rw[h2] at hud;have us:=aL ko w;have ud:=aL hud w;cases he:bf C.P e<;>simp only[he,reduceCtorEq] at h;rename_i te;obtain⟨_,_,hue,_⟩:=bC he;split at h
  ·rename_i m cs hde hsrc;rw[hde] at hue;have ue:=aL hue w;cases hb:bytesOf cs<;>simp only[hb,reduceCtorEq] at h;rename_i bs;obtain⟨JF,hcl,hfc⟩:=tX (C:=C) hw hH hp hsrc;obtain⟨us',Cm,Cn⟩:=hfc m (Nat.le_refl _);rw[List.take_of_length_le (by omega)] at Cn;obtain⟨ns,e1,e2⟩:=HE hb Cn;have XF:us'=(ns.map (Value.int .u8)).toArray:=by rw[← Array.toArray_toList (xs:=us'),e1]
   split at h
   ·simp at h
   ·rename_i adC;simp at h;obtain⟨rfl,rfl⟩:=h;have yA:∃b l c,a.eval px=.slice b l c:=by
     unfold eO at hsrc;split at hsrc
     ·generalize a.eval px=xv at hp;cases hp;exact⟨_,_,_,rfl⟩
     ·have:=hp.tree;generalize a.eval px=xv at this;cases this<;>exact⟨_,_,_,rfl⟩
     ·generalize a.eval px=xv at hp;cases hp;exact⟨_,_,_,rfl⟩
     ·rename_i k off len;split at hsrc
      ·rename_i hro;obtain⟨cap,vs,ty,fr,b,_,_,_,_,_,_,_,_,hx,_,_⟩:=tW hH hro hp;exact⟨_,_,_,hx⟩
      ·simp at hsrc
     ·exact absurd rfl (adC _)
     ·simp at hsrc
    obtain⟨b,l,c,hx⟩:=yA;rw[hx] at JF Cm;have hlm:l=m:=by simp[Builtin.lenOf] at JF;exact JF
    subst hlm;have hout:(Conv.bytesToString (.slice b l c)).run C.P w=.ok (.string ⟨bs.toArray⟩) w:=by
     cases b with
     | none=>
       simp[Builtin.firstCells] at Cm
       subst Cm
       have:ns=[]:=by
         have:=congrArg Array.size XF
         simp at this
         exact List.length_eq_zero_iff.1 this.symm
       subst this
       subst e2
       rfl
     | some ad=>
       simp only[Builtin.firstCells,Nat.mul_one] at Cm
       rw[XF] at Cm
       rw[run_bytesToString w ad l c ns Cm]
       congr 2
       apply Go.WideShapes.bytes_inj
       rw[foldl_push,e2]
       simp
    refine cG.quiet hw (je _ w ?_) (.t _ _ (.str bs));rw[hx,run_convert_bytes_string w src dst e b l c ko hue hud];exact hout
  ·simp at h
 ·rename_i k1 k2 k n h1 h2;cases hr:cQ C.P (convert src dst (.int k n))<;>simp[hr] at h;rename_i r;obtain⟨v',h3,rfl,rfl⟩:=h;have hx:=hp.int;refine cG.quiet hw (je r w ?_) (vM h3);rw[hx];exact oc hr w
 ·simp at h
theorem pY {o:Oper}{b:Builtin}{args:Array Operand}{ats:Array TypeId}{w':World}{r:Value}(ho:o.op=.call {callee:=.builtin b,args,argTypes:=ats})
 (h:∀cs,(builtin b ats o.type cs (args.map a.eval)).run C.P w=.ok (.value r) w'):(execOp a.eval o).run C.P w=.ok (.value r) w':=by
 simp only[execOp,ho,resolve]
 simp[invoke,h]
theorem BM {k:IntKind}{g:Int->Int->Int}{s:Value->Value->Sem Value}(hg:∀x y k',s (.int k x) (.int k' y)=pure (.int k (g x y))):∀(ys:List Int) (x:Int),((ys.map (Value.int k)).foldlM s (.int k x)).run C.P w=.ok (.int k (ys.foldl g x)) w:=by
 intro ys;induction ys with
 |nil=>intro x;rfl
 |cons y r ih=>intro x;simp only[List.map_cons,List.foldlM_cons,hg,pure_bind,List.foldl_cons];exact ih _
theorem Co {k:IntKind}:∀{xs:List TV} {ys:List Int} {vs:List Value},kY.k9 k xs=some ys->cB G xs vs->vs=ys.map (Value.int k):=by
 intro xs;induction xs with
 |nil=>intro ys vs h hv;simp[kY.k9] at h;subst h;have:=hv.1;simpa using this
 | cons x r ih=>
   intro ys vs h hv
   obtain⟨u,us,rfl,h1,h2⟩:=hv.fQ
   unfold kY.k9 at h
   split at h
   · rename_i heq;simp at heq
   · rename_i k' y r' heq
     simp at heq
     obtain⟨rfl,rfl⟩:=heq
     cases hm:kY.k9 k r with
     |none=>rw[hm] at h;simp at h
     | some zs=>
       rw[hm] at h
       simp at h
       obtain⟨rfl,rfl⟩:=h
       rw[ih hm h2,h1.int];rfl
   · simp at h
theorem BN {mx:Bool}{args:List TV}{vs:Array Value}{ats:Array TypeId}{t:TypeId}(hv:cB G args vs.toList)(h:kY mx args=some v)(w:World):
 ∃r,(if mx then Builtin.max_ ats t vs else Builtin.min_ ats t vs).run C.P w=.ok r w/\VR G v r:=by
 unfold kY at h
 split at h
 ·rename_i k x r;cases hm:kY.k9 k r<;>simp[hm] at h;rename_i ys;subst h;obtain⟨u,us,he,h1,h2⟩:=hv.fQ;have e1:=h1.int;have e2:=Co hm h2;refine⟨_, ?_,.t _ _ (.int _ _)⟩;cases mx
  ·simp only[Bool.false_eq_true,if_false,Builtin.min_,he,e1,e2];rw[BM (g:=λx y=>if y<x then y else x) (λx y k'=>rfl)]
  ·simp only[if_true,Builtin.max_,he,e1,e2];rw[BM (g:=λx y=>if y>x then y else x) (λx y k'=>rfl)]
 ·simp at h
end
end Go.Abs
namespace Go.Abs
open Go
section
variable {C:cE}{f:FuncId}{nm:Nm}{H:Heap}{slots:List TV}{a:Act}{w:World}{G:Gh}{v:TV}
def FR (G:Gh)(es:List (TV×TV×Nat))(bG:List MapEntry)(u:Value)(i:Nat):Option (Nat×TV×Nat)->Option (Nat×Value)->Prop
 |none,none=>True
 |some (j,v,b),some (j',x)=>j=j'/\∃m e k',j=i+m/\bG[m]?=some e/\es[m]?=some (k',v,b)/\x=e.val/\VR G v e.val/\e.born=b/\Instr.sameBits 10000 e.key u=true
 |_,_=>False
theorem FR.succ {es:List (TV×TV×Nat)}{bG:List MapEntry}{u:Value}{i:Nat}{p:TV×TV×Nat}{e:MapEntry}{r:Option (Nat×TV×Nat)}{r':Option (Nat×Value)}(h:FR G es bG u (i+1) r r'):FR G (p::es) (e::bG) u i r r':=by
 cases r<;>cases r'<;>try exact h
 rename_i x y;obtain⟨j,v,b⟩:=x;obtain⟨j',z⟩:=y;obtain⟨h1,m,e',k',h2,h3,h4,h5⟩:=h;exact⟨h1,m+1,e',k',by omega,by simpa using h3,by simpa using h4,h5⟩
theorem tY {kt:TypeId}{d:TypeDesc}{k k':TV}{u u':Value}{b:Bool}(hk:jT k=some u)(hk':VR G k' u')(h:JL C.P kt d k k'=some b):
 (∀fs,d≠ .struct fs)/\Instr.sameNow d u u'=some b\/(∃fs,d=.struct fs)/\(∀w,(Op.equal kt u u').run C.P w=.ok b w)/\∃x,u=.agg x:=by
 unfold JL at h
 rw[hk] at h
 cases h2:jT k'<;>simp only[h2,reduceCtorEq] at h
 have:=lY h2 hk'
 subst this
 split at h
 ·rename_i fs;split at h
  ·exact .inr ⟨⟨_,rfl⟩,λw=>oc h w,_,rfl⟩
  ·simp at h
 ·rename_i XF;exact .inl ⟨λfs e=>XF fs e,h⟩
theorem Qq {kt:TypeId}{d:TypeDesc}{k:TV}{u:Value}(hk:jT k=some u)(hd:∀fs,d≠ .struct fs):∀{es:List (TV×TV×Nat)} {bG:List MapEntry} {i:Nat} {r:Option (Nat×TV×Nat)},MR G es bG->lS C.P kt d k es i=some r->
 ∃r',Instr.findNow d u bG i=some r'/\FR G es bG u i r r':=by
 intro es
 induction es with
 | nil=>
   intro bG i r hm h
   cases bG with
   |nil=>simp[lS] at h;subst h;exact⟨none,rfl,trivial⟩
   |cons=>simp[MR] at hm
 | cons p rs ih=>
   intro bG i r hm h
   obtain⟨k',v,b⟩:=p
   cases bG with
   |nil=>simp[MR] at hm
   | cons e es'=>
     simp only[MR] at hm
     obtain⟨h1,h2,h3,h4⟩:=hm
     simp only[lS] at h
     split at h
     · rename_i hq
       rcases tY hk h1 hq with ⟨_,hs⟩|⟨⟨fs,e⟩,_⟩
       · rw[hk] at h
         cases h5:jT k'<;>simp only[h5,reduceCtorEq] at h
         have:=lY h5 h1
         subst this
         split at h<;>simp at h
         rename_i hsb
         subst h
         refine⟨some (i,e.val),by simp[Instr.findNow,hs],rfl,0,e,k',rfl,rfl,rfl,rfl,h2,h3,hsb⟩
       · exact absurd e (hd fs)
     · rename_i hq
       rcases tY hk h1 hq with ⟨_,hs⟩|⟨⟨fs,e⟩,_⟩
       · obtain⟨r',h6,h7⟩:=ih h4 h
         exact⟨r',by simp[Instr.findNow,hs,h6],h7.succ⟩
       · exact absurd e (hd fs)
     · simp at h
theorem Qr {kt:TypeId}{fs:Array Field}{k:TV}{u:Value}(hk:jT k=some u)(w:World):∀{es:List (TV×TV×Nat)} {bG:List MapEntry} {i:Nat} {r:Option (Nat×TV×Nat)},MR G es bG->lS C.P kt (.struct fs) k es i=some r->
 ∃r',(Instr.findAsking kt u bG i).run C.P w=.ok r' w/\FR G es bG u i r r':=by
 intro es
 induction es with
 | nil=>
   intro bG i r hm h
   cases bG with
   |nil=>simp[lS] at h;subst h;exact⟨none,rfl,trivial⟩
   |cons=>simp[MR] at hm
 | cons p rs ih=>
   intro bG i r hm h
   obtain⟨k',v,b⟩:=p
   cases bG with
   |nil=>simp[MR] at hm
   | cons e es'=>
     simp only[MR] at hm
     obtain⟨h1,h2,h3,h4⟩:=hm
     simp only[lS] at h
     split at h
     · rename_i hq
       rcases tY hk h1 hq with ⟨hn,_⟩|⟨_,hs,_⟩
       · exact absurd rfl (hn fs)
       · rw[hk] at h
         cases h5:jT k'<;>simp only[h5,reduceCtorEq] at h
         have:=lY h5 h1
         subst this
         split at h<;>simp at h
         rename_i hsb
         subst h
         refine⟨some (i,e.val),by simp[Instr.findAsking,hs],rfl,0,e,k',rfl,rfl,rfl,rfl,h2,h3,hsb⟩
     · rename_i hq
       rcases tY hk h1 hq with ⟨hn,_⟩|⟨_,hs,_⟩
       · exact absurd rfl (hn fs)
       · obtain⟨r',h6,h7⟩:=ih h4 h
         exact⟨r',by simp[Instr.findAsking,hs,h6],h7.succ⟩
     · simp at h
theorem sJ {kt:TypeId}{tk:TI}{k:TV}{u:Value}(ht:bf C.P kt=some tk)(hk:jT k=some u){es:List (TV×TV×Nat)}{bG:List MapEntry}{r:Option (Nat×TV×Nat)}(hm:MR G es bG)(h:lS C.P kt tk.desc k es 0=some r)(w:World):
 ∃r',(Instr.findKey kt u bG).run C.P w=.ok r' w/\FR G es bG u 0 r r':=by
 obtain⟨_,_,hu,_⟩:=bC ht
 have kj:=aL hu w
 by_cases hd:∃fs,tk.desc=.struct fs
 ·obtain⟨fs,hd⟩:=hd;rw[hd] at h kj;cases bG with
  | nil=>
    cases es with
    |nil=>simp[lS] at h;subst h;exact⟨none,by simp[Instr.findKey,kj,Instr.findNow],trivial⟩
    |cons=>simp[MR] at hm
  | cons e es'=>
    obtain⟨r',h1,h2⟩:=Qr hk w hm h
    refine⟨r', ?_,h2⟩
    have hnone:Instr.findNow (.struct fs) u (e::es') 0=none:=by
      simp[Instr.findNow,Instr.sameNow]
    simp[Instr.findKey,kj,hnone,h1]
 ·have hd':∀fs,tk.desc≠ .struct fs:=λfs e=>hd ⟨fs,e⟩
  obtain⟨r',h1,h2⟩:=Qq hk hd' hm h;exact⟨r',by simp[Instr.findKey,kj,h1],h2⟩
theorem A5 {empty:Bool}{kt:TypeId}{k:TV}(h:vJ C.P empty kt k=true)(w:World):∃u,jT k=some u/\(Instr.checkKey empty 10000 kt u).run C.P w=.ok () w:=by
 unfold vJ at h;split at h
 ·rename_i u hu;obtain⟨x,hx⟩:=Option.isSome_iff_exists.1 h;exact⟨u,hu,oc hx w⟩
 ·simp at h
theorem MR.length {es:List (TV×TV×Nat)}{bG:List MapEntry}(h:MR G es bG):es.length=bG.length:=by
 induction es generalizing bG with
 |nil=>cases bG<;>simp_all [MR]
 |cons p r ih=>cases bG<;>simp[MR] at h ⊢;exact ih h.2.2.2
theorem j3 {r:Nat}{bG:Array MapEntry}{c:Nat}(h:w.heap[r]?=some (.map bG c)):(getObj r).run C.P w=.ok (.map bG c) w:=by
 simp[getObj,Sem.run,h]
theorem qy {r:Nat}{bG:Array MapEntry}{c:Nat}(h:w.heap[r]?=some (.map bG c))(o:Obj):(setObj r o).run C.P w=.ok () {w with heap:=w.heap.setIfInBounds r o}:=by
 simp[setObj,Sem.run,h]
theorem J9 {t:TypeId}{x k:TV}{xv kv:Value}{ok:Bool}(hH:HR G w H)(hx:VR G x xv)(hk:VR G k kv)(h:tT C.P H t x k ok=some v):∃r,(Instr.lookup t xv kv ok).run C.P w=.ok r w/\VR G v r:=by
 unfold tT at h;cases ht:bf C.P t<;>simp only[ht,reduceCtorEq] at h;rename_i ti;obtain⟨_,_,hu,_⟩:=bC ht;split at h
 ·rename_i kt et hd;rw[hd] at hu;have kj:=aL hu w;split at h
  ·rename_i tk te es c OJ hte x5;split at h
   ·rename_i hko;have SP:∀bG:Array MapEntry,MR G es bG.toList->es.isEmpty=bG.isEmpty:=by
     intro bG hmr;have hl:=hmr.length;simp only[Array.length_toList] at hl;rw[Array.isEmpty,← hl];cases es<;>simp
    obtain⟨u,Xi,hck⟩:=A5 hko w;have:=lY Xi hk;subst this;have core:∀bG:Array MapEntry,MR G es bG.toList->∃r,VR G v r/\(Instr.checkKey bG.isEmpty 10000 kt kv).run C.P w=.ok () w/\
     ((∃j e,(Instr.findKey kt kv bG.toList).run C.P w=.ok (some (j,e)) w/\r=if ok then .tuple #[e,.bool true] else e)\/
      (∃z,(Instr.findKey kt kv bG.toList).run C.P w=.ok none w/\(zeroValue et).run C.P w=.ok z w/\r=if ok then .tuple #[z,.bool false] else z)):=by
     intro bG hmr
     split at h
     ·rename_i j v' b hf;obtain⟨r',Gj,hr2⟩:=sJ OJ Xi hmr hf w;cases r' with
      |none=>exact absurd hr2 id
      |some y=>
      obtain⟨j',y⟩:=y;obtain⟨rfl,m,e,k',_,_,_,rfl,hve,_,_⟩:=hr2;simp at h;subst h;refine⟨if ok then .tuple #[e.val,.bool true] else e.val, ?_,by rw[← SP bG hmr];exact hck,.inl ⟨j,e.val,Gj,rfl⟩⟩;cases ok
      ·exact hve
      ·exact lX (cB.cons hve (cB.one (.t _ _ (.bool true))))
     ·rename_i z hf hz;obtain⟨r',Gj,hr2⟩:=sJ OJ Xi hmr hf w;cases r' with
      |some y=>exact absurd hr2 id
      |none=>
      obtain⟨zv,hz1,C7⟩:=eM hte hz w G;simp at h;subst h;refine⟨if ok then .tuple #[zv,.bool false] else zv, ?_,by rw[← SP bG hmr];exact hck,.inr ⟨zv,Gj,hz1,rfl⟩⟩;cases ok
      ·exact C7
      ·exact lX (cB.cons C7 (cB.one (.t _ _ (.bool false))))
     ·simp at h
    split at x5
    ·simp at x5;obtain⟨rfl,_⟩:=x5;cases hx with|t _ _ hx=>
     cases hx;obtain⟨r,hr,Qs,SQ⟩:=core #[] trivial;refine⟨r, ?_,hr⟩;simp at Qs;rcases SQ with ⟨j,e,hf,rfl⟩|⟨z,hf,hz,rfl⟩
     ·simp at hf;cases ok<;>simp[Instr.lookup,kj,Qs,hf]
     ·simp at hf;cases ok<;>simp[Instr.lookup,kj,Qs,hf,hz]
    ·unfold mapOf at x5;split at x5
     ·rename_i m hnn;split at x5<;>simp at x5;rename_i es' c' hm;obtain⟨rfl,_⟩:=x5;obtain⟨hd',har,bG,hh,hmr,_⟩:=hH _ _ hm;cases hx with|map _ _ _=>
      obtain⟨r,hr,Qs,SQ⟩:=core bG hmr;refine⟨r, ?_,hr⟩;rcases SQ with ⟨j,e,hf,rfl⟩|⟨z,hf,hz,rfl⟩
      ·cases ok<;>simp[Instr.lookup,kj,j3 hh,Qs,hf]
      ·cases ok<;>simp[Instr.lookup,kj,j3 hh,Qs,hf,hz]
     ·simp at x5
   ·simp at h
  ·simp at h
 ·simp at h
theorem zz (hw:WF G w){k:Nm}(hd:G.dom k)(ak:G.alive k){bG:Array MapEntry}{c:Nat}(hh:w.heap[G.mu k]?=some (.map bG c))(hF:∀o,G.F (G.mu k) o=none)(o:Obj):
 Step (λx=>x=k) (λ_=>False) G w G {w with heap:=w.heap.setIfInBounds (G.mu k) o}:=by
 refine⟨.refl G,⟨λb p u h=> ?_,hw.inj,λx d=>by simpa using hw.lt x d⟩,λ_ _ _=>⟨rfl,rfl⟩,λb hb hn=>⟨?_,λ_=>rfl⟩,λ_ d=>.inl d,λk d=>.inl ⟨k,d,rfl,.inl rfl⟩,by simp,rfl,rfl,rfl⟩
 ·obtain⟨us,ty,fr,h1,h2⟩:=hw.F b p u h;have hne:G.mu k≠b:=by intro e;subst e;rw[hF] at h;simp at h
  exact⟨us,ty,fr,by show(w.heap.setIfInBounds _ _)[b]?=_;rw[Array.getElem?_setIfInBounds,if_neg hne];exact h1,h2⟩
 ·show(w.heap.setIfInBounds _ _)[b]?=_;rw[Array.getElem?_setIfInBounds,if_neg (hn k rfl hd ak)]
theorem MR.push:∀{es:List (TV×TV×Nat)} {bG:List MapEntry} {k x:TV} {kv xv:Value} {c:Nat},MR G es bG->VR G k kv->VR G x xv->MR G (es++[(k,x,c)]) (bG++[{key:=kv,val:=xv,born:=c}]):=by
 intro es;induction es with
 |nil=>intro bG k x kv xv c h h1 h2;cases bG<;>simp_all [MR]
 |cons p r ih=>
  intro bG k x kv xv c h h1 h2
  obtain⟨k',v',b'⟩:=p
  cases bG with
  |nil=>simp[MR] at h
  |cons e es'=>simp only[MR,List.cons_append] at h ⊢;exact⟨h.1,h.2.1,h.2.2.1,ih h.2.2.2 h1 h2⟩
theorem MR.set:∀{es:List (TV×TV×Nat)} {bG:List MapEntry} {m:Nat} {k x k' v':TV} {b:Nat} {e:MapEntry} {kv xv:Value},MR G es bG->es[m]?=some (k',v',b)->bG[m]?=some e->VR G k kv->VR G x xv->
 MR G (es.set m (k,x,b)) (bG.set m {e with key:=kv,val:=xv}):=by
 intro es
 induction es with
 |nil=>intro bG m k x k' v' b e kv xv h h1;simp at h1
 | cons p r ih=>
  intro bG m k x k' v' b e kv xv h h1 h2 h3 h4
  obtain⟨k0,v0,b0⟩:=p
  cases bG with
  |nil=>simp[MR] at h
  | cons e0 es'=>
   simp only[MR] at h
   cases m with
   |zero=>
    simp at h1 h2
    obtain⟨rfl,rfl,rfl⟩:=h1
    subst h2
    simp only[List.set_cons_zero,MR]
    exact⟨h3,h4,h.2.2.1,h.2.2.2⟩
   |succ m=>
    simp only[List.set_cons_succ,MR]
    exact⟨h.1,h.2.1,h.2.2.1,ih h.2.2.2 (by simpa using h1) (by simpa using h2) h3 h4⟩
theorem yB {bG:Array MapEntry}{m:Nat}{e:MapEntry}(f:MapEntry->MapEntry)(h:bG[m]?=some e):(bG.modify m f).toList=bG.toList.set m (f e):=by
 apply List.ext_getElem?;intro i;rw[Array.getElem?_toList,Array.getElem?_modify,List.getElem?_set];have hm:m<bG.size:=(Array.getElem?_eq_some_iff.1 h).1;by_cases c:m=i
 ·subst c;rw[if_pos rfl,if_pos rfl,h];simp[hm]
 ·rw[if_neg c,if_neg c];simp
theorem HG {k:Nm}(hw:WF G w)(hd:G.dom k)(har:G.arr k=none)(hF:∀o,G.F (G.mu k) o=none){es:List (TV×TV×Nat)}{bG:Array MapEntry}{c:Nat}(h:MR G es bG.toList):
 OR G {w with heap:=w.heap.setIfInBounds (G.mu k) (.map bG c)} k (.map es c):=by
 refine⟨har,bG, ?_,h,hF⟩
 have:=hw.lt k hd
 simp[this]
def XG (k x:TV)(es:List (TV×TV×Nat))(c:Nat):Option (Nat×TV×Nat)->List (TV×TV×Nat)
 |some (i,_,b)=>es.set i (k,x,b)
 |none=>es++[(k,x,c)]
def aa1 (c:Nat):Option (Nat×TV×Nat)->Nat
 |some _=>c
 |none=>c+1
theorem Fz {t kt et:TypeId}{ti tk:TI}{k x:TV}{m:Nm}{kv xv:Value}{es:List (TV×TV×Nat)}{c:Nat}{r:Option (Nat×TV×Nat)}(hw:WF G w)(hH:HR G w H)(ht:bf C.P t=some ti)(hd:ti.desc=.map kt et)(hm:H.get m=some (.map es c))
 (OJ:bf C.P kt=some tk)(hko:vJ C.P false kt k=true)(hk:VR G k kv)(hx:VR G x xv)(hf:lS C.P kt tk.desc k es 0=some r):
 ∃ Ka:Array MapEntry,∃c',(Instr.mapUpdate t (.map (some (G.mu m))) kv xv).run C.P w=.ok () {w with heap:=w.heap.setIfInBounds (G.mu m) (.map Ka c')}/\
  MR G (XG k x es c r) Ka.toList/\c'=aa1 c r:=by
 obtain⟨_,_,hu,_⟩:=bC ht
 rw[hd] at hu
 have kj:=aL hu w
 obtain⟨q5,har,bG,hh,hmr,hF⟩:=hH m _ hm
 obtain⟨u,Xi,hck⟩:=A5 hko w
 have:=lY Xi hk
 subst this
 obtain⟨r',Gj,hr2⟩:=sJ OJ Xi hmr hf w
 cases r with
 | none=>
   cases r' with
   |some _=>exact absurd hr2 id
   |none=>
   refine⟨bG.push {key:=kv,val:=xv,born:=c},c+1, ?_,by simpa [XG] using hmr.push hk hx,rfl⟩
   simp[Instr.mapUpdate,kj,j3 hh,hck,Gj,qy hh]
 | some y=>
   obtain⟨i,v0,b⟩:=y
   cases r' with
   |none=>exact absurd hr2 id
   |some y'=>
   obtain⟨i',x0⟩:=y'
   obtain⟨rfl,p,e,k',hip,he,x5,rfl,_,hb,hsb⟩:=hr2
   have aa2:i=p:=by omega
   subst aa2
   have he':bG[i]?=some e:=by simpa using he
   refine⟨bG.modify i λe=>{e with key:=kv,val:=xv},c, ?_, ?_,rfl⟩
   · have hkey:(((bG[i]?).map (·.key)).getD kv)=e.key:=by rw[he'];rfl
     have SS:(Instr.keyThatStays e.key kv).run C.P w=.ok kv w:=by simp[Instr.keyThatStays,hsb]
     simp only[Instr.mapUpdate,Sem.run_bind,kj,Result.andThen_ok,j3 hh,hck,Gj]
     rw[hkey,SS]
     simp[qy hh]
   · rw[yB _ he']
     exact hmr.set x5 he hk hx
end
end Go.Abs
