/- The operations are right: new objects, stores, literals. -/
import Derived.Test.YtnfnihgmankidaaGreatDoorA
import Derived.Lib.Strings
set_option linter.unusedVariables false
set_option linter.unusedSimpArgs false
namespace Go.Abs
open Go
section
variable {C:cE}{f:FuncId}{nm:Nm}{H:Heap}{slots:List TV}{a:Act}{w:World}{G:Gh}{v:TV}
def Gh.add (G:Gh)(nm:Nm)(b:Nat)(ar:Option (Nat×Nat×Nat)):Gh:={
 F:=G.F
 mu:=λk=>if k=nm then b else G.mu k
 arr:=λk=>if k=nm then ar else G.arr k
 dom:=λk=>k=nm\/G.dom k}
def World.cN (w:World)(o:Obj):World:={w with heap:=w.heap.push o}
theorem jK (w:World)(o:Obj):(World.cN w o).heap[w.heap.size]?=some o:=by show(w.heap.push o)[w.heap.size]?=_;simp
theorem kT {w:World}{o:Obj}{b:Nat}(h:b<w.heap.size):(World.cN w o).heap[b]?=w.heap[b]?:=by
 show(w.heap.push o)[b]?=_;rw[Array.getElem?_push,if_neg (by omega)]
theorem WF.acX (hw:WF G w){b o:Nat}{u:Value}(h:G.F b o=some u):b<w.heap.size:=by
 obtain⟨vs,ty,fr,h1,_⟩:=hw.F b o u h;exact(Array.getElem?_eq_some_iff.1 h1).1
theorem WF.JD (hw:WF G w)(o:Nat):G.F w.heap.size o=none:=by
 cases h:G.F w.heap.size o with
 |none=>rfl
 |some u=>have:=hw.acX h;omega
theorem CQ (hn:¬G.dom nm)(b:Nat)(ar:Option (Nat×Nat×Nat)):G.le (G.add nm b ar):=by
 have hne:∀k,G.dom k->k≠nm:=λk d e=>hn (e▸d)
 refine⟨λ_ _ _ h=>h,λk d=>.inr d,λk d a=> ?_,λk n e c d a=>⟨n,e,c, ?_,Nat.le_refl _,λ_=>⟨rfl,rfl, ?_⟩,.inl rfl⟩⟩
 ·simp[Gh.add,hne k d,a]
 ·simp[Gh.add,hne k d,a]
 ·simp[Gh.add,hne k d]
theorem ko (hw:WF G w)(hn:¬G.dom nm)(o:Obj)(ar:Option (Nat×Nat×Nat))(W:Nm->Prop):Step W (λk=>k=nm) G w (G.add nm w.heap.size ar) (World.cN w o):=by
 have hne:∀k,G.dom k->k≠nm:=λk d e=>hn (e▸d)
 refine⟨CQ hn _ _,⟨λb p u h=> ?_,λk k' d d' a a' e=> ?_,λk d=> ?_⟩,λk d _=>by simp[Gh.add,hne k d],λb hb _=>⟨kT hb,λ_=>rfl⟩,λk d=>d.symm.imp id id,λk d=> ?_,by simp[World.cN],rfl,rfl,rfl⟩
 ·obtain⟨vs,ty,fr,h1,h2⟩:=hw.F b p u h;exact⟨vs,ty,fr,by rw[kT (Array.getElem?_eq_some_iff.1 h1).1];exact h1,h2⟩
 ·simp only[Gh.add] at e d d';rcases d with rfl|d<;>rcases d' with rfl|d'
  ·rfl
  ·rw[if_pos rfl,if_neg (hne _ d')] at e;have:=hw.lt _ d';omega
  ·rw[if_neg (hne _ d),if_pos rfl] at e;have:=hw.lt _ d;omega
  ·rw[if_neg (hne _ d),if_neg (hne _ d')] at e;exact hw.inj _ _ d d' ((CQ hn _ _).alive d a) ((CQ hn _ _).alive d' a') e
 ·simp only[Gh.add,World.cN,Array.size_push] at d ⊢;rcases d with rfl|d
  ·simp
  ·rw[if_neg (hne _ d)];have:=hw.lt _ d;omega
 ·rcases d with rfl|d
  ·exact .inr (by simp[Gh.add])
  ·exact .inl ⟨_,d,by simp[Gh.add,hne _ d],.inl rfl⟩
theorem Ao (hw:WF G w)(hn:¬G.dom nm){cs:List TV}{vs:List Value}(hv:cv G cs vs)(ty:TypeId):
 (G.add nm w.heap.size none).dom nm/\OR (G.add nm w.heap.size none) (World.cN w (.cells vs.toArray ty)) nm (.cells ty cs):=by
 refine⟨.inl rfl,by simp[Gh.add],vs.toArray,ty,(0,0), ?_,⟨?_,rfl⟩, ?_, ?_⟩
 ·simp[Gh.add,jK]
 ·intro o _ h;omega
 ·simpa using hv.mono (CQ hn _ _)
 ·intro o;simpa [Gh.add] using hw.JD o
theorem JE (hw:WF G w)(hn:¬G.dom nm){b:Bool}{bx cap:Nat}{cs:List TV}{vs:List Value}(he:0<bx)(hv:cv G cs (vs.take cs.length))(hs:vs.length=cap*bx)(hl:cs.length<=vs.length)(ty:TypeId)(fr:Nat×Nat)(hfr:pN vs.toArray fr)(hun:CK bx fr):
 (G.add nm w.heap.size (some (cs.length,bx,cap))).dom nm/\OR (G.add nm w.heap.size (some (cs.length,bx,cap))) (World.cN w (.cells vs.toArray ty fr)) nm (.arr (ty,b) bx false cs):=by
 refine⟨.inl rfl,he,cap,vs.toArray,ty,fr,by simp[Gh.add], ?_,⟨hfr,rfl,hun⟩,by simpa using hs,by simpa using hl, ?_, ?_⟩
 ·simp[Gh.add,jK]
 ·simpa using hv.mono (CQ hn _ _)
 ·intro o _;simpa [Gh.add] using hw.JD o
theorem yL (hw:WF G w)(hn:¬G.dom nm){b:Bool}{bx cap:Nat}{cs:List TV}{vs:List Value}(he:0<bx)(hv:cv G cs (vs.take cs.length))(hs:vs.length=cap*bx)(hl:cs.length<=vs.length)(ty:TypeId):
 (G.add nm w.heap.size (some (cs.length,bx,cap))).dom nm/\OR (G.add nm w.heap.size (some (cs.length,bx,cap))) (World.cN w (.cells vs.toArray ty)) nm (.arr (ty,b) bx false cs):=
 JE hw hn he hv hs hl ty (0,0) (λo _ h=>by omega) (λ_=>rfl)
theorem wk {bx cap n len:Nat}(h:len*bx=n)(hn:¬G.dom nm):VR (G.add nm w.heap.size (some (n,bx,cap))) (.ref nm 0 len) (.slice (some ⟨w.heap.size,0,none⟩) len cap):=by
 refine .ref nm 0 len n bx cap _ (.inl rfl) (by simp[Gh.add]) (by simp[h]) ⟨_,_,rfl⟩ λ_=>⟨_,by simp;rfl,λ_=>by simp[Gh.add]⟩
theorem Sv {o:Oper}{elem:TypeId}{ti:TI}{z:TV}(hw:WF G w)(hn:¬G.dom nm)(ho:o.op=.alloc elem)(ht:aW C.P elem=some ti)(hz:ti.zero=some z):
 cB C.P nm o a w G (.ptr nm 0) [(nm,.cells elem z.cells)]:=by
 obtain⟨x,h1,h2⟩:=ez ht hz w G
 have hc:=h2.cells (oq ht hz)
 have ha:=Ao hw hn hc elem
 refine cB.eD (w':=World.cN w (.cells x.cells.toList.toArray elem)) (G':=G.add nm w.heap.size none) (x:=.pointer (some ⟨w.heap.size,0,none⟩)) ?_ (ko hw hn _ _ _) ?_ ?_
 ·simp[execOp,ho,Instr.alloc,h1,newVar,iU,World.cN]
 ·intro k ob hm;simp at hm;obtain⟨rfl,rfl⟩:=hm;exact ha
 ·have:=VR.ptr (G:=G.add nm w.heap.size none) nm 0 (.inl rfl) (by simp[Gh.add]);simpa [Gh.add] using this
theorem aaD {o:Oper}{elem:TypeId}{x:Operand}{z:TV}(hw:WF G w)(hn:¬G.dom nm)(ho:o.op=.box elem x)(hz:VR G z (a.eval x))(hlf:z.cells.all TV.leaf=true):
 cB C.P nm o a w G (.ptr nm 0) [(nm,.cells elem z.cells)]:=by
 have hc:=hz.cells (Cd hlf)
 have ha:=Ao hw hn hc elem
 refine cB.eD (w':=World.cN w (.cells (a.eval x).cells.toList.toArray elem)) (G':=G.add nm w.heap.size none) (x:=.pointer (some ⟨w.heap.size,0,none⟩)) ?_ (ko hw hn _ _ _) ?_ ?_
 ·simp[execOp,ho,Instr.box,newVar,iU,World.cN]
 ·intro k ob hm;simp at hm;obtain⟨rfl,rfl⟩:=hm;exact ha
 ·have:=VR.ptr (G:=G.add nm w.heap.size none) nm 0 (.inl rfl) (by simp[Gh.add]);simpa [Gh.add] using this
theorem cv.cr {cs xs:List TV}{vs ys:List Value}{off:Nat}(h:cv G cs vs)(hx:cv G xs ys):cv G (cr cs off xs) (over vs off ys):=by
 unfold Go.Abs.cr over;rw[hx.1];exact((h.take off).append hx).append (h.drop _)
theorem Ap {vs ys:List Value}{off n:Nat}(h:off+ys.length<=n)(hn:n<=vs.length):(over vs off ys).take n=over (vs.take n) off ys:=by
 unfold over;apply List.ext_getElem?;intro i;simp only[List.getElem?_take,List.getElem?_append,List.length_append,List.length_take,List.getElem?_drop];by_cases c1:i<n
 ·rw[if_pos c1];have e1:min off vs.length=off:=by omega
  have e2:min off (min n vs.length)=off:=by omega
  rw[e1,e2];by_cases c2:i<off
  ·simp[c2,show i<off+ys.length by omega,c1]
  ·by_cases c3:i<off+ys.length
   ·simp[c2,c3]
   ·simp[c3];intro hc;omega
 ·rw[if_neg c1];have e2:min off (min n vs.length)=off:=by omega
  rw[e2,if_neg (by omega),if_neg (by omega)]
theorem kK {cs xs:List TV}{off:Nat}(h:off+xs.length<=cs.length):(cr cs off xs).length=cs.length:=by
 unfold cr;simp;omega
theorem ei {vs ys:List Value}{off:Nat}(h:off+ys.length<=vs.length):(over vs off ys).length=vs.length:=by
 unfold over;simp;omega
theorem ru {xs:List TV}{ys:List Value}(h:cv G xs ys)(hl:xs.all TV.leaf=true):∀y∈ys,one y=true:=by
 intro y hy;obtain⟨j,hj⟩:=List.mem_iff_getElem?.1 hy;have hjl:j<xs.length:=by have:=(List.getElem?_eq_some_iff.1 hj).1;have:=h.1;omega
 have hx:=List.getElem?_eq_getElem hjl;exact(h.2 j _ _ hx hj).leaf (List.all_eq_true.1 hl _ (List.getElem_mem hjl))
theorem iV (hw:WF G w){k:Nm}(hd:G.dom k)(ak:G.alive k){vs:List Value}{us:Array Value}{ty:TypeId}{fr:Nat×Nat}(hh:w.heap[G.mu k]?=some (.cells us ty fr))
 (hF:∀o,(∃u,G.F (G.mu k) o=some u)->vs[o]?=us[o]?):Step (λx=>x=k) (λ_=>False) G w G (World.bl w (G.mu k) vs.toArray ty fr):=by
 refine⟨.refl G,⟨λb o u h=> ?_,hw.inj,λk d=>by rw[lF];exact hw.lt k d⟩,λ_ _ _=>⟨rfl,rfl⟩,λb hb hn=>⟨gO (hn k rfl hd ak) _ _ _,λ_=>rfl⟩,λ_ d=>.inl d,λk d=>.inl ⟨k,d,rfl,.inl rfl⟩,by rw[lF];exact Nat.le_refl _,rfl,rfl,rfl⟩
 obtain⟨us',ty',fr',h1,h2⟩:=hw.F b o u h
 by_cases e:G.mu k=b
 ·subst e;refine⟨vs.toArray,ty,fr,cM (hw.lt k hd) _ _ _, ?_⟩;rw[hh] at h1;simp at h1;obtain⟨rfl,_,_⟩:=h1;have:=hF o ⟨u,h⟩;rw[h2] at this;simpa using this
 ·exact⟨us',ty',fr',by rw[gO e];exact h1,h2⟩
theorem yM {t:TypeId}{ti:TI}{x:Value}{p:TV}{b o:Nat}{vs:List Value}{ty:TypeId}{fr:Nat×Nat}(ht:aW C.P t=some ti)(hx:VR G p x)(hl:p.cells.length=ti.size)(hlf:p.cells.all TV.leaf=true)
 (hh:w.heap[b]?=some (.cells vs.toArray ty fr))(o6:pN vs.toArray fr)(hle:o+ti.size<=vs.length):
 (storeVar t ⟨b,o,none⟩ x).run C.P w=.ok () (World.bl w b (over vs o x.cells.toList).toArray ty fr):=by
 have hc:=hx.cells (Cd hlf)
 have hsz:x.cells.size=ti.size:=by have:=hc.1;simp at this;omega
 unfold storeVar
 rw[fk (dO ht w)]
 have:=jI (P:=C.P) (o:=o) x.cells.toList w 0 vs (ru hc hlf) hh o6 (by simp[hsz];omega)
 simp only[Nat.add_zero] at this
 simp[hsz,this]
theorem Qj {o:Oper}{t:TypeId}{pa px:Operand}{p q:TV}{u:List (Nm×aK)}(hw:WF G w)(hH:HR G w H)(ho:o.op=.store t pa px)(hp:VR G p (a.eval pa))(hq:VR G q (a.eval px))(h:storeT C.P H t p q=some u):
 cB C.P nm o a w G bN u:=by
 unfold storeT at h
 cases ht:aW C.P t<;>simp only[ht,reduceCtorEq] at h
 rename_i ti
 split at h
 ·rename_i hc;obtain⟨hl,hlf⟩:=hc;have hqc:=hq.cells (Cd hlf);have hql:(a.eval px).cells.toList.length=ti.size:=by rw[hqc.1,hl]
  split at h
  ·rename_i k off;split at h
   ·rename_i Hh cs hk;split at h<;>simp at h;rename_i hle;subst h;obtain⟨hd,har,vs,ty,fr,hh,o6,hv,hF⟩:=hH k _ hk;generalize hpv:a.eval pa=pv at hp;cases hp with|ptr _ _ _ _=>
    have hvl:vs.toList.length=cs.length:=hv.1;have hrun:=yM (o:=off) ht hq hl hlf (by simpa using hh) (by simpa using o6.1) (by omega);have hst:=iV (vs:=over vs.toList off (a.eval px).cells.toList) hw hd (Gh.iQ har) hh (λo ⟨u,hu⟩=>by rw[hF] at hu;simp at hu);refine cB.Ce (w':=World.bl w (G.mu k) (over vs.toList off (a.eval px).cells.toList).toArray ty fr) (G':=G) ?_ (hst.mono (λx _ e=>by simp[e]) (λ_ e=>e.elim)) ?_
    ·simp[execOp,ho,Instr.storeAt,hpv,Instr.sureAddr,hrun]
    ·intro k' ob hm;simp at hm;obtain⟨rfl,rfl⟩:=hm;refine⟨hd,har,_,ty,fr,cM (hw.lt _ hd) _ _ _,⟨?_,o6.2⟩,by simpa using hv.cr hqc,hF⟩;intro o ho';have:(over vs.toList off (a.eval px).cells.toList).length=vs.toList.length:=ei (by omega);exact o6.1 o (by simp[this] at ho';simpa using ho')
   ·simp at h
  ·rename_i k n off;split at h
   ·rename_i g bx cs hk;split at h<;>simp at h;rename_i eE;obtain⟨hn,hle⟩:=eE;subst h;obtain⟨hd,he,cap,vs,ty,fr,har,hh,o6,hs,hlc,hv,hF⟩:=hH k _ hk;generalize hpv:a.eval pa=pv at hp;cases hp with|je _ _ _ n' Sn cap' _ hd' uU hle' ho' xS=>
    rw[har] at uU;simp at uU;obtain⟨e1,e2,e3⟩:=uU;have hx:=xS (by omega);subst hx;have hrun:=yM (o:=off) ht hq hl hlf (by simpa using hh) (by simpa using o6.1) (by simp;omega);have hst:=iV (vs:=over vs.toList off (a.eval px).cells.toList) hw hd (Gh.iD har he) hh (λo ⟨u,hu⟩=>by rw[hF o (.inl rfl)] at hu;simp at hu);have hlen:(over vs.toList off (a.eval px).cells.toList).length=vs.toList.length:=ei (by rw[hql];simp;omega);refine cB.Ce (w':=World.bl w (G.mu k) (over vs.toList off (a.eval px).cells.toList).toArray ty fr) (G':=G) ?_ (hst.mono (λx _ e=>by simp[e]) (λ_ e=>e.elim)) ?_
    ·simp[execOp,ho,Instr.storeAt,hpv,Instr.sureAddr,hrun]
    ·intro k' ob hm;simp at hm;obtain⟨rfl,rfl⟩:=hm;have Hl:(cr cs off q.cells).length=cs.length:=kK (by omega);refine⟨hd,he,cap,_,ty,fr,by rw[Hl];exact har,cM (hw.lt _ hd) _ _ _,⟨?_,o6.2⟩,by simpa [hlen] using hs,by simp[hlen,Hl];omega, ?_,λo _=>hF o (.inl rfl)⟩
     ·intro o ho';exact o6.1 o (by simp[hlen] at ho';simpa using ho')
     ·rw[Hl];simp only[List.toList_toArray];rw[Ap (by omega) (by simp;omega)];exact hv.cr hqc
   ·simp at h
  ·simp at h
 ·simp at h
end
end Go.Abs
namespace Go.Abs
open Go
theorem CR (off:Nat):∀(ys:List Value) (j0:Nat) (vs:List Value),off+j0+ys.length<=vs.length->
 (ys.zipIdx j0).foldl (λ(cs:Array Value) (p:Value×Nat)=>cs.setIfInBounds (off+p.2) p.1) vs.toArray=(over vs (off+j0) ys).toArray:=by
 intro ys
 induction ys with
 |nil=>intro j0 vs _;simp[uS]
 |cons y r ih=>
  intro j0 vs h
  simp only[List.zipIdx_cons,List.foldl_cons]
  have:vs.toArray.setIfInBounds (off+j0) y=(vs.set (off+j0) y).toArray:=by simp
  rw[this,ih (j0+1) _ (by simp at h ⊢;omega),← Nat.add_assoc,F1 (by simpa [Nat.add_assoc] using h)]
theorem CS (ys:Array Value)(off:Nat)(vs:List Value)(h:off+ys.size<=vs.length):
 ys.zipIdx.foldl (λ(cs:Array Value) (p:Value×Nat)=>cs.setIfInBounds (off+p.2) p.1) vs.toArray=(over vs off ys.toList).toArray:=by
 have:=CR off ys.toList 0 vs (by simpa using h)
 rw[← Array.foldl_toList,Array.toList_zipIdx]
 simpa using this
section
variable {C:cE}{f:FuncId}{nm:Nm}{H:Heap}{slots:List TV}{a:Act}{w:World}{G:Gh}{v:TV}
inductive PR (G:Gh):List (Nat×TV)->List (Nat×Value)->Prop
 |nil:PR G [] []
 |cons {i x y ps qs} (h:VR G x y) (hs:PR G ps qs):PR G ((i,x)::ps) ((i,y)::qs)
theorem JF (hs:SR G slots a)(hg:jJ C G){l:List (Nat×Operand)}{ps:List (Nat×TV)}(h:pK C slots l=some ps):PR G ps (l.map λ(p:Nat×Operand)=>(p.1,a.eval p.2)):=by
 induction l generalizing ps with
 |nil=>simp[pK] at h;subst h;exact .nil
 |cons p r ih=>
  obtain⟨i,x⟩:=p
  simp only[pK] at h
  cases h1:bU C slots x<;>cases h2:pK C slots r<;>simp[h1,h2] at h
  subst h
  exact .cons (bL hs hg h1) (ih h2)
theorem CT {place:Nat->Option (Nat×Nat)}{ps:List (Nat×TV)}{qs:List (Nat×Value)}(hp:PR G ps qs):∀{cs ds:List TV} {vs:List Value},cv G cs vs->qt place cs ps=some ds->
 ∃us:List Value,Instr.fill place vs.toArray qs=some us.toArray/\cv G ds us:=by
 induction hp with
 |nil=>intro cs ds vs hv h;simp[qt] at h;subst h;exact⟨vs,by simp[Instr.fill],hv⟩
 | cons hxy h2 ih=>
   rename_i i x y ps' qs'
   intro cs ds vs hv h
   simp only[qt] at h
   cases hpl:place i with
   |none=>rw[hpl] at h;simp at h
   | some os=>
     obtain⟨off,size⟩:=os
     rw[hpl] at h
     simp only at h
     split at h
     · rename_i hc
       obtain⟨c1,c2,c3⟩:=hc
       have hxc:=hxy.cells (Cd c3)
       have hsz:y.cells.size=size:=by have:=hxc.1;simp at this;omega
       have hvl:=hv.1
       obtain⟨us,h3,h4⟩:=ih (hv.cr hxc (off:=off)) h
       refine⟨us, ?_,h4⟩
       simp only[Instr.fill,hpl]
       rw[if_neg (by simp[hsz];omega)]
       rw[CS _ _ _ (by omega)]
       exact h3
     · simp at h
theorem BW {w:World}:∀{l:List Field} {ps:List (Nat×Nat)},jE C.P l=some ps->(l.mapM λf=>Prod.mk f.offset<$>sizeOf f.type:Sem (List (Nat×Nat))).run C.P w=.ok ps w:=by
 intro l;induction l with
 |nil=>intro ps h;simp[jE] at h;subst h;simp
 |cons f r ih=>
  intro ps h
  simp only[jE] at h
  cases h1:aW C.P f.type<;>cases h2:jE C.P r<;>simp[h1,h2] at h
  subst h
  simp only[List.mapM_cons]
  simp[dO h1 w,ih h2]
theorem L8 {t:TypeId}{ps:List (Nat×TV)}{qs:Array (Nat×Value)}(hp:PR G ps qs.toList)(h:L5 C.P t ps=some v)(w:World):∃r,(Instr.build t qs).run C.P w=.ok r w/\VR G v r:=by
 unfold L5 at h;cases ht:aW C.P t<;>simp only[ht,reduceCtorEq] at h;rename_i ti;obtain⟨_,_,hu,_⟩:=bt ht;have kL:=aH hu w;split at h
 ·rename_i z fs hz hd;cases hf:jE C.P fs.toList<;>simp only[hf,reduceCtorEq] at h;rename_i pl;cases hfl:qt (λi=>pl[i]?) z.cells ps<;>simp only[hfl,reduceCtorEq] at h;rename_i cs;simp at h;subst h;obtain⟨zv,h1,h2⟩:=ez ht hz w G;obtain⟨us,h3,h4⟩:=CT hp (h2.cells (oq ht hz)) hfl;refine⟨.agg us.toArray, ?_,uO h4⟩;have hfun:(λi:Nat=>(pl.toArray)[i]?)=λi=>pl[i]?:=by funext i;simp
  have hm:=BW (C:=C) (w:=w) hf;simp[Instr.build,h1,kL,hd,Array.mapM_eq_mapM_toList,hm,hfun];simp only[Array.toArray_toList] at h3;rw[h3];rfl
 ·rename_i z n elem hz hd;cases hte:aW C.P elem<;>simp only[hte,reduceCtorEq] at h;rename_i te;cases hfl:qt (λi=>some (i*te.size,te.size)) z.cells ps<;>simp only[hfl,reduceCtorEq] at h;rename_i cs;simp at h;subst h;obtain⟨zv,h1,h2⟩:=ez ht hz w G;obtain⟨us,h3,h4⟩:=CT hp (h2.cells (oq ht hz)) hfl;refine⟨.agg us.toArray, ?_,uO h4⟩;simp[Instr.build,h1,kL,hd,dO hte w];simp only[Array.toArray_toList] at h3;rw[h3];rfl
 ·simp at h
theorem fq (n:Nat)(z:List TV):(qO n z).length=n*z.length:=by
 induction n with
 |zero=>simp[qO]
 |succ n ih=>simp[qO,ih,Nat.succ_mul];omega
theorem CU {z:List TV}:∀{n j:Nat},j<n*z.length->(qO n z)[j]?=z[j % z.length]?:=by
 intro n;induction n with
 |zero=>intro j h;simp at h
 | succ n ih=>
   intro j h
   simp only[qO]
   by_cases hj:j<z.length
   · rw[List.getElem?_append_left hj,Nat.mod_eq_of_lt hj]
   · rw[List.getElem?_append_right (by omega),ih (by rw[Nat.succ_mul] at h;omega)]
     have:j % z.length=(j - z.length) % z.length:=Nat.mod_eq_sub_mod (by omega)
     rw[this]
theorem CV {z:TV}{zv:Value}(hz:VR G z zv)(hne:z≠ .any)(n m:Nat)(hm:z.cells.length=m)(hpos:0<m):cv G (qO n z.cells) ((Array.range (n*m)).map (zv.cells[· % zv.cells.size]!)).toList:=by
 have hc:=hz.cells hne;have hsz:zv.cells.size=m:=by have:=hc.1;simp at this;omega
 refine⟨by simp[fq,hm],λj c u h1 h2=> ?_⟩;have hj:j<n*m:=by have:=(List.getElem?_eq_some_iff.1 h1).1;rw[fq,hm] at this;exact this
 rw[CU (by rw[hm];exact hj),hm] at h1;have hmod:j % m<m:=Nat.mod_lt _ hpos;simp[hj,hsz,hmod] at h2;refine hc.2 (j % m) c u h1 ?_;simp[← h2,hsz,hmod]
open Classical in
noncomputable def Gh.row (G:Gh)(b:Nat)(vs:List Value):Gh:={G with F:=λc o=>if c=b then vs[o]? else G.F c o}
theorem Sw (hw:WF G w)(vs:List Value):G.le (G.row w.heap.size vs):=by
 refine⟨λb o u h=> ?_,λ_ d=>d,λ_ _ a=>⟨a,rfl⟩,λ_ n e c _ a=>⟨n,e,c,a,Nat.le_refl _,λ_=>⟨rfl,rfl,rfl⟩,.inl rfl⟩⟩;have:=hw.acX h;simp only[Gh.row];rw[if_neg (by omega)];exact h
theorem row_step (hw:WF G w)(vs:List Value)(ty:TypeId)(W N:Nm->Prop)(fr:Nat×Nat:=(0,0)):Step W N G w (G.row w.heap.size vs) (World.cN w (.cells vs.toArray ty fr)):=by
 refine⟨Sw hw vs,⟨λb o u h=> ?_,hw.inj,λk d=> ?_⟩,λ_ _ _=>⟨rfl,rfl⟩,λb hb _=>⟨kT hb,λo=>by simp[Gh.row];omega⟩,λ_ d=>.inl d,λk d=>.inl ⟨k,d,rfl,.inl rfl⟩,by simp[World.cN],rfl,rfl,rfl⟩
 ·simp only[Gh.row] at h;split at h
  ·rename_i e;subst e;exact⟨vs.toArray,ty,fr,jK _ _,by simpa using h⟩
  ·obtain⟨us,ty',fr',h1,h2⟩:=hw.F b o u h;exact⟨us,ty',fr',by rw[kT (Array.getElem?_eq_some_iff.1 h1).1];exact h1,h2⟩
 ·have:=hw.lt k d;show G.mu k<(w.heap.push _).size;simp;omega
theorem L9 (hw:WF G w){g:Bool}{bx len:Nat}{ts es:List Tree}{vs:List Value}(hv:BV G.F ts vs)(hc:chunk g bx len ts=some es)(cap:Nat)(hcap:len<=cap)(vs':List Value)(hpre:∀(j:Nat) u,vs[j]?=some u->vs'[j]?=some u):
 VT (G.row w.heap.size vs').F (.sl es) (.slice (some ⟨w.heap.size,0,none⟩) len cap):=by
 obtain⟨c1,c2,c3⟩:=sM hc
 subst c1
 by_cases hne:es=[]
 ·subst hne;exact .Al _ _
 ·refine .sl bx es _ 0 cap (λj=>vs.getD j undef) hne hcap c3 ?_ ?_
  ·intro j c hj;rw[c2] at hj;have hjl:j<vs.length:=by have:=(List.getElem?_eq_some_iff.1 hj).1;have:=hv.1;omega
   simp only[Gh.row,Nat.zero_add,if_true];rw[hpre j vs[j] (List.getElem?_eq_getElem hjl)];simp[List.getD,hjl]
  ·intro j c hj;rw[c2] at hj;have hjl:j<vs.length:=by have:=(List.getElem?_eq_some_iff.1 hj).1;have:=hv.1;omega
   have:=hv.2 j c vs[j] hj (List.getElem?_eq_getElem hjl);have e:vs.getD j undef=vs[j]:=by simp[List.getD,hjl]
   rw[e];exact this.mono (Sw hw vs').F
theorem CW {o:Oper}{akR:Bool}{t:TypeId}{len:Nat}{parts:Array (Nat×Operand)}{ps:List (Nat×TV)}{u:List (Nm×aK)}(hw:WF G w)(hn:¬G.dom nm)(ho:o.op=.buildSlice t len parts)
 (hp:PR G ps (parts.map λ(p:Nat×Operand)=>(p.1,a.eval p.2)).toList)(h:qu C.P akR nm t len ps=some (v,u)):cB C.P nm o a w G v u:=by
 unfold qu at h
 cases ht:aW C.P t<;>simp only[ht,reduceCtorEq] at h
 rename_i ti
 obtain⟨_,_,hu,_⟩:=bt ht
 split at h
 ·rename_i elem hd;cases hte:aW C.P elem<;>simp only[hte,reduceCtorEq] at h;rename_i te;cases hz:te.zero<;>simp only[hz,reduceCtorEq] at h;rename_i z;split at h
  ·rename_i hc;obtain⟨c1,c2,c3,c4⟩:=hc;cases hfl:qt (λi=>some (i*te.size,te.size)) (qO len z.cells) ps<;>simp only[hfl,reduceCtorEq] at h;rename_i cs;obtain⟨zv,h1,h2⟩:=ez hte hz w G;have hr:=CV h2 (oq hte hz) len te.size c3 c1;obtain⟨us,h3,h4⟩:=CT hp hr hfl;have acY:cs.length=len*te.size:=by
    have:∀(ps:List (Nat×TV)) (cs ds:List TV),qt (λi=>some (i*te.size,te.size)) cs ps=some ds->ds.length=cs.length:=by
     intro ps;induction ps with
     |nil=>intro cs ds h;simp[qt] at h;rw[h]
     | cons p r ih=>
       intro cs ds h
       simp only[qt] at h
       split at h
       · rename_i hcc
         rw[ih _ _ h,kK (by omega)]
       · simp at h
    rw[this _ _ _ hfl,fq,c3]
   have sN:us.length=len*te.size:=by rw[h4.1,acY]
   have hrun:(execOp a.eval o).run C.P w=.ok (.value (.slice (some ⟨w.heap.size,0,none⟩) len len)) (World.cN w (.cells us.toArray elem)):=by
    have kL:=aH hu w;simp only[Array.toArray_toList] at h3;simp only[execOp,ho,Instr.buildSlice];simp only[bind_assoc,pure_bind,Sem.run_bind,kL,hd,Result.andThen_ok,dO hte w];rw[if_neg (by omega)];simp only[bind_assoc,pure_bind,Sem.run_bind,Result.andThen_ok,Sem.run_pure];by_cases h0:len*te.size=0
    ·rw[if_pos h0];have e:((Array.range (len*te.size)).map λx=>(#[]:Array Value)[x % (#[]:Array Value).size]!)=(Array.range (len*te.size)).map (zv.cells[· % zv.cells.size]!):=by rw[h0];simp
     rw[e,h3];simp[iU,World.cN]
    ·rw[if_neg h0];simp only[bind_assoc,pure_bind,Sem.run_bind,Result.andThen_ok,Sem.run_pure,h1,h3];simp[iU,World.cN]
   have CX:∀g:Bool,cB C.P nm o a w G (.ref nm 0 len) [(nm,.arr (elem,g) te.size false cs)]:=by
    intro g;have xT:=yL (b:=g) (cap:=len) hw hn c1 (cs:=cs) (vs:=us) (by rw[List.take_of_length_le (by omega)];exact h4) sN (by omega) elem;refine cB.eD hrun (ko hw hn _ (some (cs.length,te.size,len)) _) ?_ ?_
    ·intro k ob hm;simp at hm;obtain⟨rfl,rfl⟩:=hm;exact xT
    ·exact wk (by rw[acY]) hn
   split at h
   ·rename_i es xb;simp at h;obtain⟨rfl,rfl⟩:=h;cases hal:allT (cs.map Ox)<;>rw[hal] at xb<;>simp at xb;rename_i ts;have h4:=Qd h4;rw[Am hal] at h4;have Ma:=L9 hw h4.Se xb len (Nat.le_refl _) us (λ_ _ h=>h);refine cB.eD hrun (row_step hw us elem _ _) (λ_ _ hm=>by simp at hm) ?_;obtain⟨e1,_⟩:=sM xb;subst e1;exact .mB es _ Ma
   ·simp at h;obtain⟨rfl,rfl⟩:=h;exact CX _
  ·simp at h
 ·simp at h
end
end Go.Abs
namespace Go.Abs
open Go
theorem uW {n:Nat}:∀{es:List Tree} {i j:Nat} {e:Tree},(∀e∈es,e.cells.length=n)->es[i]?=some e->j<n->(flat es)[i*n+j]?=e.cells[j]?:=by
 intro es;induction es with
 |nil=>intro i j e _ h;simp at h
 | cons x r ih=>
  intro i j e hu h hj
  have hx:x.cells.length=n:=hu x List.mem_cons_self
  cases i with
  |zero=>
   simp at h;subst h
   simp only[flat,List.flatMap_cons,Nat.zero_mul,Nat.zero_add]
   rw[List.getElem?_append_left (by omega)]
  |succ i=>
   simp only[flat,List.flatMap_cons]
   rw[List.getElem?_append_right (by rw[hx,Nat.succ_mul];omega),hx]
   have:=ih (i:=i) (j:=j) (e:=e) (λe he=>hu e (List.mem_cons_of_mem _ he)) (by simpa using h) hj
   rw[← this]
   simp only[flat]
   congr 1
   rw[Nat.succ_mul];omega
theorem fu {n:Nat}:∀{es:List Tree},(∀e∈es,e.cells.length=n)->(flat es).length=es.length*n:=by
 intro es;induction es with
 |nil=>intro _;simp[flat]
 |cons x r ih=>
  intro hu
  have:=ih (λe he=>hu e (List.mem_cons_of_mem _ he))
  simp only[flat,List.flatMap_cons,List.length_append,hu x List.mem_cons_self,List.length_cons] at this ⊢
  rw[this,Nat.succ_mul];omega
theorem F6 {n:Nat}:∀{es:List Tree} {l:Nat},(∀e∈es,e.cells.length=n)->flat (es.drop l)=(flat es).drop (l*n):=by
 intro es;induction es with
 |nil=>intro l _;simp[flat]
 | cons x r ih=>
  intro l hu
  cases l with
  |zero=>simp
  |succ l=>
   have hx:x.cells.length=n:=hu x List.mem_cons_self
   have:=ih (l:=l) (λe he=>hu e (List.mem_cons_of_mem _ he))
   simp only[List.drop_succ_cons,flat,List.flatMap_cons] at this ⊢
   have e1:x.cells.drop ((l+1) *n)=[]:=List.drop_eq_nil_of_le (by rw[hx,Nat.succ_mul];omega)
   have e2:(l+1) *n - x.cells.length=l*n:=by rw[hx,Nat.succ_mul];omega
   rw[this,List.drop_append,e1,List.nil_append,e2]
theorem F7 {n:Nat}:∀{es:List Tree} {l:Nat},(∀e∈es,e.cells.length=n)->flat (es.take l)=(flat es).take (l*n):=by
 intro es;induction es with
 |nil=>intro l _;simp[flat]
 | cons x r ih=>
  intro l hu
  cases l with
  |zero=>simp[flat]
  |succ l=>
   have hx:x.cells.length=n:=hu x List.mem_cons_self
   have:=ih (l:=l) (λe he=>hu e (List.mem_cons_of_mem _ he))
   simp only[List.take_succ_cons,flat,List.flatMap_cons] at this ⊢
   have e1:x.cells.take ((l+1) *n)=x.cells:=List.take_of_length_le (by rw[hx,Nat.succ_mul];omega)
   have e2:(l+1) *n - x.cells.length=l*n:=by rw[hx,Nat.succ_mul];omega
   rw[this,List.take_append,e1,e2]
section
variable {C:cE}{f:FuncId}{nm:Nm}{H:Heap}{slots:List TV}{a:Act}{w:World}{G:Gh}{v:TV}
theorem kU {k:Nm}{off len:Nat}{g:TypeId×Bool}{bx:Nat}{fz:Bool}{cs:List TV}(h:iE H k off len=some (g,bx,fz,cs)):H.get k=some (.arr g bx fz cs)/\0<bx/\(off+len) *bx=cs.length:=by
 unfold iE at h;split at h
 ·split at h<;>simp at h;rename_i hc;obtain⟨rfl,rfl,rfl,rfl⟩:=h;exact⟨by assumption,hc.1,hc.2⟩
 ·simp at h
theorem sO {k:Nm}{off len:Nat}{g:TypeId×Bool}{bx:Nat}{fz:Bool}{cs:List TV}{x:Value}(hH:HR G w H)(h:iE H k off len=some (g,bx,fz,cs))(hx:VR G (.ref k off len) x):
 ∃cap vs ty fr b,G.dom k/\G.arr k=some (cs.length,bx,cap)/\w.heap[G.mu k]?=some (.cells vs ty fr)/\(pN vs fr/\ty=g.1/\CK bx fr)/\vs.size=cap*bx/\cs.length<=vs.size/\cv G cs (vs.toList.take cs.length)/\
  (∀o,(fz=false\/cs.length<=o)->G.F (G.mu k) o=none)/\x=.slice b len (cap - off)/\off+len<=cap/\(off<cap->b=some ⟨G.mu k,off*bx,none⟩):=by
 obtain⟨hk,hpos,htip⟩:=kU h
 obtain⟨hd,he,cap,vs,ty,fr,ha,hh,ht,hs,hl,hv,hf⟩:=hH k _ hk
 cases hx with|ref _ _ _ n' Sn cap' _ hd' uU hle ho xS=>
  rw[ha] at uU
  simp at uU
  obtain⟨e1,e2,e3⟩:=uU
  subst e2;subst e3
  obtain⟨b,rfl,hb⟩:=xS (by rw[htip];exact e1)
  have hcap:off+len<=cap:=by
   have:(off+len) *bx<=cap*bx:=by rw[htip,← hs];exact hl
   exact Nat.le_of_mul_le_mul_right this hpos
  exact⟨cap,vs,ty,fr,b,hd,ha,hh,ht,hs,hl,hv,hf,rfl,hcap,hb⟩
theorem Xk {p:TV}{x:Value}{n:Nat}(hp:VR G p x)(h:xM H p=some n):(∃s:List UInt8,p=.t (.str s)/\n=s.length)\/(∃b c,x=.slice b n c)\/(p=.t .iu)\/(∃k,p=.map k)\/(∃k o l,p=.ref k o l/\n=l):=by
 unfold xM at h;split at h
 ·simp at h;exact .inl ⟨_,rfl,h.symm⟩
 ·simp at h;subst h;cases hp with|t _ _ hp=>cases hp with
   |Al b c=>exact .inr (.inl ⟨b,c,rfl⟩)
   |sl=>exact .inr (.inl ⟨_,_,rfl⟩)
 ·simp at h;subst h;cases hp;exact .inr (.inl ⟨_,_,rfl⟩)
 ·simp at h;subst h;cases hp;exact .inr (.inl ⟨_,_,rfl⟩)
 ·simp at h;exact .inr (.inr (.inr (.inr ⟨_,_,_,rfl,h.symm⟩)))
 ·exact .inr (.inr (.inl rfl))
 ·exact .inr (.inr (.inr (.inl ⟨_,rfl⟩)))
 ·simp at h
theorem VT.Zu {F:uK}{es:List Tree}{x:Value}{i:Nat}{e:Tree}(h:VT F (.sl es) x)(he:es[i]?=some e):
 ∃b o cap bx,∃vals:Nat->Value,x=.slice (some ⟨b,o,none⟩) es.length cap/\e.cells.length=bx/\(∀(j:Nat) c,e.cells[j]?=some c->F b (o+i*bx+j)=some (vals j))/\∀(j:Nat) c,e.cells[j]?=some c->VT F c (vals j):=by
 cases h with
 |Al b c=>simp at he
 | sl bx _ b o cap vals hne hc hu hF hv=>
   have hem:e∈es:=List.mem_of_getElem? he
   refine⟨b,o,cap,bx,λj=>vals (i*bx+j),rfl,hu e hem,λj c hj=> ?_,λj c hj=> ?_⟩
   · have hjl:j<bx:=by rw[← hu e hem];exact(List.getElem?_eq_some_iff.1 hj).1
     rw[Nat.add_assoc]
     exact hF _ c (by rw[uW hu he hjl];exact hj)
   · have hjl:j<bx:=by rw[← hu e hem];exact(List.getElem?_eq_some_iff.1 hj).1
     exact hv _ c (by rw[uW hu he hjl];exact hj)
theorem nQ {t elem:TypeId}{ti te:TI}{b:Option Addr}{len cap:Nat}{i:Nat}{k:IntKind}{bb oo:Nat}(ht:aW C.P t=some ti)(hd:ti.desc=.slice elem)(hte:aW C.P elem=some te)
 (hb:b=some ⟨bb,oo,none⟩)(hi:i<len):(Instr.indexAt t (.slice b len cap) (.int k (i:Int))).run C.P w=.ok (.pointer (some ⟨bb,oo+i*te.size,none⟩)) w:=by
 subst hb
 obtain⟨_,_,hu,_⟩:=bt ht
 rw[hd] at hu
 have kL:=aH hu w
 simp[Instr.indexAt,asIntOf,kL,dO hte w,hi,nx]
theorem CY {t:TypeId}{x y:Value}{p q:TV}(hH:HR G w H)(hp:VR G p x)(hq:VR G q y)(h:dG C.P H t p q=some v):∃r,(Instr.indexAt t x y).run C.P w=.ok r w/\VR G v r:=by
 unfold dG at h;cases ht:aW C.P t<;>cases hi:eT q<;>simp only[ht,hi,reduceCtorEq] at h;rename_i ti i;obtain⟨k,rfl⟩:=pO hq hi;split at h
 ·rename_i elem es hd;cases hte:aW C.P elem<;>cases he:es[i]? <;>simp only[hte,he,reduceCtorEq] at h;rename_i te e;split at h<;>simp at h;rename_i hs;subst h;obtain⟨b,o,cap,bx,vals,rfl,h1,h2,h3⟩:=hp.tree.Zu he;refine⟨_,nQ ht hd hte rfl (List.getElem?_eq_some_iff.1 he).1, ?_⟩;rw[← hs,h1];exact .jf e.cells 0 b (o+i*bx) vals h2 h3
 ·rename_i elem es hd;cases hte:aW C.P elem<;>cases he:es[i]? <;>simp only[hte,he,reduceCtorEq] at h;rename_i te e;split at h<;>simp at h;rename_i hs;subst h;cases hp with|mB _ ad hp=>
  obtain⟨b,o,cap,bx,vals,hx,h1,h2,h3⟩:=hp.Zu he;simp at hx;obtain⟨hx,hx2⟩:=hx;refine⟨_,nQ ht hd hte hx (List.getElem?_eq_some_iff.1 he).1, ?_⟩;rw[← hs,h1];exact .jf e.cells 0 b (o+i*bx) vals h2 h3
 ·rename_i elem k' off len hd;cases hte:aW C.P elem<;>cases hr:iE H k' off len<;>simp only[hte,hr,reduceCtorEq] at h;rename_i te r;obtain⟨g,bx,fz,cs⟩:=r;simp only at h;split at h<;>simp at h;rename_i hc;obtain⟨hs,hil⟩:=hc;subst h;obtain⟨cap,vs,ty,fr,b,ql,har,hh,o6,hsz,hlc,hv,hf,rfl,hcap,hb⟩:=sO hH hr hp;refine⟨_,nQ ht hd hte (hb (by omega)) hil, ?_⟩;have e:off*bx+i*te.size=(off+i) *bx:=by rw[hs,Nat.add_mul]
  rw[e];exact .je k' cs.length _ cs.length bx cap _ ql har (Nat.le_refl _) ⟨_,rfl⟩ (λ_=>rfl)
 ·rename_i len elem hd;cases hte:aW C.P elem<;>simp only[hte,reduceCtorEq] at h;rename_i te;split at h
  ·rename_i hil;obtain⟨b,o,rfl,hv⟩:=F5 hH hp h;refine⟨_, ?_,hv⟩;obtain⟨_,_,hu,_⟩:=bt ht;rw[hd] at hu;have kL:=aH hu w;simp[Instr.indexAt,asIntOf,kL,dO hte w,hil,nx,Instr.sureAddr]
  ·simp at h
 ·simp at h
theorem VT.sub {F:uK}{es:List Tree}{b:Option Addr}{len cap l h m size:Nat}(hv:VT F (.sl es) (.slice b len cap))(hs:jF size es=true)(h1:l<=h)(h2:h<=len)(h3:h<=m):
 VT F (.sl ((es.take h).drop l)) (.slice (if m=l then b else b.map (·.add (l*size))) (h - l) (m - l)):=by
 have hlen:len=es.length:=by cases hv<;>simp
 by_cases e:l=h
 ·subst e;rw[Nat.sub_self,List.drop_eq_nil_of_le (by simp;omega)];exact .Al _ _
 ·cases hv with
  |Al=>simp at h2;omega
  | sl bx _ b' o _ vals hne hc hu hF Oz=>
    have hsz:bx=size:=by
      cases es with
      |nil=>exact absurd rfl hne
      |cons x r=>simp[jF] at hs;rw[← hs];exact(hu x List.mem_cons_self).symm
    subst hsz
    rw[if_neg (by omega)]
    simp only[Option.map_some,nx]
    have hsub:∀x∈(es.take h).drop l,x.cells.length=bx:=λx hx=>hu x (List.mem_of_mem_take (List.mem_of_mem_drop hx))
    have Sy:((es.take h).drop l).length=h - l:=by simp;omega
    have hfl:flat ((es.take h).drop l)=((flat es).take (h*bx)).drop (l*bx):=by
      rw[F6 (λx hx=>hu x (List.mem_of_mem_take hx)),F7 hu]
    rw[← Sy]
    refine .sl bx _ b' (o+l*bx) _ (λj=>vals (l*bx+j)) ?_ (by omega) hsub ?_ ?_
    · intro hh;rw[hh] at Sy;simp at Sy;omega
    · intro j c hj
      rw[hfl,List.getElem?_drop,List.getElem?_take] at hj
      split at hj
      · have:=hF _ c hj
        rw[← this];congr 1;omega
      · simp at hj
    · intro j c hj
      rw[hfl,List.getElem?_drop,List.getElem?_take] at hj
      split at hj
      · exact Oz _ c hj
      · simp at hj
end
end Go.Abs
namespace Go.Abs
open Go
section
variable {C:cE}{f:FuncId}{nm:Nm}{H:Heap}{slots:List TV}{a:Act}{w:World}{G:Gh}{v:TV}
def W5 (G:Gh):Option TV->Option Value->Prop
 |none,none=>True
 |some p,some v=>VR G p v
 |_,_=>False
theorem o7 {p:TV}{x:Value}{n y:Nat}{code:BoundsCode}(hp:VR G p x)(h:eT p=some n)(hy:n<=y):(Instr.sliceBound x y code).run C.P w=.ok n w:=by
 obtain⟨k,rfl⟩:=pO hp h;simp[Instr.sliceBound,asIntOf,hy]
theorem xU {isS:Bool}{len cap:Nat}{lo hi mx:Option TV}{xl xh xm:Option Value}{l h m:Nat}(hl:W5 G lo xl)(hh:W5 G hi xh)(hm:W5 G mx xm)
 (el:ec lo 0=some l)(eh:ec hi len=some h)(em:ec mx len=some m)(emx:(mx.isNone||hi.isSome)=true)(h1:l<=h)(h2:h<=m)(h3:m<=len)(h4:len<=cap):
 (Instr.sliceBounds isS len cap xl xh xm).run C.P w=.ok (l,h,if mx.isSome then m else cap) w:=by
 cases mx with
 | none=>
  cases xm with
  |some _=>exact absurd hm id
  |none=>
  simp[ec] at em;subst em
  cases hi with
  | none=>
   cases xh with
   |some _=>exact absurd hh id
   |none=>
   simp[ec] at eh;subst eh
   cases lo with
   |none=>
    cases xl with
    |some _=>exact absurd hl id
    |none=>simp[ec] at el;subst el;simp[Instr.sliceBounds]
   | some pl=>
    cases xl with
    |none=>exact absurd hl id
    |some vl=>
     simp only[Instr.sliceBounds]
     have hb:∀code,(Instr.sliceBound vl len code).run C.P w=.ok l w:=λcode=>o7 hl el h1
     simp[hb]
  | some ph=>
   cases xh with
   |none=>exact absurd hh id
   |some vh=>
   have hb:∀code,(Instr.sliceBound vh cap code).run C.P w=.ok h w:=λcode=>o7 hh eh (by omega)
   cases lo with
   |none=>
    cases xl with
    |some _=>exact absurd hl id
    |none=>simp[ec] at el;subst el;simp[Instr.sliceBounds,hb]
   | some pl=>
    cases xl with
    |none=>exact absurd hl id
    |some vl=>
     have hb2:∀code,(Instr.sliceBound vl h code).run C.P w=.ok l w:=λcode=>o7 hl el h1
     simp[Instr.sliceBounds,hb,hb2]
 | some pm=>
  cases xm with
  |none=>exact absurd hm id
  |some vm=>
  have hbm:∀code,(Instr.sliceBound vm cap code).run C.P w=.ok m w:=λcode=>o7 hm em (by omega)
  cases hi with
  |none=>simp at emx
  | some ph=>
   cases xh with
   |none=>exact absurd hh id
   |some vh=>
   have hb:∀code,(Instr.sliceBound vh m code).run C.P w=.ok h w:=λcode=>o7 hh eh (by omega)
   cases lo with
   |none=>
    cases xl with
    |some _=>exact absurd hl id
    |none=>simp[ec] at el;subst el;simp[Instr.sliceBounds,hb,hbm]
   | some pl=>
    cases xl with
    |none=>exact absurd hl id
    |some vl=>
     have hb2:∀code,(Instr.sliceBound vl h code).run C.P w=.ok l w:=λcode=>o7 hl el h1
     simp[Instr.sliceBounds,hb,hb2,hbm]
theorem F8 {t elem:TypeId}{ti te:TI}{b:Option Addr}{len cap l h m:Nat}{xl xh xm:Option Value}(ht:aW C.P t=some ti)(hd:ti.desc=.slice elem)(hte:aW C.P elem=some te)
 (hb:(Instr.sliceBounds true len cap xl xh xm).run C.P w=.ok (l,h,m) w):
 (Instr.sliceAt t (.slice b len cap) xl xh xm).run C.P w=.ok (.slice (if m=l then b else b.map (·.add (l*te.size))) (h - l) (m - l)) w:=by
 obtain⟨_,_,hu,_⟩:=bt ht
 rw[hd] at hu
 have kL:=aH hu w
 simp[Instr.sliceAt,Instr.slice,kL,hb,dO hte w]
theorem Ho {tight:Bool}{es:List Tree}{b:Option Addr}{len cap l h m size:Nat}(hv:VT G.F (.sl es) (.slice b len cap))(hs:jF size es=true)(h1:l<=h)(h2:h<=len)(h3:h<=m)(ht:tight=true->m=h):
 VR G (Qc tight es l h) (.slice (if m=l then b else b.map (·.add (l*size))) (h - l) (m - l)):=by
 have hsub:=VT.sub hv hs h1 h2 h3
 unfold Qc
 split
 ·have hm:=ht (by assumption);subst hm;have hlen:((es.take m).drop l).length=m - l:=by
   have:len=es.length:=by cases hv<;>simp
   simp;omega
  rw[← hlen] at hsub ⊢;exact .mB _ _ hsub
 ·exact .t _ _ hsub
def Gh.cut (G:Gh)(k nm:Nm)(n m:Nat)(e c:Nat):Gh:=
 {G with mu:=λx=>if x=nm then G.mu k else G.mu x,arr:=λx=>if x=nm then some (m,e,c) else if x=k then some (n+1,0,0) else G.arr x,dom:=λx=>x=nm\/G.dom x}
theorem Sz {nm k:Nm}{n e c m:Nat}(hw:WF G w)(hn:¬G.dom nm)(hd:G.dom k)(ha:G.arr k=some (n,e,c))(he:0<e):Step (λx=>x=k) (λx=>x=nm) G w (G.cut k nm n m e c) w:=by
 have hkn:k≠nm:=λx=>hn (x▸hd)
 have hne:∀x,G.dom x->x≠nm:=λx d e=>hn (e▸d)
 have ak:G.alive k:=Gh.iD ha he;have al:∀x,x≠nm->(G.cut k nm n m e c).alive x->x≠k/\G.alive x:=λx h1 h=>by
  have h2:x≠k:=by
   intro e1;subst e1;exact h (n+1) 0 (by simp[Gh.cut,h1])
  exact⟨h2,λa b q=>h a b (by simp[Gh.cut,h1,h2,q])⟩
 refine⟨⟨λ_ _ _ h=>h,λx d=>.inr d,λx d a=> ?_,λx n0 e0 c0 d a=> ?_⟩,⟨hw.F,λx y d d' a a' q=> ?_,λx d=> ?_⟩,λx d h=> ?_,λ_ _ _=>⟨rfl,λ_=>rfl⟩,λx d=>d.symm,λx d=> ?_,Nat.le_refl _,rfl,rfl,rfl⟩
 ·have h2:x≠k:=by intro e1;subst e1;rw[ha] at a;cases a
  simp[Gh.cut,hne x d,h2,a]
 ·by_cases h2:x=k
  ·subst h2;rw[ha] at a;cases a;exact⟨n+1,0,0,by simp[Gh.cut,hkn],Nat.le_succ _,λq=>by omega,.inr rfl⟩
  ·exact⟨n0,e0,c0,by simp[Gh.cut,hne x d,h2,a],Nat.le_refl _,λ_=>⟨rfl,rfl,by simp[Gh.cut,hne x d]⟩,.inl rfl⟩
 ·by_cases h1:x=nm<;>by_cases h2:y=nm
  ·rw[h1,h2]
  ·obtain⟨g1,g2⟩:=al y h2 a';have dy:G.dom y:=d'.resolve_left h2;simp only[Gh.cut,if_pos h1,if_neg h2] at q;exact absurd (hw.inj _ _ hd dy ak g2 q).symm g1
  ·obtain⟨g1,g2⟩:=al x h1 a;have dx:G.dom x:=d.resolve_left h1;simp only[Gh.cut,if_neg h1,if_pos h2] at q;exact absurd (hw.inj _ _ dx hd g2 ak q) g1
  ·obtain⟨g1,g2⟩:=al x h1 a;obtain⟨g3,g4⟩:=al y h2 a';simp only[Gh.cut,if_neg h1,if_neg h2] at q;exact hw.inj _ _ (d.resolve_left h1) (d'.resolve_left h2) g2 g4 q
 ·simp only[Gh.cut];split
  ·exact hw.lt _ hd
  ·rename_i h1;exact hw.lt _ (d.resolve_left h1)
 ·simp[Gh.cut,hne x d,h]
 ·by_cases h1:x=nm
  ·exact .inl ⟨k,hd,by simp[Gh.cut,h1],.inr ⟨rfl,ak⟩⟩
  ·exact .inl ⟨x,d.resolve_left h1,by simp[Gh.cut,h1],.inl rfl⟩
theorem Qk        {nm:Nm}{o:Oper}{t:TypeId}{px:Operand}{Xl Xm Xn:Option Operand}{p:TV}{lo hi mx:Option TV}{u:List (Nm×aK)}(hw:WF G w)(hH:HR G w H)(hn:¬G.dom nm)(ho:o.op=.slice t px Xl Xm Xn)
 (hp:VR G p (a.eval px))(hl:W5 G lo (Xl.map a.eval))(hh:W5 G hi (Xm.map a.eval))(hm:W5 G mx (Xn.map a.eval))(h:xN C.P H nm t p lo hi mx=some (v,u)):cB C.P nm o a w G v u:=by
 unfold xN at h
 split at h
 ·rename_i k len hv;split at h
  ·rename_i ti h0 g bx cs ht hi0 hro;split at h
   ·rename_i elem hd;split at h
    ·rename_i te hte;split at h
     ·rename_i hc;obtain⟨hc1,eE⟩:=hc;cases h;have iP:∀r w',(Instr.sliceAt t (a.eval px) (Xl.map a.eval) (Xm.map a.eval) (Xn.map a.eval)).run C.P w=.ok r w'->(execOp a.eval o).run C.P w=.ok (.value r) w':=by
       intro r w' hr;simp[execOp,ho,hr]
      generalize hpx:a.eval px=xv at hp;obtain⟨cap,vs,ty,fr,b,ql,har,JG,o6,hsz,hlc,hvs,hf,rfl,hcap,hb⟩:=sO hH hro hp;obtain⟨hk,hpos,htip⟩:=kU hro;have hkn:k≠nm:=λx=>hn (x▸ql)
      have hrun:=F8 (te:=te) (b:=b) (len:=len) (cap:=cap - 0) ht hd hte (xU (w:=w) hl hh hm (l:=0) (h:=h0) (m:=len) rfl hi0 rfl rfl (Nat.zero_le _) eE (Nat.le_refl _) (by omega));have hle:h0*bx<=cs.length:=by rw[← htip,Nat.zero_add];exact Nat.mul_le_mul_right _ eE
      have hlen:(cs.take (h0*bx)).length=h0*bx:=by rw[List.length_take,Nat.min_eq_left hle]
      have hst:=Sz (m:=h0*bx) hw hn ql har hpos;refine cB.eD (w':=w) (G':=G.cut k nm cs.length (h0*bx) bx cap) (iP _ _ (by rw[hpx];exact hrun)) (hst.mono (λx _ e=>by simp[e]) (λ_ e=>e)) ?_ ?_
      ·intro k1 ob hm1;simp only[List.mem_cons,List.not_mem_nil,or_false,Prod.mk.injEq] at hm1;rcases hm1 with ⟨rfl,rfl⟩|⟨rfl,rfl⟩
       ·exact⟨.inr ql,trivial⟩
       ·refine⟨.inl rfl,hpos,cap,vs,ty,fr, ?_, ?_,o6,hsz, ?_, ?_,λq _=> ?_⟩
        ·simp[Gh.cut,hlen]
        ·simpa [Gh.cut] using JG
        ·rw[hlen];omega
        ·have h3:=(hvs.take (h0*bx)).mono hst.le;rw[hlen];rwa [List.take_take,Nat.min_eq_left hle] at h3
        ·have:=hf q (.inl rfl);simpa [Gh.cut] using this
      ·refine .ref nm 0 h0 (h0*bx) bx cap _ (.inl rfl) (by simp[Gh.cut]) (by rw[Nat.zero_add];exact Nat.le_refl _) ⟨_,_,rfl⟩ λ_=> ?_
       refine⟨_,rfl,λhlt=> ?_⟩;rw[hb hlt];simp[Gh.cut,Addr.add]
     ·cases h
    ·cases h
   ·cases h
  ·cases h
 ·cases h
theorem Ql        {o:Oper}{t:TypeId}{px:Operand}{Xl Xm Xn:Option Operand}{p:TV}{lo hi mx:Option TV}{ks:List Nm}(hw:WF G w)(hH:HR G w H)(ho:o.op=.slice t px Xl Xm Xn)
 (hp:VR G p (a.eval px))(hl:W5 G lo (Xl.map a.eval))(hh:W5 G hi (Xm.map a.eval))(hm:W5 G mx (Xn.map a.eval))(h:pJ C.P H t p lo hi mx=some (v,ks)):cB C.P nm o a w G v (cW H ks):=by
 unfold pJ at h
 cases ht:aW C.P t<;>simp only[ht,reduceCtorEq] at h
 rename_i ti
 obtain⟨_,_,hu,_⟩:=bt ht
 have iP:∀r w',(Instr.sliceAt t (a.eval px) (Xl.map a.eval) (Xm.map a.eval) (Xn.map a.eval)).run C.P w=.ok r w'->(execOp a.eval o).run C.P w=.ok (.value r) w':=by
  intro r w' hr;simp[execOp,ho,hr]
 split at h
 ·rename_i hd;rw[hd] at hu;have kL:=aH hu w;split at h
  ·rename_i s;split at h
   ·rename_i l CZ el eh;split at h<;>simp at h;rename_i hc;obtain⟨hc1,eE⟩:=hc;obtain⟨rfl,rfl⟩:=h;have hx:=hp.str;cases hmx:Xn.map a.eval with
    |some _=>rw[hmx] at hm;exact absurd hm id
    |none=>
    have hb:=xU (C:=C) (w:=w) (isS:=false) (len:=s.length) (cap:=s.length) hl hh (mx:=none) (xm:=none) trivial el eh rfl rfl hc1 eE (Nat.le_refl _) (Nat.le_refl _);refine cB.quiet hw (x:=.string ((ByteArray.mk s.toArray).extract l CZ)) (iP _ _ ?_) ?_
    ·rw[hx,hmx];simp only[Option.isSome_none,Bool.false_eq_true,if_false] at hb;have hb':(Instr.sliceBounds false (ByteArray.mk s.toArray).size (ByteArray.mk s.toArray).size (Xl.map a.eval) (Xm.map a.eval) none).run C.P w=.ok (l,CZ,s.length) w:=hb;simp[Instr.sliceAt,Instr.slice,kL,hb']
    ·have e:(ByteArray.mk s.toArray).extract l CZ=⟨((s.take CZ).drop l).toArray⟩:=by
      apply Go.WideShapes.bytes_inj;rw[Go.Lib.extract_data];simp;rw[List.drop_take]
     rw[e];exact .t _ _ (.str _)
   ·simp at h
  ·simp at h
 ·rename_i elem hd;split at h
  ·rename_i te n hte hn;split at h
   ·rename_i l CZ m el eh em emx;split at h
    ·rename_i hc;obtain⟨hc1,eE,gI⟩:=hc;have main:∀(b:Option Addr) (cap:Nat),n<=cap->a.eval px=.slice b n cap->
      (Instr.sliceAt t (a.eval px) (Xl.map a.eval) (Xm.map a.eval) (Xn.map a.eval)).run C.P w=.ok (.slice (if(if mx.isSome then m else cap)=l then b else b.map (·.add (l*te.size))) (CZ - l) ((if mx.isSome then m else cap) - l)) w:=by
      intro b cap hcap hx
      rw[hx]
      exact F8 ht hd hte (xU hl hh hm el eh em emx hc1 eE gI hcap)
     split at h
     ·simp at h;obtain⟨rfl,rfl⟩:=h;generalize hpx:a.eval px=xv at hp main;cases hp;simp[xM] at hn;subst hn;have:=main none 0 (by omega) rfl;have e:m=0/\CZ=0/\l=0:=by omega
      obtain⟨rfl,rfl,rfl⟩:=e;simp at this;exact cB.quiet hw (iP _ _ (by rw[hpx];exact this)) .bX
     ·rename_i es;split at h<;>simp at h;rename_i hs;obtain⟨rfl,rfl⟩:=h;simp[xM] at hn;subst hn;generalize hpx:a.eval px=xv at hp main;have hpt:=hp.tree;have xV:∃b cap,xv=.slice b es.length cap/\es.length<=cap:=by
       cases hpt with
       |Al b c=>exact⟨b,c,rfl,by simp⟩
       |sl e es b o cap vals hne hcp _ _ _=>exact⟨_,cap,rfl,hcp⟩
      obtain⟨b,cap,rfl,hcap⟩:=xV;refine cB.quiet hw (iP _ _ (by rw[hpx];exact main b cap hcap rfl)) (Ho hpt hs hc1 (by omega) ?_ ?_)
      ·cases mx<;>simp<;>omega
      ·intro Ss;cases mx<;>simp at Ss ⊢;exact Ss
     ·rename_i es;split at h<;>simp at h;rename_i hs;obtain⟨rfl,rfl⟩:=h;simp[xM] at hn;subst hn;generalize hpx:a.eval px=xv at hp main;cases hp with|mB _ b hpt=>
      refine cB.quiet hw (iP _ _ (by rw[hpx];exact main b es.length (Nat.le_refl _) rfl)) (Ho hpt hs hc1 (by omega) ?_ ?_)
      ·cases mx<;>simp<;>omega
      ·intro Ss;cases mx<;>simp at Ss ⊢<;>omega
     ·rename_i k off len;simp[xM] at hn;subst hn;split at h
      ·rename_i hcc;obtain⟨ahD,aj7⟩:=hcc;subst ahD;split at h
       ·rename_i g bx fz cs hro;split at h<;>simp at h;rename_i xb;subst xb;obtain⟨rfl,rfl⟩:=h;generalize hpx:a.eval px=xv at hp main;obtain⟨cap,vs,ty,fr,b,ql,har,JG,o6,hsz,hlc,hv,hf,rfl,hcap,hb⟩:=sO hH hro hp;obtain⟨hk,hpos,htip⟩:=kU hro;refine cB.quiet hw (iP _ _ (by rw[hpx];exact main b (cap - off) (by omega) rfl)) ?_;have hmx:mx=none:=by cases mx<;>simp_all
        subst hmx;simp only[Option.isSome_none,Bool.false_eq_true,if_false];have e1:(off+l+(CZ - l)) *te.size=cs.length:=by rw[show off+l+(CZ - l)=off+CZ by omega];exact htip
        refine .ref k (off+l) (CZ - l) cs.length te.size cap _ ql har (by omega) ⟨_,_,rfl⟩ λ_=>⟨_,by rw[show cap - (off+l)=cap - off - l by omega],λhlt=> ?_⟩
        rw[if_neg (by omega),hb (by omega)];simp only[Option.map_some,nx];rw[Nat.add_mul]
       ·simp at h
      ·split at h
       ·rename_i es ks' hfz;split at h<;>simp at h;rename_i hs;obtain⟨rfl,rfl⟩:=h;have Ma:=CP hw hH ks' fT _ _ _ _ hfz (λ_ hk=>hk) hp;have hst:=iO hw hH ks';generalize hpx:a.eval px=xv at hp main Ma;have xV:∃b cap,xv=.slice b es.length cap/\es.length<=cap:=by
         cases Ma with
         |Al b c=>exact⟨b,c,rfl,by simp⟩
         |sl e es b o cap vals hne hcp _ _ _=>exact⟨_,cap,rfl,hcp⟩
        obtain⟨b,cap,rfl,hcap⟩:=xV;have hlen :es.length=len:=by
         simp only[fT,oe] at hfz;split at hfz
         ·split at hfz
          ·split at hfz
           ·split at hfz
            ·rename_i hch;simp at hfz;rw[← hfz.1];exact(sM hch).1
            ·simp at hfz
           ·simp at hfz
          ·simp at hfz
         ·simp at hfz
        rw[← hlen] at main;refine cB.eD (G':=G.frozen w H ks') (iP _ _ (by rw[hpx];exact main b cap hcap rfl)) (hst.mono (λk _ hk=>lH hk.1 hk.2) (λ_ e=>e.elim)) (λk ob hm'=>q8 hw hH hm') (Ho Ma hs hc1 (by omega) ?_ ?_)
        ·cases mx<;>simp<;>omega
        ·intro Ss;cases mx<;>simp at Ss ⊢;exact Ss
       ·simp at h
     ·simp at h
    ·simp at h
   ·simp at h
  ·simp at h
 ·simp at h
end
end Go.Abs
namespace Go.Abs
open Go
theorem Qm (n:Nat):∀(r c:Nat),Builtin.growBy n r c<=max c (n+(n+768)/ 4):=by
 intro r;induction r with
 |zero=>intro c;simp only[Builtin.growBy];omega
 | succ r ih=>
   intro c
   simp only[Builtin.growBy]
   split
   · omega
   · have:=ih (c+(c+768)/ 4)
     omega
theorem nextslicecap_le {n c:Nat}(h:c<n):Builtin.nextslicecap n c<=2*n:=by
 unfold Builtin.nextslicecap;split
 ·omega
 ·split
  ·omega
  ·have:=Qm n 4 c;omega
section
variable {C:cE}{f:FuncId}{nm:Nm}{H:Heap}{slots:List TV}{a:Act}{w:World}{G:Gh}{v:TV}
theorem WF.drew (hw:WF G w):WF G w.drew:=⟨hw.F,hw.inj,hw.lt⟩
theorem iH (hw:WF G w)(W N:Nm->Prop):Step W N G w G w.drew:=
 ⟨.refl G,hw.drew,λ_ _ _=>⟨rfl,rfl⟩,λ_ _ _=>⟨rfl,λ_=>rfl⟩,λ_ h=>.inl h,λk h=>.inl ⟨k,h,rfl,.inl rfl⟩,Nat.le_refl _,rfl,rfl,rfl⟩
theorem HR.drew (hH:HR G w H):HR G w.drew H:=by
 intro k o hk;obtain⟨d,ho⟩:=hH k o hk;refine⟨d, ?_⟩;cases o<;>exact ho
theorem VT.F9 {es:List Tree}{b:Option Addr}{len cap size:Nat}(hw:WF G w)(hv:VT G.F (.sl es) (.slice b len cap))(hs:jF size es=true){n:Nat}(hn:n<=len):
 ∃us:Array Value,(Builtin.firstCells size n (.slice b len cap)).run C.P w=.ok us w/\cv G (((flat es).map .t).take (n*size)) us.toList:=by
 cases hv with
 | Al b c=>
   have:n=0:=by omega
   subst this
   refine⟨#[], ?_,by simp[flat];exact cv.nil G⟩
   cases b with
   |none=>simp[Builtin.firstCells]
   | some b=>
     have:=ng (P:=C.P) (w:=w) (b:=b.block) (o:=b.off) [] (by simp)
     simp[Builtin.firstCells,loadCells,loadCellsFrom]
 | sl bx _ b o _ vals hne hc hu hF Oz=>
   have hsz:bx=size:=by
     cases es with
     |nil=>exact absurd rfl hne
     |cons x r=>simp[jF] at hs;rw[← hs];exact(hu x List.mem_cons_self).symm
   subst hsz
   have hfl:(flat es).length=es.length*bx:=fu hu
   have hle:n*bx<=(flat es).length:=by rw[hfl];exact Nat.mul_le_mul_right _ hn
   refine⟨((List.range (n*bx)).map vals).toArray, ?_, ?_⟩
   · have:=ng (P:=C.P) (w:=w) (b:=b) (o:=o) ((List.range (n*bx)).map vals) (λj u hj=>by
       have hjl:j<n*bx:=by have:=(List.getElem?_eq_some_iff.1 hj).1;simpa using this
       simp[hjl] at hj
       subst hj
       obtain⟨vs,ty,fr,h1,h2⟩:=hw.F _ _ _ (hF j _ (List.getElem?_eq_getElem (by omega)))
       rw[cell_of h1];exact h2)
     simp only[List.length_map,List.length_range] at this
     exact this
   · refine⟨by simp only[List.length_map,List.length_range,List.length_take,List.toList_toArray];omega,λj c u h1 h2=> ?_⟩
     have hjl:j<n*bx:=by have:=(List.getElem?_eq_some_iff.1 h2).1;simpa using this
     simp[hjl] at h2
     subst h2
     rw[List.getElem?_take,if_pos hjl,List.getElem?_map,List.getElem?_eq_getElem (by omega)] at h1
     simp at h1
     subst h1
     exact .t _ _ (Oz j _ (List.getElem?_eq_getElem (by omega)))
theorem sP {g:Bool}{size m:Nat}{x:Value}{p:TV}{cs:List TV}(hw:WF G w)(hH:HR G w H)(hp:VR G p x)(h:eB H g size p=some (m,cs)):
 (Builtin.lenOf x).run C.P w=.ok m w/\cs.length=m*size/\∀n,n<=m->∃us:Array Value,(Builtin.firstCells size n x).run C.P w=.ok us w/\cv G (cs.take (n*size)) us.toList:=by
 unfold eB at h
 split at h
 ·simp at h;obtain⟨rfl,rfl⟩:=h;cases hp;exact⟨rfl,by simp,λn hn=>⟨#[],rfl,by simp;exact cv.nil G⟩⟩
 ·rename_i es;split at h<;>simp at h;rename_i hs;obtain⟨rfl,rfl⟩:=h;have hpt:=hp.tree;have hlen:(flat es).length=es.length*size:=by
   cases hpt with
   |Al=>simp[flat]
   | sl bx _ b o _ vals hne hc hu hF Oz=>
     have hsz:bx=size:=by
       cases es with
       |nil=>exact absurd rfl hne
       |cons x r=>simp[jF] at hs;rw[← hs];exact(hu x List.mem_cons_self).symm
     subst hsz
     exact fu hu
  have hx:∃b cap,x=.slice b es.length cap:=by cases hpt<;>exact⟨_,_,rfl⟩
  obtain⟨b,cap,rfl⟩:=hx;exact⟨rfl,by simpa using hlen,λn hn=>hpt.F9 hw hs hn⟩
 ·rename_i es;split at h<;>simp at h;rename_i hs;obtain⟨rfl,rfl⟩:=h;cases hp with|mB _ b hpt=>
  have hlen:(flat es).length=es.length*size:=by
   cases hpt with
   |Al=>simp[flat]
   | sl bx _ b o _ vals hne hc hu hF Oz=>
     have hsz:bx=size:=by
       cases es with
       |nil=>exact absurd rfl hne
       |cons x r=>simp[jF] at hs;rw[← hs];exact(hu x List.mem_cons_self).symm
     subst hsz
     exact fu hu
  exact⟨rfl,by simpa using hlen,λn hn=>hpt.F9 hw hs hn⟩
 ·rename_i k off len;split at h
  ·rename_i g' e fz cs' hro;split at h<;>simp at h;rename_i xb;subst xb;obtain⟨rfl,rfl⟩:=h;obtain⟨cap,vs,ty,fr,b,ql,har,JG,o6,hsz,hlc,hv,hf,rfl,hcap,hb⟩:=sO hH hro hp;obtain⟨hk,hpos,htip⟩:=kU hro;have hmul:(off+len) *e=off*e+len*e:=Nat.add_mul _ _ _;refine⟨rfl,by simp;omega,λn hn=> ?_⟩;have hne:n*e<=len*e:=Nat.mul_le_mul_right _ hn;refine⟨((vs.toList.drop (off*e)).take (n*e)).toArray, ?_, ?_⟩
   ·by_cases h0:n=0
    ·subst h0;cases b with
     |none=>simp[Builtin.firstCells]
     |some b=>simp[Builtin.firstCells,loadCells,loadCellsFrom]
    ·rw[ hb (by omega)];have:=ng (P:=C.P) (w:=w) (b:=G.mu k) (o:=off*e) ((vs.toList.drop (off*e)).take (n*e)) (λj u hj=>by
      rw[List.getElem?_take] at hj;split at hj
      ·rw[List.getElem?_drop] at hj;rw[cell_of JG];simpa using hj
      ·simp at hj)
     have hl:((vs.toList.drop (off*e)).take (n*e)).length=n*e:=by simp;omega
     rw[hl] at this;exact this
   ·have h1:=(hv.drop (off*e)).take (n*e);have e1:((vs.toList.take cs'.length).drop (off*e)).take (n*e)=(vs.toList.drop (off*e)).take (n*e):=by
     apply List.ext_getElem?;intro i;simp only[List.getElem?_take,List.getElem?_drop];by_cases c:i<n*e
     ·rw[if_pos c,if_pos c,if_pos (by omega)]
     ·rw[if_neg c,if_neg c]
    rw[e1] at h1;exact h1
  ·simp at h
 ·rename_i s;split at h<;>simp at h;rename_i hc;obtain⟨hc1,eE⟩:=hc;subst hc1;obtain⟨rfl,rfl⟩:=h;have:=hp.str;subst this;refine⟨by simp[Builtin.lenOf,ByteArray.size],by simp,λn hn=>⟨_,rfl, ?_⟩⟩;have e:((ByteArray.mk s.toArray).extract 0 n).data.toList=s.take n:=by
   rw[Go.Lib.extract_data];simp
  rw[Nat.mul_one];have e2:((((ByteArray.mk s.toArray).extract 0 n).data.map λb=>Value.int .u8 (b.toNat:Int)).toList)=(s.take n).map λb=>Value.int .u8 (b.toNat:Int):=by
   rw[Array.toList_map,e]
  rw[e2];refine⟨by simp,λj c u h1 h2=> ?_⟩;rw[← List.map_take,List.getElem?_map] at h1;rw[List.getElem?_map] at h2;cases hj:(s.take n)[j]? with
  |none=>rw[hj] at h1;simp at h1
  | some b=>
    rw[hj] at h1 h2
    simp at h1 h2
    subst h1;subst h2
    exact .t _ _ (.int _ _)
 ·simp at h
def Gh.grow (G:Gh)(k:Nm)(b:Nat)(ar:Nat×Nat×Nat):Gh:=
 {G with mu:=λx=>if x=k then b else G.mu x,arr:=λx=>if x=k then some ar else G.arr x}
theorem nh {k:Nm}{n e c n' c':Nat}(b:Nat)(ha:G.arr k=some (n,e,c))(hlt:n<n'):G.le (G.grow k b (n',e,c')):=by
 refine⟨λ_ _ _ h=>h,λ_ d=>d,λx d a=> ?_,λx m e' c0 d a=> ?_⟩
 ·have:x≠k:=by intro e;subst e;rw[ha] at a;simp at a
  simp[Gh.grow,this,a]
 ·by_cases hx:x=k
  ·subst hx;rw[ha] at a;simp at a;obtain⟨rfl,rfl,rfl⟩:=a;exact⟨n',_,c',by simp[Gh.grow],Nat.le_of_lt hlt,λe=>by omega,.inl rfl⟩
  ·exact⟨m,_,c0,by simp[Gh.grow,hx,a],Nat.le_refl _,λ_=>⟨rfl,rfl,by simp[Gh.grow,hx]⟩,.inl rfl⟩
theorem grow_step (hw:WF G w){k:Nm}{n e c n':Nat}(ha:G.arr k=some (n,e,c))(hlt:n<n')(N:Nm->Prop):Step (λx=>x=k) N G w (G.grow k (G.mu k) (n',e,c)) w:=by
 have Bk:∀x,(G.grow k (G.mu k) (n',e,c)).mu x=G.mu x:=by intro x;simp only[Gh.grow];split<;>simp_all
 refine⟨nh _ ha hlt,⟨hw.F,λx y dx dy ax ay e=>hw.inj x y dx dy ((nh _ ha hlt).alive dx ax) ((nh _ ha hlt).alive dy ay) (by rw[Bk,Bk] at e;exact e),λx d=>by rw[Bk];exact hw.lt x d⟩,λx d hn=>⟨Bk x,by simp[Gh.grow,hn]⟩,λ_ _ _=>⟨rfl,λ_=>rfl⟩,λ_ d=>.inl d,λx d=>.inl ⟨x,d,Bk x,.inl rfl⟩,Nat.le_refl _,rfl,rfl,rfl⟩
theorem Ga (hw:WF G w){k:Nm}{n e c n' c':Nat}(ha:G.arr k=some (n,e,c))(hlt:n<n')(o:Obj)(N:Nm->Prop):Step (λx=>x=k) N G w (G.grow k w.heap.size (n',e,c')) (World.cN w o):=by
 refine⟨nh _ ha hlt,⟨λb p u h=> ?_,λx y dx dy ax ay he=> ?_,λx d=> ?_⟩,λx d hn=>by simp[Gh.grow,hn],λb hb _=>⟨kT hb,λ_=>rfl⟩,λ_ d=>.inl d,λx d=> ?_,by simp[World.cN],rfl,rfl,rfl⟩
 ·obtain⟨vs,ty,fr,h1,h2⟩:=hw.F b p u h;exact⟨vs,ty,fr,by rw[kT (Array.getElem?_eq_some_iff.1 h1).1];exact h1,h2⟩
 ·simp only[Gh.grow] at he dx dy;by_cases hx:x=k<;>by_cases hy:y=k
  ·rw[hx,hy]
  ·rw[if_pos hx,if_neg hy] at he;have:=hw.lt y dy;omega
  ·rw[if_neg hx,if_pos hy] at he;have:=hw.lt x dx;omega
  ·rw[if_neg hx,if_neg hy] at he;exact hw.inj x y dx dy ((nh _ ha hlt).alive dx ax) ((nh _ ha hlt).alive dy ay) he
 ·simp only[Gh.grow] at d ⊢;show _<(w.heap.push o).size;rw[Array.size_push];split
  ·omega
  ·have:=hw.lt x d;omega
 ·simp only[Gh.grow] at d ⊢;by_cases hx:x=k
  ·exact .inr (by rw[if_pos hx];exact Nat.le_refl _)
  ·exact .inl ⟨x,d,by rw[if_neg hx],.inl rfl⟩
theorem nR {elem st xt:TypeId}{ti tx te:TI}{z:TV}{b:Option Addr}{sLen sCap m:Nat}{r:TypeId}{x:Value}{olds news:Array Value}(C0:aW C.P st=some ti)(hd:ti.desc=.slice elem)(W6:aW C.P xt=some tx)
 (Jl:(∃e,tx.desc=.slice e)\/tx.desc=.string)(hte:aW C.P elem=some te)(hz:te.zero=some z)(hzl:z.cells.length=te.size)(hb0:te.bytes≠0)
 (hlen:(Builtin.lenOf x).run C.P w=.ok m w)(hnew:(Builtin.firstCells te.size m x).run C.P w.drew=.ok news w.drew)
 (hold:(Builtin.firstCells te.size sLen (.slice b sLen sCap)).run C.P w.drew=.ok olds w.drew)(hgt:sCap<sLen+m)(Hp:(sLen+m) *te.bytes<=eC):
 ∃ eR,sLen+m<=eR/\∃rest:Array Value,rest.size=(eR - (sLen+m)) *te.size/\
  (Builtin.append_ #[st,xt] r #[.slice b sLen sCap,x]).run C.P w=.ok (.slice (some ⟨w.heap.size,0,none⟩) (sLen+m) eR) (World.cN w.drew (.cells (olds++news++rest) elem)):=by
 obtain⟨_,_,hu,_⟩:=bt C0
 rw[hd] at hu
 obtain⟨_,_,hux,_⟩:=bt W6
 obtain⟨i,hi,_,_,hbytes,_⟩:=bt hte
 obtain⟨zv,hz1,Fi⟩:=ez hte hz w.drew ⟨λ_ _=>none,λ_=>0,λ_=>none,λ_=>False⟩
 have hzs:zv.cells.size=te.size:=by have:=(Fi.cells (oq hte hz)).1;simp at this;omega
 refine⟨(Question.appendCap (sLen+m) sCap elem).cut (w.tape w.drawn (Question.appendCap (sLen+m) sCap elem)), ?_,Builtin.zeroCells zv.cells ((Question.appendCap (sLen+m) sCap elem).cut (w.tape w.drawn (Question.appendCap (sLen+m) sCap elem)) - (sLen+m)), ?_, ?_⟩
 ·show sLen+m<=sLen+m+_;omega
 ·simp[Builtin.zeroCells,hzs]
 ·have kL:∀w,(underlying st).run C.P w=.ok (.slice elem) w:=λw=>aH hu w
  have Mb:∀w,(underlying xt).run C.P w=.ok tx.desc w:=λw=>aH hux w
  have hsz:∀w,(sizeOf elem).run C.P w=.ok te.size w:=λw=>dO hte w
  have SA:∀w,(typeInfo elem).run C.P w=.ok i w:=λw=>om hi w
  have hnc:=nextslicecap_le hgt;have Xo:¬(281474976710656<Builtin.nextslicecap (sLen+m) sCap*i.bytes):=by
   rw[hbytes];have h1:Builtin.nextslicecap (sLen+m) sCap*te.bytes<=2* (sLen+m) *te.bytes:=Nat.mul_le_mul_right _ hnc;have h2:2* (sLen+m) *te.bytes=2* ((sLen+m) *te.bytes):=Nat.mul_assoc _ _ _;unfold eC at Hp;omega
  have hb1:¬i.bytes=0:=by rw[hbytes];exact hb0
  have hq:(Question.appendCap (sLen+m) sCap elem).forced=false:=rfl;have acZ:¬sLen+m<=sCap:=by omega
  rcases Jl with ⟨e,Jl⟩|Jl<;>rw[Jl] at Mb
  ·simp[Builtin.append_,kL,Mb,hsz,hlen,SA,acZ,hb1,Xo,hq,hold,hnew,hz1,iU,World.cN];rfl
  ·simp[Builtin.append_,kL,Mb,hsz,hlen,SA,acZ,hb1,Xo,hq,hold,hnew,hz1,iU,World.cN];rfl
theorem uX {elem st xt:TypeId}{ti tx te:TI}{b:Option Addr}{sLen sCap m:Nat}{r:TypeId}{x:Value}{news:Array Value}{w':World}(C0:aW C.P st=some ti)(hd:ti.desc=.slice elem)(W6:aW C.P xt=some tx)
 (Jl:(∃e,tx.desc=.slice e)\/tx.desc=.string)(hte:aW C.P elem=some te)
 (hlen:(Builtin.lenOf x).run C.P w=.ok m w)(hnew:(Builtin.firstCells te.size m x).run C.P w=.ok news w)(hle:sLen+m<=sCap)
 (hst:∀ad,b=some ad->(storeCells (ad.add (sLen*te.size)) news.toList).run C.P w=.ok () w')(hnn:b=none->w'=w):
 (Builtin.append_ #[st,xt] r #[.slice b sLen sCap,x]).run C.P w=.ok (.slice b (sLen+m) sCap) w':=by
 obtain⟨_,_,hu,_⟩:=bt C0
 rw[hd] at hu
 obtain⟨_,_,hux,_⟩:=bt W6
 have kL:=aH hu w
 have Mb:=aH hux w
 have hsz:=dO hte w
 rcases Jl with ⟨e,Jl⟩|Jl<;>rw[Jl] at Mb<;>cases b with
 |none=>have:=hnn rfl;subst this;simp[Builtin.append_,kL,Mb,hsz,hlen,hnew,hle]
 |some ad=>simp[Builtin.append_,kL,Mb,hsz,hlen,hnew,hle,hst ad rfl]
theorem JH {o:Oper}{b:Builtin}{args:Array Operand}{ats:Array TypeId}{r:Value}{w':World}(ho:o.op=.call {callee:=.builtin .append,args,argTypes:=ats})
 (h:(Builtin.append_ ats o.type (args.map a.eval)).run C.P w=.ok r w'):(execOp a.eval o).run C.P w=.ok (.value r) w':=by
 simp[execOp,ho,resolve,invoke,builtin,h]
theorem Mc {o         : Oper}{args:Array Operand}{ats:Array TypeId}{st xt:TypeId}{s x:TV}{u:List (Nm×aK)}(hw:WF G w)(hH:HR G w H)(hn:¬G.dom nm)(ho:o.op=.call {callee:=.builtin .append,args,argTypes:=ats})
 (hat:ats.toList=[st,xt])(hargs:cv G [s,x] (args.map a.eval).toList)(h:jx C.P nm H st xt s x=some (v,u)):cB C.P nm o a w G v u:=by
 have Hq:ats= #[st,xt]:=by rw[← Array.toArray_toList (xs:=ats),hat]
 obtain⟨sv,rest,C1,hs,mD⟩:=hargs.gq
 obtain⟨xv,SB,he2,hx,C2⟩:=mD.gq
 have hr2:SB=[]:=by have:=C2.1;simpa using this
 subst hr2
 subst he2
 have R5:args.map a.eval= #[sv,xv]:=by rw[← Array.toArray_toList (xs:=args.map a.eval),C1]
 have iP:∀r w',(Builtin.append_ #[st,xt] o.type #[sv,xv]).run C.P w=.ok r w'->(execOp a.eval o).run C.P w=.ok (.value r) w':=λr w' hr=>JH (b:=.append) ho (by rw[Hq,R5];exact hr)
 clear C2 mD C1 R5 hat
 unfold jx at h
 cases C0:aW C.P st<;>cases W6:aW C.P xt<;>simp only[C0,W6,reduceCtorEq] at h
 rename_i ti tx
 split at h
 ·rename_i elem hd ac0;have Jl:(∃e,tx.desc=.slice e)\/tx.desc=.string:=by
   split at ac0
   ·rename_i e hh;exact .inl ⟨e,hh⟩
   ·rename_i hh;exact .inr hh
   ·simp at ac0
  cases hte:aW C.P elem<;>simp only[hte,reduceCtorEq] at h;rename_i te;cases hz:te.zero<;>simp only[hz,reduceCtorEq] at h;rename_i z;split at h
  ·simp at h
  ·rename_i SC;simp only[not_or,Decidable.not_not] at SC;obtain⟨hs0,hzl,hb0⟩:=SC;have hpos:0<te.size:=by omega
   split at h
   ·rename_i m cs hsrc;obtain⟨Jm,hcl,hfc⟩:=sP (C:=C) hw hH hx hsrc;obtain⟨news,C3,C4⟩:=hfc m (Nat.le_refl _);obtain⟨aj8,_,ahE⟩:=sP (C:=C) hw.drew hH.drew hx hsrc;rw[List.take_of_length_le (by omega)] at C4;split at h
    ·rename_i hm0;subst hm0;have hnil:news= #[]:=by
      have h1:=C4.1;have:cs=[]:=List.length_eq_zero_iff.1 (by omega);subst this;simp at h1;exact h1
     subst hnil;have fit:∀(b:Option Addr) (sLen sCap:Nat),sLen<=sCap->sv=.slice b sLen sCap->(execOp a.eval o).run C.P w=.ok (.value (.slice b sLen sCap)) w:=by
      intro b sLen sCap hle hsv;subst hsv;exact iP _ _ (uX C0 hd W6 Jl hte Jm C3 (by omega) (λad _=>by simp[storeCells]) (λ_=>rfl))
     split at h
     ·simp at h;obtain⟨rfl,rfl⟩:=h;cases hs;exact cB.quiet hw (fit none 0 0 (Nat.le_refl _) rfl) .bX
     ·rename_i es;simp at h;obtain⟨rfl,rfl⟩:=h;have hst:=hs.tree;cases hst with
      |Al b c=>exact cB.quiet hw (fit b 0 c (by omega) rfl) (.t _ _ (.Al b c))
      |sl e es b o cap vals h1 h2 h3 h4 h5=>exact cB.quiet hw (fit _ _ cap h2 rfl) (.t _ _ (.sl e es b o cap vals h1 h2 h3 h4 h5))
     ·rename_i es;simp at h;obtain⟨rfl,rfl⟩:=h;cases hs with|mB _ b hst=>exact cB.quiet hw (fit b _ _ (Nat.le_refl _) rfl) (.mB es b hst)
     ·rename_i k off len;split at h<;>simp at h;rename_i hro;obtain⟨rfl,rfl⟩:=h;obtain⟨⟨g,bx,fz,cs'⟩,hro⟩:=Option.isSome_iff_exists.1 hro;obtain⟨cap,vs,ty,fr,b,ql,har,JG,o6,hsz,hlc,hv,hf,rfl,hcap,hb⟩:=sO hH hro hs;exact cB.quiet hw (fit b len (cap - off) (by omega) rfl) hs
     ·simp at h
    ·rename_i hm0;split at h
     ·rename_i hlf;have JI:=ru C4 hlf;obtain⟨pP,aaE,JJ⟩:=ahE m (Nat.le_refl _);rw[List.take_of_length_le (by omega)] at JJ;split at h
      ·split at h<;>simp at h;rename_i Hp;obtain⟨rfl,rfl⟩:=h;cases hs;obtain⟨eR,hnc,rest,mD,hrun⟩:=nR (sLen:=0) (sCap:=0) (b:=none) (r:=o.type) (olds:= #[]) C0 hd W6 Jl hte hz hzl hb0 Jm aaE (by simp[Builtin.firstCells]) (by omega) (by simpa using Hp);have hvl:(pP.toList++rest.toList).length=eR*te.size:=by
        have h1:=JJ.1;have h2:eR*te.size=m*te.size+(eR - m) *te.size:=by rw[← Nat.add_mul];congr 1;omega
        have h3:rest.toList.length=(eR - m) *te.size:=by simpa using mD
        rw[List.length_append,h3,h1,hcl,h2]
       have xT:=yL (nm:=nm) (b:=te.agg) (cap:=eR) (w:=w.drew) hw.drew hn hpos (cs:=cs) (vs:=pP.toList++rest.toList) (by rw[List.take_append_of_le_length (by rw[JJ.1];exact Nat.le_refl _),List.take_of_length_le (by rw[JJ.1];exact Nat.le_refl _)];exact JJ) hvl (by have h9:=JJ.1;simp only[List.length_append] at h9 ⊢;omega) elem;have CX:(pP.toList++rest.toList).toArray= #[]++pP++rest:=by simp
       rw[CX] at xT;refine cB.eD (iP _ _ hrun) (((iH hw (λ_=>False) (λ_=>False)).trans (ko (w:=w.drew) hw.drew hn _ (some (cs.length,te.size,eR)) (λ_=>False))).mono (λ_ _ hh=>by simp at hh) (λ_ hh=>by simpa using hh)) ?_ ?_
       ·intro k ob hm;simp at hm;obtain⟨rfl,rfl⟩:=hm;exact xT
       ·have:=wk (w:=w.drew) (nm:=nm) (bx:=te.size) (cap:=eR) (n:=cs.length) (len:=m) (by rw[hcl]) hn;simpa using this
      ·rename_i es;split at h
       ·rename_i n old hold;split at h<;>simp at h;rename_i Hp;obtain⟨rfl,rfl⟩:=h;obtain⟨hlo,hol,hfo⟩:=sP (C:=C) hw.drew hH.drew hs hold;cases hs with|mB _ b hst=>
        have ahF:n=es.length:=by
         simp only[eB] at hold;split at hold<;>simp at hold;exact hold.1.symm
        subst ahF;obtain⟨yN,ho1,Md⟩:=hfo es.length (Nat.le_refl _);rw[List.take_of_length_le (by omega)] at Md;obtain⟨eR,hnc,rest,mD,hrun⟩:=nR (sLen:=es.length) (sCap:=es.length) (b:=b) (r:=o.type) (olds:=yN) C0 hd W6 Jl hte hz hzl hb0 Jm aaE ho1 (by omega) Hp;have uY:=Md.append JJ;have hbl:(yN.toList++pP.toList).length=(es.length+m) *te.size:=by rw[uY.1,List.length_append,hol,hcl,Nat.add_mul]
        have hvl:(yN.toList++pP.toList++rest.toList).length=eR*te.size:=by
         have h2:eR*te.size=(es.length+m) *te.size+(eR - (es.length+m)) *te.size:=by rw[← Nat.add_mul];congr 1;omega
         have h3:rest.toList.length=(eR - (es.length+m)) *te.size:=by simpa using mD
         rw[List.length_append,h3,hbl,h2]
        have xT:=yL (nm:=nm) (b:=te.agg) (cap:=eR) (w:=w.drew) hw.drew hn hpos (cs:=old++cs) (vs:=yN.toList++pP.toList++rest.toList) (by rw[List.take_append_of_le_length (by rw[uY.1];exact Nat.le_refl _),List.take_of_length_le (by rw[uY.1];exact Nat.le_refl _)];exact uY) hvl (by have h9:=uY.1;simp only[List.length_append] at h9 ⊢;omega) elem;have CX:(yN.toList++pP.toList++rest.toList).toArray=yN++pP++rest:=by simp
        rw[CX] at xT;refine cB.eD (iP _ _ hrun) (((iH hw (λ_=>False) (λ_=>False)).trans (ko (w:=w.drew) hw.drew hn _ (some ((old++cs).length,te.size,eR)) (λ_=>False))).mono (λ_ _ hh=>by simp at hh) (λ_ hh=>by simpa using hh)) ?_ ?_
        ·intro k ob hm;simp at hm;obtain⟨rfl,rfl⟩:=hm;exact xT
        ·exact wk (w:=w.drew) (nm:=nm) (bx:=te.size) (cap:=eR) (n:=(old++cs).length) (len:=es.length+m) (by rw[List.length_append,hol,hcl,Nat.add_mul]) hn
       ·simp at h
      ·rename_i k len;split at h
       ·rename_i g e fz old hro;split at h<;>simp at h;rename_i hc;obtain⟨he,hg1,Hp⟩:=hc;subst he;obtain⟨rfl,rfl⟩:=h;obtain⟨hk,ac1,htip⟩:=kU hro;obtain⟨cap,vs,ty,fr,b,ql,har,JG,o6,hsz,hlc,hv,hf,rfl,hcap,hb⟩:=sO hH hro hs;simp only[Nat.zero_add,Nat.sub_zero,Nat.zero_mul] at*;have hml:old.length<(old++cs).length:=by
         rw[List.length_append,hcl];have:0<m*te.size:=Nat.mul_pos (by omega) hpos;omega
        have hnl:(old++cs).length=(len+m) *te.size:=by rw[List.length_append,hcl,← htip,Nat.add_mul]
        by_cases hfit:len+m<=cap
        ·have hb':=hb (by omega);subst hb';have hle2:(len+m) *te.size<=cap*te.size:=Nat.mul_le_mul_right _ hfit;have SD:old.length+news.toList.length<=vs.toList.length:=by
          rw[C4.1];have:(old++cs).length<=vs.size:=by rw[hnl,hsz];exact hle2
          simpa using this
         have hst:=jI (P:=C.P) (b:=G.mu k) (o:=len*te.size) (ty:=ty) (fr:=fr) news.toList w 0 vs.toList JI (by simpa using JG) (by simpa using o6.1) (by simpa [htip] using SD);simp only[Nat.add_zero,htip] at hst;have hrun:=uX (r:=o.type) (b:=some ⟨G.mu k,0,none⟩) C0 hd W6 Jl hte Jm C3 hfit (λad had=>by simp at had;subst had;rw[nx,Nat.zero_add,htip];exact hst) (λhh=>by simp at hh);have s1:=iV (vs:=over vs.toList old.length news.toList) hw ql (Gh.iD har ac1) JG (λq ⟨uu,hq⟩=>by
          have hql:q<old.length:=by
           rcases Nat.lt_or_ge q old.length with h|h
           ·exact h
           ·rw[hf q (.inr h)] at hq;simp at hq
          unfold over;rw[List.append_assoc,List.getElem?_append_left (by simp;omega),List.getElem?_take,if_pos hql];simp)
         have ahG:G.arr k=some (old.length,te.size,cap):=har;have s2:=grow_step (n':=(old++cs).length) s1.wf ahG hml (λ_=>False);refine cB.eD (iP _ _ hrun) ((s1.trans s2).mono (λq _ hq=>by simpa using hq) (λ_ hq=>by simp at hq)) ?_ ?_
         ·intro k' ob hm;simp at hm;obtain⟨rfl,rfl⟩:=hm;have Bk:(G.grow k' (G.mu k') ((old++cs).length,te.size,cap)).mu k'=G.mu k':=by simp[Gh.grow]
          have hol:(over vs.toList old.length news.toList).length=vs.toList.length:=ei SD;refine⟨ql,hpos,cap,(over vs.toList old.length news.toList).toArray,ty,fr,by simp[Gh.grow],by rw[Bk];exact cM (hw.lt _ ql) _ _ _,⟨?_,o6.2⟩,by simpa [hol] using hsz, ?_, ?_, ?_⟩
          ·intro q hq;exact o6.1 q (by simp[hol] at hq;simpa using hq)
          ·rw[List.size_toArray,hol];have:=SD;rw[C4.1] at this;simpa using this
          ·have e1:((over vs.toList old.length news.toList).toArray.toList).take (old++cs).length=vs.toList.take old.length++news.toList:=by
            unfold over;rw[List.toList_toArray,List.take_append_of_le_length (by simp[C4.1.symm];omega),List.take_of_length_le (by simp[C4.1.symm];omega)]
           rw[e1];exact(hv.append C4).mono (nh _ har hml)
          ·intro q hq;rw[Bk];refine hf q (hq.imp id (λhh=>by omega))
         ·refine .ref k 0 (len+m) (old++cs).length te.size cap _ ql (by simp[Gh.grow]) (by rw[Nat.zero_add,hnl];exact Nat.le_refl _) ⟨_,_,rfl⟩ λ_=>⟨_,by simp;rfl,λ_=>by simp[Gh.grow]⟩
        ·have ac2:VR G (.ref k 0 len) (.slice b len cap):=hs;obtain⟨hlo,_,hfo⟩:=sP (C:=C) (g:=g.2) hw.drew hH.drew (p:=.ref k 0 len) (size:=te.size) (m:=len) (cs:=old) ac2 (by simp[eB,hro]);obtain⟨yN,ho1,Md⟩:=hfo len (Nat.le_refl _);rw[List.take_of_length_le (by omega)] at Md;obtain⟨eR,hnc,rest,mD,hrun⟩:=nR (sLen:=len) (sCap:=cap) (b:=b) (r:=o.type) (olds:=yN) C0 hd W6 Jl hte hz hzl hb0 Jm aaE ho1 (by omega) Hp;have uY:=Md.append JJ;have hbl:(yN.toList++pP.toList).length=(len+m) *te.size:=by rw[uY.1,hnl]
         have hvl:(yN.toList++pP.toList++rest.toList).length=eR*te.size:=by
          have h2:eR*te.size=(len+m) *te.size+(eR - (len+m)) *te.size:=by rw[← Nat.add_mul];congr 1;omega
          have h3:rest.toList.length=(eR - (len+m)) *te.size:=by simpa using mD
          rw[List.length_append,h3,hbl,h2]
         have hst:=Ga (w:=w.drew) (c':=eR) hw.drew har hml (.cells (yN++pP++rest) elem) (λ_=>False);refine cB.eD (iP _ _ hrun) (((iH hw (λ_=>False) (λ_=>False)).trans hst).mono (λq _ hq=>by simpa using hq) (λ_ hq=>by simp at hq)) ?_ ?_
         ·intro k' ob hm;simp at hm;obtain⟨rfl,rfl⟩:=hm;have Bk:(G.grow k' w.drew.heap.size ((old++cs).length,te.size,eR)).mu k'=w.drew.heap.size:=by simp[Gh.grow]
          have CX:(yN++pP++rest).toList=yN.toList++pP.toList++rest.toList:=by simp
          refine⟨ql,hpos,eR,yN++pP++rest,elem,(0,0),by simp[Gh.grow],by rw[Bk];exact jK _ _,⟨λq _ hq=>by omega,hg1.symm,λ_=>rfl⟩,by rw[← Array.length_toList,CX];exact hvl,by have h9:=uY.1;rw[← Array.length_toList,CX];simp only[List.length_append] at h9 ⊢;omega, ?_, ?_⟩
          ·rw[CX,List.take_append_of_le_length (by rw[uY.1];exact Nat.le_refl _),List.take_of_length_le (by rw[uY.1];exact Nat.le_refl _)];exact uY.mono (nh _ har hml)
          ·intro q _;rw[Bk];exact hw.drew.JD q
         ·refine .ref k 0 (len+m) (old++cs).length te.size eR _ ql (by simp[Gh.grow]) (by rw[Nat.zero_add,hnl];exact Nat.le_refl _) ⟨_,_,rfl⟩ λ_=>⟨_,by simp;rfl,λ_=>by simp[Gh.grow]⟩
       ·simp at h
      ·simp at h
     ·simp at h
   ·simp at h
 ·simp at h
end
end Go.Abs
namespace Go.Abs
open Go
section
variable {C:cE}{f:FuncId}{nm:Nm}{H:Heap}{slots:List TV}{a:Act}{w:World}{G:Gh}{v:TV}
theorem Fj {o:Oper}{t:TypeId}{pl pc:Operand}{l c:TV}{u:List (Nm×aK)}(hw:WF G w)(hn:¬G.dom nm)(ho:o.op=.makeSlice t pl pc)(hl:VR G l (a.eval pl))(hc:VR G c (a.eval pc))
 (h:xP C.P nm t l c=some (v,u)):cB C.P nm o a w G v u:=by
 unfold xP at h
 cases ht:aW C.P t<;>cases hli:eT l<;>cases hci:eT c<;>simp only[ht,hli,hci,reduceCtorEq] at h
 rename_i ti ln cn
 obtain⟨kl,hlv⟩:=pO hl hli
 obtain⟨kc,hcv⟩:=pO hc hci
 obtain⟨_,_,hu,_⟩:=bt ht
 split at h
 ·rename_i elem hd;rw[hd] at hu;have kL:=aH hu w;cases hte:aW C.P elem<;>simp only[hte,reduceCtorEq] at h;rename_i te;obtain⟨i,hi,_,_,hbytes,_⟩:=bt hte;have SA:=om hi w;cases hz:te.zero<;>simp only[hz,reduceCtorEq] at h;rename_i z;split at h
  ·rename_i hg;obtain⟨h1,h2,h3,h4,h5,h6⟩:=hg;simp at h;obtain⟨rfl,rfl⟩:=h;obtain⟨zv,hz1,Fi⟩:=ez hte hz w G;have hr:=CV Fi (oq hte hz) cn te.size h5 h4;have hsz:zv.cells.size=te.size:=by have:=(Fi.cells (oq hte hz)).1;simp at this;omega
   have hwrap:∀n:Nat,n<=eC->IntKind.i64.wrap (n:Int)=n:=by
    intro n hn;unfold eC at hn;exact Go.IntWalk.i64_in _ (by omega)
   have hcb:((cn:Int) * (te.bytes:Int):Int)<=70368744177664:=by
    have:((cn*te.bytes:Nat):Int)<=70368744177664:=by unfold eC at h2;omega
    simpa using this
   let cells:=((Array.range (cn*te.size)).map (zv.cells[· % zv.cells.size]!));have hrun:(execOp a.eval o).run C.P w=.ok (.value (.slice (some ⟨w.heap.size,0,none⟩) ln cn)) (World.cN w (.cells cells elem)):=by
    have hb:¬((te.bytes:Int) * (cn:Int)>281474976710656):=by rw[Int.mul_comm];omega
    have hroom:¬(cn*te.bytes>140737488355328):=by unfold eC at h2;omega
    have e1:IntKind.i64.wrap (ln:Int)=ln:=hwrap ln (by omega);have e2:IntKind.i64.wrap (cn:Int)=cn:=hwrap cn h3;have hb':¬(281474976710656<(i.bytes:Int) * (cn:Int)):=by rw[hbytes];exact hb
    have hc1:¬((cn:Int)<0):=by omega
    have eE:¬((ln:Int)<0):=by omega
    have gI:¬(cn<ln):=by omega
    have SE:¬(cn*i.bytes>2 ^ 47):=by rw[hbytes];exact hroom
    simp only[execOp,ho,hlv,hcv,Instr.makeSlice];by_cases h0:cn*te.size=0
    ·have e:((Array.range (cn*te.size)).map λ_=>(default:Value))=cells:=by simp only[cells];rw[h0];simp
     simp[kL,asInt,asIntOf,SA,e1,e2,dO hte w,iU,askRoom,roomBytes,hb',hc1,eE,gI,SE,h0];rw[← e,h0];rfl
    ·simp[kL,asInt,asIntOf,SA,e1,e2,dO hte w,iU,askRoom,roomBytes,hb',hc1,eE,gI,SE,h0,hz1];rfl
   have xT:=yL (nm:=nm) (b:=te.agg) (cap:=cn) (cs:=qO ln z.cells) hw hn h4 (vs:=cells.toList) (by
    have hlen:(qO ln z.cells).length=ln*te.size:=by rw[fq,h5]
    refine⟨?_,λj x y hx hy=> ?_⟩
    ·have:=hr.1;rw[List.length_take,this,fq,fq,h5];have:ln*te.size<=cn*te.size:=Nat.mul_le_mul_right _ h1;omega
    ·have hjl:j<ln*te.size:=by have:=(List.getElem?_eq_some_iff.1 hx).1;omega
     have hjc:j<cn*te.size:=Nat.lt_of_lt_of_le hjl (Nat.mul_le_mul_right _ h1);rw[List.getElem?_take,if_pos (by omega)] at hy;refine hr.2 j x y ?_ hy;rw[CU (by rw[h5];exact hjc),← CU (n:=ln) (by rw[h5];exact hjl)];exact hx) (by have:=hr.1;rw[this,fq,h5]) (by
      have:=hr.1;rw[this,fq,fq];exact Nat.mul_le_mul_right _ h1) elem
   rw[Array.toArray_toList] at xT;refine cB.eD hrun (ko hw hn _ (some ((qO ln z.cells).length,te.size,cn)) _) ?_ ?_
   ·intro k ob hm;simp at hm;obtain⟨rfl,rfl⟩:=hm;exact xT
   ·exact wk (by rw[fq,h5]) hn
  ·simp at h
 ·simp at h
theorem SF {o:Oper}{args:Array Operand}{ats:Array TypeId}{dt xt:TypeId}{d x:TV}{u:List (Nm×aK)}(hw:WF G w)(hH:HR G w H)(ho:o.op=.call {callee:=.builtin .copy,args,argTypes:=ats})
 (hat:ats.toList=[dt,xt])(hargs:cv G [d,x] (args.map a.eval).toList)(h:Sb C.P H dt d x=some (v,u)):cB C.P nm o a w G v u:=by
 have Hq:ats= #[dt,xt]:=by rw[← Array.toArray_toList (xs:=ats),hat]
 obtain⟨dv,rest,C1,hd',mD⟩:=hargs.gq
 obtain⟨xv,SB,he2,hx,C2⟩:=mD.gq
 have hr2:SB=[]:=by have:=C2.1;simpa using this
 subst hr2
 subst he2
 have R5:args.map a.eval= #[dv,xv]:=by rw[← Array.toArray_toList (xs:=args.map a.eval),C1]
 have iP:∀r w',(Builtin.copy_ #[dt,xt] o.type #[dv,xv]).run C.P w=.ok r w'->(execOp a.eval o).run C.P w=.ok (.value r) w':=λr w' hr=>by
  rw[← Hq,← R5] at hr;simp[execOp,ho,resolve,invoke,builtin,hr]
 clear C2 mD C1 R5 hat
 unfold Sb at h
 cases C0:aW C.P dt<;>simp only[C0,reduceCtorEq] at h
 rename_i ti
 obtain⟨_,_,hu,_⟩:=bt C0
 split at h
 ·rename_i elem hd;rw[hd] at hu;have kL:=aH hu w;cases hte:aW C.P elem<;>simp only[hte,reduceCtorEq] at h;rename_i te;have hsz:=dO hte w;split at h
  ·rename_i r hsrc;simp at h;obtain⟨rfl,rfl⟩:=h;obtain⟨m,cs⟩:=r;obtain⟨Jm,hcl,hfc⟩:=sP (C:=C) hw hH hx hsrc;obtain⟨us,C3,_⟩:=hfc 0 (by omega);cases hd';refine cB.quiet hw (iP (.int .i64 0) w ?_) (.t _ _ (.int _ _));simp[Builtin.copy_,kL,Jm,hsz,C3,goInt]
  ·rename_i k off len m cs hsrc;split at h
   ·rename_i g e old hro;split at h<;>simp at h;rename_i hc;obtain⟨xb,hlf⟩:=hc;subst xb;obtain⟨rfl,rfl⟩:=h;obtain⟨Jm,hcl,hfc⟩:=sP (C:=C) hw hH hx hsrc;obtain⟨us,C3,C4⟩:=hfc (min m len) (Nat.min_le_left _ _);obtain⟨hk,hpos,htip⟩:=kU hro;obtain⟨cap,vs,ty,fr,b,ql,har,JG,o6,aaF,hlc,hv,hf,rfl,hcap,hb⟩:=sO hH hro hd';have hml:(off+len) *te.size=off*te.size+len*te.size:=Nat.add_mul _ _ _;have hmin:min m len*te.size<=len*te.size:=Nat.mul_le_mul_right _ (Nat.min_le_right _ _);have Gb:min m len*te.size<=cs.length:=by rw[hcl];exact Nat.mul_le_mul_right _ (Nat.min_le_left _ _)
    have Ff:us.toList.length=min m len*te.size:=by rw[C4.1,List.length_take];omega
    have SD:off*te.size+us.toList.length<=vs.toList.length:=by rw[Ff];simp;omega
    have JI:=ru C4 (List.all_eq_true.2 λy hy=>List.all_eq_true.1 hlf y (List.mem_of_mem_take hy));have hst:=jI (P:=C.P) (b:=G.mu k) (o:=off*te.size) (ty:=ty) (fr:=fr) us.toList w 0 vs.toList JI (by simpa using JG) (by simpa using o6.1) (by simpa using SD);simp only[Nat.add_zero] at hst;have s1:=iV (vs:=over vs.toList (off*te.size) us.toList) hw ql (Gh.iD har hpos) JG (λq ⟨uu,hq⟩=>by rw[hf q (.inl rfl)] at hq;simp at hq);have hol:(over vs.toList (off*te.size) us.toList).length=vs.toList.length:=ei SD;have hrun:(Builtin.copy_ #[dt,xt] o.type #[.slice b len (cap - off),xv]).run C.P w=.ok (.int .i64 ((min m len:Nat):Int)) (World.bl w (G.mu k) (over vs.toList (off*te.size) us.toList).toArray ty fr):=by
     have hmn:Nat.min m len=min m len:=rfl;have ahH:(Builtin.firstCells te.size (Nat.min m len) xv).run C.P w=.ok us w:=C3;cases b with
     | none=>
       have h0:off=cap:=by
         rcases Nat.lt_or_ge off cap with h|h
         · have:=hb h;simp at this
         · omega
       have Oy:len=0:=by omega
       subst Oy
       have sN:us.toList=[]:=by apply List.length_eq_zero_iff.1;rw[Ff];simp
       rw[sN,uS,Array.toArray_toList,lD JG]
       have hf0:(Builtin.firstCells te.size 0 xv).run C.P w=.ok us w:=by simpa using C3
       simp[Builtin.copy_,kL,Jm,hsz,hf0,goInt]
     | some ad=>
       by_cases hlt:off<cap
       · have:=hb hlt
         simp at this
         subst this
         simp[Builtin.copy_,kL,Jm,hsz,ahH,hst,goInt]
       · have Oy:len=0:=by omega
         subst Oy
         have sN:us.toList=[]:=by apply List.length_eq_zero_iff.1;rw[Ff];simp
         have SG:us= #[]:=by rw[← Array.toArray_toList (xs:=us),sN]
         rw[sN,uS,Array.toArray_toList,lD JG]
         have hf0:(Builtin.firstCells te.size 0 xv).run C.P w=.ok #[] w:=by rw[← SG];simpa using C3
         simp[Builtin.copy_,kL,Jm,hsz,hf0,storeCells,goInt]
    refine cB.eD (iP _ _ hrun) (s1.mono (λx _ e=>by simp[e]) (λ_ e=>e.elim)) ?_ (.t _ _ (.int _ _));intro k' ob hm;simp at hm;obtain⟨rfl,rfl⟩:=hm;have htl:(cs.take (min m len*te.size)).length=min m len*te.size:=by rw[List.length_take];omega
    have Hl:(cr old (off*te.size) (cs.take (min m len*te.size))).length=old.length:=kK (by rw[htl];omega);refine⟨ql,hpos,cap,(over vs.toList (off*te.size) us.toList).toArray,ty,fr,by rw[Hl];exact har,cM (hw.lt _ ql) _ _ _,⟨?_,o6.2⟩,by simpa [hol] using aaF,by rw[Hl,List.size_toArray,hol];simpa using hlc, ?_,λo _=>hf o (.inl rfl)⟩
    ·intro o ho';exact o6.1 o (by simp[hol] at ho';simpa using ho')
    ·rw[Hl,List.toList_toArray,Ap (by rw[Ff];omega) (by simpa using hlc)];exact hv.cr C4
   ·simp at h
  ·simp at h
 ·simp at h
theorem JK {z:List TV}{p:TV->Bool}(h:z.all p=true):∀n,(qO n z).all p=true
 |0=>rfl
 |n+1=>by
  show(z++qO n z).all p=true
  rw[List.all_append,h,JK h n];rfl
theorem Qn {o:Oper}{args:Array Operand}{ats:Array TypeId}{dt:TypeId}{d:TV}{u:List (Nm×aK)}(hw:WF G w)(hH:HR G w H)(ho:o.op=.call {callee:=.builtin .clear,args,argTypes:=ats})
 (hat:ats.toList=[dt])(hargs:cv G [d] (args.map a.eval).toList)(h:xO C.P H dt d=some (v,u)):cB C.P nm o a w G v u:=by
 have Hq:ats= #[dt]:=by rw[← Array.toArray_toList (xs:=ats),hat]
 obtain⟨dv,rest,C1,hd',mD⟩:=hargs.gq
 have hr2:rest=[]:=by have:=mD.1;simpa using this
 subst hr2
 have R5:args.map a.eval= #[dv]:=by rw[← Array.toArray_toList (xs:=args.map a.eval),C1]
 have iP:∀r w',(Builtin.clear_ #[dt] o.type #[dv]).run C.P w=.ok r w'->(execOp a.eval o).run C.P w=.ok (.value r) w':=λr w' hr=>by
  rw[← Hq,← R5] at hr;simp[execOp,ho,resolve,invoke,builtin,hr]
 clear mD C1 R5 hat
 unfold xO at h
 cases C0:aW C.P dt<;>simp only[C0,reduceCtorEq] at h
 rename_i ti
 obtain⟨_,_,hu,_⟩:=bt C0
 split at h
 ·rename_i elem hd;rw[hd] at hu;have kL:=aH hu w;cases hte:aW C.P elem<;>simp only[hte,reduceCtorEq] at h;rename_i te;split at h
  ·rename_i z k off len hz;split at h
   ·rename_i g e old hro;split at h<;>simp at h;rename_i hc;obtain⟨xb,hzl,hlf⟩:=hc;subst xb;obtain⟨rfl,rfl⟩:=h;obtain⟨zv,hz1,Fi⟩:=ez hte hz w G;obtain⟨hk,hpos,htip⟩:=kU hro;obtain⟨cap,vs,ty,fr,b,ql,har,JG,o6,aaF,hlc,hv,hf,rfl,hcap,hb⟩:=sO hH hro hd';have hsz:zv.cells.size=te.size:=by have:=(Fi.cells (oq hte hz)).1;simp at this;omega
    have hr:=CV Fi (oq hte hz) len zv.cells.size (by rw[hzl,hsz]) (by omega);obtain⟨us,sN⟩:∃us,us=Builtin.zeroCells zv.cells len:=⟨_,rfl⟩;have C4:cv G (qO len z.cells) us.toList:=by rw[sN];unfold Builtin.zeroCells;exact hr
    have hml:(off+len) *te.size=off*te.size+len*te.size:=Nat.add_mul _ _ _;have hrl:(qO len z.cells).length=len*te.size:=by rw[fq,hzl]
    have Ff:us.toList.length=len*te.size:=by rw[C4.1,hrl]
    have SD:off*te.size+us.toList.length<=vs.toList.length:=by rw[Ff];simp;omega
    have JI:=ru C4 (JK hlf len);have hst:=jI (P:=C.P) (b:=G.mu k) (o:=off*te.size) (ty:=ty) (fr:=fr) us.toList w 0 vs.toList JI (by simpa using JG) (by simpa using o6.1) (by simpa using SD);simp only[Nat.add_zero] at hst;have s1:=iV (vs:=over vs.toList (off*te.size) us.toList) hw ql (Gh.iD har hpos) JG (λq ⟨uu,hq⟩=>by rw[hf q (.inl rfl)] at hq;simp at hq);have hol:(over vs.toList (off*te.size) us.toList).length=vs.toList.length:=ei SD;have hzero:len=0->∀b':Option Addr,(Builtin.clear_ #[dt] o.type #[.slice b' len (cap - off)]).run C.P w=.ok (.tuple #[]) (World.bl w (G.mu k) (over vs.toList (off*te.size) us.toList).toArray ty fr):=λh0 b'=>by
     have ahI:us.toList=[]:=by apply List.length_eq_zero_iff.1;rw[Ff,h0];simp
     rw[ahI,uS,Array.toArray_toList,lD JG,h0];cases b'<;>simp[Builtin.clear_,kL]
    have hrun:(Builtin.clear_ #[dt] o.type #[.slice b len (cap - off)]).run C.P w=.ok (.tuple #[]) (World.bl w (G.mu k) (over vs.toList (off*te.size) us.toList).toArray ty fr):=by
     by_cases h0:len=0
     ·exact hzero h0 b
     ·have hlt:off<cap:=by omega
      have:=hb hlt;subst this;obtain⟨n,rfl⟩:∃n,len=n+1:=⟨len - 1,by omega⟩;rw[sN] at hst ⊢;simp[Builtin.clear_,kL,hz1,hst]
    refine cB.eD (iP _ _ hrun) (s1.mono (λx _ e=>by simp[e]) (λ_ e=>e.elim)) ?_ (.t _ _ (.cT [] [] rfl (by simp)));intro k' ob hm;simp at hm;obtain⟨rfl,rfl⟩:=hm;have Hl:(cr old (off*te.size) (qO len z.cells)).length=old.length:=kK (by rw[hrl];omega);refine⟨ql,hpos,cap,(over vs.toList (off*te.size) us.toList).toArray,ty,fr,by rw[Hl];exact har,cM (hw.lt _ ql) _ _ _,⟨?_,o6.2⟩,by simpa [hol] using aaF,by rw[Hl,List.size_toArray,hol];simpa using hlc, ?_,λo _=>hf o (.inl rfl)⟩
    ·intro o ho';exact o6.1 o (by simp[hol] at ho';simpa using ho')
    ·rw[Hl,List.toList_toArray,Ap (by rw[Ff];omega) (by simpa using hlc)];exact hv.cr C4
   ·simp at h
  ·simp at h
 ·simp at h
end
end Go.Abs
namespace Go.Abs
open Go
section
variable {C:cE}{f:FuncId}{nm:Nm}{H:Heap}{slots:List TV}{a:Act}{w:World}{G:Gh}{v:TV}
theorem Hr:∀{cs:List TV} {bs:List UInt8} {us:List Value},bytesOf cs=some bs->cv G cs us->∃ns:List Int,us=ns.map (Value.int .u8)/\bs=ns.map λn=>UInt8.ofNat n.toNat:=by
 intro cs;induction cs with
 |nil=>intro bs us h hv;simp[bytesOf] at h;subst h;have:=hv.1;simp at this;subst this;exact⟨[],rfl,rfl⟩
 | cons c r ih=>
   intro bs us h hv
   obtain⟨u,us',rfl,h1,h2⟩:=hv.gq
   unfold bytesOf at h
   split at h
   · rename_i heq;simp at heq
   · rename_i n r' heq
     simp at heq
     obtain⟨rfl,rfl⟩:=heq
     cases hb:bytesOf r with
     |none=>rw[hb] at h;simp at h
     | some bs'=>
       rw[hb] at h
       simp at h
       subst h
       obtain⟨ns,e1,e2⟩:=ih hb h2
       have:=h1.int
       subst this
       exact⟨n::ns,by simp[e1],by simp[e2]⟩
   · simp at h
theorem foldl_push (ns:List Int):∀(s:ByteArray),(ns.foldl (λ(r:ByteArray) (n:Int)=>r.push (UInt8.ofNat n.toNat)) s).data.toList=s.data.toList++ns.map λn=>UInt8.ofNat n.toNat:=by
 induction ns with
 |nil=>intro s;simp
 |cons n r ih=>
  intro s
  simp only[List.foldl_cons]
  rw[ih]
  simp[ByteArray.push]
abbrev SH (b:UInt8):Value:=Value.int .u8 (b.toNat:Int)
def bytesRow (s:List UInt8)(cap:Nat):List Value:=s.map SH++List.replicate (cap - s.length) (Value.int .u8 0)
theorem ug {s:List UInt8}{cap:Nat}(h:s.length<=cap):(bytesRow s cap).length=cap:=by
 unfold bytesRow;simp;omega
theorem Hs (F:uK)(s:List UInt8):BV F (s.map λb=>Tree.int .u8 (b.toNat:Int)) (s.map SH):=by
 refine⟨by simp,λj c u h1 h2=> ?_⟩;rw[List.getElem?_map] at h1 h2;cases hj:s[j]? with
 |none=>rw[hj] at h1;simp at h1
 |some b=>rw[hj] at h1 h2;simp at h1 h2;subst h1;subst h2;exact .int _ _
theorem yO (s:List UInt8)(elem:TypeId):
 ∃ cap,s.length<=cap/\(Conv.stringToBytes elem ⟨s.toArray⟩).run C.P w=.ok (.slice (some ⟨w.heap.size,0,none⟩) s.length cap)
  (World.cN w.drew (.cells (bytesRow s cap).toArray elem (cap,cap+1))):=by
 refine⟨(Question.appendCap s.length 0 elem).cut (w.tape w.drawn (Question.appendCap s.length 0 elem)), ?_, ?_⟩
 ·show s.length<=s.length+_;omega
 ·have hq:(Question.appendCap s.length 0 elem).forced=false:=rfl;have hsz:(ByteArray.mk s.toArray).size=s.length:=by show s.toArray.size=_;simp
  have hcap:s.length<=(Question.appendCap s.length 0 elem).cut (w.tape w.drawn (Question.appendCap s.length 0 elem)):=by
   show s.length<=s.length+_;omega
  generalize hc:(Question.appendCap s.length 0 elem).cut (w.tape w.drawn (Question.appendCap s.length 0 elem))=cap at hcap ⊢;simp only[Conv.stringToBytes,hsz,markStringish];simp only[Sem.run_bind];have h1:(choose (Question.appendCap s.length 0 elem)).run C.P w=.ok cap w.drew:=by
   rw[← hc];unfold choose;simp only[Sem.run,hq];rfl
  rw[h1];simp only[Result.andThen_ok,iU];have CX:((ByteArray.mk s.toArray).data.map λb=>Value.int .u8 (b.toNat:Int))++Array.replicate (cap - s.length) (Value.int .u8 0)=(bytesRow s cap).toArray:=by
   simp[bytesRow]
  rw[CX];have hvl:=ug hcap;generalize bytesRow s cap=vs at hvl ⊢;have hnew:({w.drew with heap:=w.drew.heap.push (.cells vs.toArray elem)}:World).heap[w.drew.heap.size]?=some (.cells vs.toArray elem):=jK w.drew _;have aaG:({w.drew with heap:=w.drew.heap.push (.cells vs.toArray elem)}:World).shape? w.drew.heap.size=some (elem,vs.length):=by
   unfold World.shape?;rw[hnew];simp
  simp only[Sem.run_bind,shape,Sem.run,aaG,Result.andThen_ok];have hfr:({w.drew with heap:=w.drew.heap.push (.cells vs.toArray elem)}:World).freeze {block:=w.drew.heap.size,off:=vs.length} 1=World.cN w.drew (.cells vs.toArray elem (cap,cap+1)):=by
   unfold World.freeze World.cN;rw[if_neg (by omega)];congr 1;apply Array.ext_getElem?;intro i;rw[Array.getElem?_modify];by_cases e:w.drew.heap.size=i
   ·subst e;rw[if_pos rfl,hnew,Array.getElem?_push,if_pos rfl];simp[hvl]
   ·rw[if_neg e];show(w.drew.heap.push _)[i]?=_;rw[Array.getElem?_push,Array.getElem?_push];rw[if_neg (λh=>e h.symm),if_neg (λh=>e h.symm)]
  simp only[freeze,Sem.run,hfr];rfl
theorem JL {o:Oper}{akR:Bool}{src dst:TypeId}{px:Operand}{p:TV}{u:List (Nm×aK)}(hw:WF G w)(hH:HR G w H)(hn:¬G.dom nm)(ho:o.op=.convert src dst px)(hp:VR G p (a.eval px))
 (h:q5 C.P akR nm H src dst p=some (v,u)):cB C.P nm o a w G v u:=by
 have iP:∀r w',(convert src dst (a.eval px)).run C.P w=.ok r w'->(execOp a.eval o).run C.P w=.ok (.value r) w':=by
  intro r w' hr;simp[execOp,ho,hr]
 unfold q5 at h
 cases hs:aW C.P src<;>cases hd:aW C.P dst<;>simp only[hs,hd,reduceCtorEq] at h
 rename_i ts td
 obtain⟨_,_,sN,_⟩:=bt hs
 obtain⟨_,_,hud,_⟩:=bt hd
 split at h
 ·rename_i s h1 h2;simp at h;obtain⟨rfl,rfl⟩:=h;rw[h1] at sN;rw[h2] at hud;have hx:=hp.str;have us:=aH sN w;have ud:=aH hud w;refine cB.quiet hw (iP (a.eval px) w ?_) hp;rw[hx];simp[convert,us,ud]
 ·rename_i e s h1 h2;rw[h1] at sN;rw[h2] at hud;have hx:=hp.str;have us:=aH sN w;have ud:=aH hud w;cases he:aW C.P e<;>simp only[he,reduceCtorEq] at h;rename_i te;obtain⟨_,_,hue,_⟩:=bt he;split at h
  ·rename_i hde;rw[hde] at hue;have ue:=aH hue w;obtain⟨cap,hcap,hrun⟩:=yO (C:=C) (w:=w) s e;have SI:(convert src dst (a.eval px)).run C.P w=.ok (.slice (some ⟨w.heap.size,0,none⟩) s.length cap) (World.cN w.drew (.cells (bytesRow s cap).toArray e (cap,cap+1))):=by
    rw[hx];simp[convert,us,ud,ue,hrun]
   have Ma:=Hs G.F s;split at h
   ·simp at h;obtain⟨rfl,rfl⟩:=h;have hpre:(List.take (s.map λb=>TV.t (Tree.int .u8 (b.toNat:Int))).length (bytesRow s cap))=s.map SH:=by
     unfold bytesRow;rw[List.take_append_of_le_length (by simp),List.take_of_length_le (by simp)]
    have hbl:=ug hcap;have xT:=JE (nm:=nm) (b:=false) (bx:=1) (cap:=cap) (w:=w.drew) hw.drew hn (by omega) (cs:=s.map λb=>TV.t (Tree.int .u8 (b.toNat:Int))) (vs:=bytesRow s cap) (by rw[hpre];have:=Ma.Jw;simpa [List.map_map,Function.comp_def] using this) (by omega) (by simp;omega) e (cap,cap+1) (λo ho hh=>by rw[List.size_toArray,hbl] at ho;omega) (λh=>absurd rfl h);refine cB.eD (iP _ _ SI) (((iH hw (λ_=>False) (λ_=>False)).trans (ko (w:=w.drew) hw.drew hn _ (some ((s.map λb=>TV.t (Tree.int .u8 (b.toNat:Int))).length,1,cap)) (λ_=>False))).mono (λ_ _ hh=>by simp at hh) (λ_ hh=>by simpa using hh)) ?_ ?_
    ·intro k ob hm;simp at hm;obtain⟨rfl,rfl⟩:=hm;simpa using xT
    ·exact wk (w:=w.drew) (nm:=nm) (bx:=1) (cap:=cap) (len:=s.length) (by simp) hn
   ·simp at h;obtain⟨rfl,rfl⟩:=h;have hch:chunk false 1 s.length (s.map λb=>Tree.int .u8 (b.toNat:Int))=some (s.map λb=>Tree.int .u8 (b.toNat:Int)):=by
     clear hx hp hrun SI Ma hcap iP;induction s with
     |nil=>rfl
     |cons b r ih=>simp[chunk,ih,Tree.leaf]
    have hr:=L9 (w:=w.drew) hw.drew Ma hch cap hcap (bytesRow s cap) (λj u hj=>by
     unfold bytesRow;rw[List.getElem?_append_left (by exact(List.getElem?_eq_some_iff.1 hj).1)];exact hj)
    refine cB.eD (iP _ _ SI) (((iH hw (λ_=>False) (λ_=>False)).trans (row_step (w:=w.drew) hw.drew _ e (λ_=>False) (λ_=>False) (cap,cap+1))).mono (λ_ _ hh=>by simp at hh) (λ_ hh=>by simp at hh)) (λ_ _ hm=>by simp at hm) (.t _ _ hr)
  ·simp at h
 ·rename_i e h1 h2;rw[h1] at sN;rw[h2] at hud;have us:=aH sN w;have ud:=aH hud w;cases he:aW C.P e<;>simp only[he,reduceCtorEq] at h;rename_i te;obtain⟨_,_,hue,_⟩:=bt he;split at h
  ·rename_i m cs hde hsrc;rw[hde] at hue;have ue:=aH hue w;cases hb:bytesOf cs<;>simp only[hb,reduceCtorEq] at h;rename_i bs;obtain⟨Jm,hcl,hfc⟩:=sP (C:=C) hw hH hp hsrc;obtain⟨us',C3,C4⟩:=hfc m (Nat.le_refl _);rw[List.take_of_length_le (by omega)] at C4;obtain⟨ns,e1,e2⟩:=Hr hb C4;have Xp:us'=(ns.map (Value.int .u8)).toArray:=by rw[← Array.toArray_toList (xs:=us'),e1]
   split at h
   ·simp at h
   ·rename_i ac3;simp at h;obtain⟨rfl,rfl⟩:=h;have xV:∃b l c,a.eval px=.slice b l c:=by
     unfold eB at hsrc;split at hsrc
     ·generalize a.eval px=xv at hp;cases hp;exact⟨_,_,_,rfl⟩
     ·have:=hp.tree;generalize a.eval px=xv at this;cases this<;>exact⟨_,_,_,rfl⟩
     ·generalize a.eval px=xv at hp;cases hp;exact⟨_,_,_,rfl⟩
     ·rename_i k off len;split at hsrc
      ·rename_i hro;obtain⟨cap,vs,ty,fr,b,_,_,_,_,_,_,_,_,hx,_,_⟩:=sO hH hro hp;exact⟨_,_,_,hx⟩
      ·simp at hsrc
     ·exact absurd rfl (ac3 _)
     ·simp at hsrc
    obtain⟨b,l,c,hx⟩:=xV;rw[hx] at Jm C3;have hlm:l=m:=by simp[Builtin.lenOf] at Jm;exact Jm
    subst hlm;have hout:(Conv.bytesToString (.slice b l c)).run C.P w=.ok (.string ⟨bs.toArray⟩) w:=by
     cases b with
     | none=>
       simp[Builtin.firstCells] at C3
       subst C3
       have:ns=[]:=by
         have:=congrArg Array.size Xp
         simp at this
         exact List.length_eq_zero_iff.1 this.symm
       subst this
       subst e2
       rfl
     | some ad=>
       simp only[Builtin.firstCells,Nat.mul_one] at C3
       rw[Xp] at C3
       rw[run_bytesToString w ad l c ns C3]
       congr 2
       apply Go.WideShapes.bytes_inj
       rw[foldl_push,e2]
       simp
    refine cB.quiet hw (iP _ w ?_) (.t _ _ (.str bs));rw[hx,run_convert_bytes_string w src dst e b l c sN hue hud];exact hout
  ·simp at h
 ·rename_i k1 k2 k n h1 h2;cases hr:cR C.P (convert src dst (.int k n))<;>simp[hr] at h;rename_i r;obtain⟨v',h3,rfl,rfl⟩:=h;have hx:=hp.int;refine cB.quiet hw (iP r w ?_) (uP h3);rw[hx];exact nv hr w
 ·simp at h
theorem ot {o:Oper}{b:Builtin}{args:Array Operand}{ats:Array TypeId}{w':World}{r:Value}(ho:o.op=.call {callee:=.builtin b,args,argTypes:=ats})
 (h:∀cs,(builtin b ats o.type cs (args.map a.eval)).run C.P w=.ok (.value r) w'):(execOp a.eval o).run C.P w=.ok (.value r) w':=by
 simp only[execOp,ho,resolve]
 simp[invoke,h]
theorem Bl {k:IntKind}{g:Int->Int->Int}{s:Value->Value->Sem Value}(hg:∀x y k',s (.int k x) (.int k' y)=pure (.int k (g x y))):∀(ys:List Int) (x:Int),((ys.map (Value.int k)).foldlM s (.int k x)).run C.P w=.ok (.int k (ys.foldl g x)) w:=by
 intro ys;induction ys with
 |nil=>intro x;rfl
 |cons y r ih=>intro x;simp only[List.map_cons,List.foldlM_cons,hg,pure_bind,List.foldl_cons];exact ih _
theorem BX {k:IntKind}:∀{xs:List TV} {ys:List Int} {vs:List Value},kI.kS k xs=some ys->cv G xs vs->vs=ys.map (Value.int k):=by
 intro xs;induction xs with
 |nil=>intro ys vs h hv;simp[kI.kS] at h;subst h;have:=hv.1;simpa using this
 | cons x r ih=>
   intro ys vs h hv
   obtain⟨u,us,rfl,h1,h2⟩:=hv.gq
   unfold kI.kS at h
   split at h
   · rename_i heq;simp at heq
   · rename_i k' y r' heq
     simp at heq
     obtain⟨rfl,rfl⟩:=heq
     cases hm:kI.kS k r with
     |none=>rw[hm] at h;simp at h
     | some zs=>
       rw[hm] at h
       simp at h
       obtain⟨rfl,rfl⟩:=h
       rw[ih hm h2,h1.int];rfl
   · simp at h
theorem Bn {mx:Bool}{args:List TV}{vs:Array Value}{ats:Array TypeId}{t:TypeId}(hv:cv G args vs.toList)(h:kI mx args=some v)(w:World):
 ∃r,(if mx then Builtin.max_ ats t vs else Builtin.min_ ats t vs).run C.P w=.ok r w/\VR G v r:=by
 unfold kI at h
 split at h
 ·rename_i k x r;cases hm:kI.kS k r<;>simp[hm] at h;rename_i ys;subst h;obtain⟨u,us,he,h1,h2⟩:=hv.gq;have e1:=h1.int;have e2:=BX hm h2;refine⟨_, ?_,.t _ _ (.int _ _)⟩;cases mx
  ·simp only[Bool.false_eq_true,if_false,Builtin.min_,he,e1,e2];rw[Bl (g:=λx y=>if y<x then y else x) (λx y k'=>rfl)]
  ·simp only[if_true,Builtin.max_,he,e1,e2];rw[Bl (g:=λx y=>if y>x then y else x) (λx y k'=>rfl)]
 ·simp at h
end
end Go.Abs
namespace Go.Abs
open Go
section
variable {C:cE}{f:FuncId}{nm:Nm}{H:Heap}{slots:List TV}{a:Act}{w:World}{G:Gh}{v:TV}
def FR (G:Gh)(es:List (TV×TV×Nat))(bC:List MapEntry)(u:Value)(i:Nat):Option (Nat×TV×Nat)->Option (Nat×Value)->Prop
 |none,none=>True
 |some (j,v,b),some (j',x)=>j=j'/\∃m e k',j=i+m/\bC[m]?=some e/\es[m]?=some (k',v,b)/\x=e.val/\VR G v e.val/\e.born=b/\Instr.sameBits 10000 e.key u=true
 |_,_=>False
theorem FR.succ {es:List (TV×TV×Nat)}{bC:List MapEntry}{u:Value}{i:Nat}{p:TV×TV×Nat}{e:MapEntry}{r:Option (Nat×TV×Nat)}{r':Option (Nat×Value)}(h:FR G es bC u (i+1) r r'):FR G (p::es) (e::bC) u i r r':=by
 cases r<;>cases r'<;>try exact h
 rename_i x y;obtain⟨j,v,b⟩:=x;obtain⟨j',z⟩:=y;obtain⟨h1,m,e',k',h2,h3,h4,h5⟩:=h;exact⟨h1,m+1,e',k',by omega,by simpa using h3,by simpa using h4,h5⟩
theorem sQ {kt:TypeId}{d:TypeDesc}{k k':TV}{u u':Value}{b:Bool}(hk:jD k=some u)(hk':VR G k' u')(h:Jr C.P kt d k k'=some b):
 (∀fs,d≠ .struct fs)/\Instr.sameNow d u u'=some b\/(∃fs,d=.struct fs)/\(∀w,(Op.equal kt u u').run C.P w=.ok b w)/\∃x,u=.agg x:=by
 unfold Jr at h
 rw[hk] at h
 cases h2:jD k'<;>simp only[h2,reduceCtorEq] at h
 have:=lB h2 hk'
 subst this
 split at h
 ·rename_i fs;split at h
  ·exact .inr ⟨⟨_,rfl⟩,λw=>nv h w,_,rfl⟩
  ·simp at h
 ·rename_i Xp;exact .inl ⟨λfs e=>Xp fs e,h⟩
theorem Qo {kt:TypeId}{d:TypeDesc}{k:TV}{u:Value}(hk:jD k=some u)(hd:∀fs,d≠ .struct fs):∀{es:List (TV×TV×Nat)} {bC:List MapEntry} {i:Nat} {r:Option (Nat×TV×Nat)},MR G es bC->k9 C.P kt d k es i=some r->
 ∃r',Instr.findNow d u bC i=some r'/\FR G es bC u i r r':=by
 intro es
 induction es with
 | nil=>
   intro bC i r hm h
   cases bC with
   |nil=>simp[k9] at h;subst h;exact⟨none,rfl,trivial⟩
   |cons=>simp[MR] at hm
 | cons p rs ih=>
   intro bC i r hm h
   obtain⟨k',v,b⟩:=p
   cases bC with
   |nil=>simp[MR] at hm
   | cons e es'=>
     simp only[MR] at hm
     obtain⟨h1,h2,h3,h4⟩:=hm
     simp only[k9] at h
     split at h
     · rename_i hq
       rcases sQ hk h1 hq with ⟨_,hs⟩|⟨⟨fs,e⟩,_⟩
       · rw[hk] at h
         cases h5:jD k'<;>simp only[h5,reduceCtorEq] at h
         have:=lB h5 h1
         subst this
         split at h<;>simp at h
         rename_i hsb
         subst h
         refine⟨some (i,e.val),by simp[Instr.findNow,hs],rfl,0,e,k',rfl,rfl,rfl,rfl,h2,h3,hsb⟩
       · exact absurd e (hd fs)
     · rename_i hq
       rcases sQ hk h1 hq with ⟨_,hs⟩|⟨⟨fs,e⟩,_⟩
       · obtain⟨r',h6,h7⟩:=ih h4 h
         exact⟨r',by simp[Instr.findNow,hs,h6],h7.succ⟩
       · exact absurd e (hd fs)
     · simp at h
theorem Qp {kt:TypeId}{fs:Array Field}{k:TV}{u:Value}(hk:jD k=some u)(w:World):∀{es:List (TV×TV×Nat)} {bC:List MapEntry} {i:Nat} {r:Option (Nat×TV×Nat)},MR G es bC->k9 C.P kt (.struct fs) k es i=some r->
 ∃r',(Instr.findAsking kt u bC i).run C.P w=.ok r' w/\FR G es bC u i r r':=by
 intro es
 induction es with
 | nil=>
   intro bC i r hm h
   cases bC with
   |nil=>simp[k9] at h;subst h;exact⟨none,rfl,trivial⟩
   |cons=>simp[MR] at hm
 | cons p rs ih=>
   intro bC i r hm h
   obtain⟨k',v,b⟩:=p
   cases bC with
   |nil=>simp[MR] at hm
   | cons e es'=>
     simp only[MR] at hm
     obtain⟨h1,h2,h3,h4⟩:=hm
     simp only[k9] at h
     split at h
     · rename_i hq
       rcases sQ hk h1 hq with ⟨hn,_⟩|⟨_,hs,_⟩
       · exact absurd rfl (hn fs)
       · rw[hk] at h
         cases h5:jD k'<;>simp only[h5,reduceCtorEq] at h
         have:=lB h5 h1
         subst this
         split at h<;>simp at h
         rename_i hsb
         subst h
         refine⟨some (i,e.val),by simp[Instr.findAsking,hs],rfl,0,e,k',rfl,rfl,rfl,rfl,h2,h3,hsb⟩
     · rename_i hq
       rcases sQ hk h1 hq with ⟨hn,_⟩|⟨_,hs,_⟩
       · exact absurd rfl (hn fs)
       · obtain⟨r',h6,h7⟩:=ih h4 h
         exact⟨r',by simp[Instr.findAsking,hs,h6],h7.succ⟩
     · simp at h
theorem rz {kt:TypeId}{tk:TI}{k:TV}{u:Value}(ht:aW C.P kt=some tk)(hk:jD k=some u){es:List (TV×TV×Nat)}{bC:List MapEntry}{r:Option (Nat×TV×Nat)}(hm:MR G es bC)(h:k9 C.P kt tk.desc k es 0=some r)(w:World):
 ∃r',(Instr.findKey kt u bC).run C.P w=.ok r' w/\FR G es bC u 0 r r':=by
 obtain⟨_,_,hu,_⟩:=bt ht
 have kL:=aH hu w
 by_cases hd:∃fs,tk.desc=.struct fs
 ·obtain⟨fs,hd⟩:=hd;rw[hd] at h kL;cases bC with
  | nil=>
    cases es with
    |nil=>simp[k9] at h;subst h;exact⟨none,by simp[Instr.findKey,kL,Instr.findNow],trivial⟩
    |cons=>simp[MR] at hm
  | cons e es'=>
    obtain⟨r',h1,h2⟩:=Qp hk w hm h
    refine⟨r', ?_,h2⟩
    have hnone:Instr.findNow (.struct fs) u (e::es') 0=none:=by
      simp[Instr.findNow,Instr.sameNow]
    simp[Instr.findKey,kL,hnone,h1]
 ·have hd':∀fs,tk.desc≠ .struct fs:=λfs e=>hd ⟨fs,e⟩
  obtain⟨r',h1,h2⟩:=Qo hk hd' hm h;exact⟨r',by simp[Instr.findKey,kL,h1],h2⟩
theorem Aq {empty:Bool}{kt:TypeId}{k:TV}(h:uL C.P empty kt k=true)(w:World):∃u,jD k=some u/\(Instr.checkKey empty 10000 kt u).run C.P w=.ok () w:=by
 unfold uL at h;split at h
 ·rename_i u hu;obtain⟨x,hx⟩:=Option.isSome_iff_exists.1 h;exact⟨u,hu,nv hx w⟩
 ·simp at h
theorem MR.length {es:List (TV×TV×Nat)}{bC:List MapEntry}(h:MR G es bC):es.length=bC.length:=by
 induction es generalizing bC with
 |nil=>cases bC<;>simp_all [MR]
 |cons p r ih=>cases bC<;>simp[MR] at h ⊢;exact ih h.2.2.2
theorem jL {r:Nat}{bC:Array MapEntry}{c:Nat}(h:w.heap[r]?=some (.map bC c)):(getObj r).run C.P w=.ok (.map bC c) w:=by
 simp[getObj,Sem.run,h]
theorem pQ {r:Nat}{bC:Array MapEntry}{c:Nat}(h:w.heap[r]?=some (.map bC c))(o:Obj):(setObj r o).run C.P w=.ok () {w with heap:=w.heap.setIfInBounds r o}:=by
 simp[setObj,Sem.run,h]
theorem JM {t:TypeId}{x k:TV}{xv kv:Value}{ok:Bool}(hH:HR G w H)(hx:VR G x xv)(hk:VR G k kv)(h:sK C.P H t x k ok=some v):∃r,(Instr.lookup t xv kv ok).run C.P w=.ok r w/\VR G v r:=by
 unfold sK at h;cases ht:aW C.P t<;>simp only[ht,reduceCtorEq] at h;rename_i ti;obtain⟨_,_,hu,_⟩:=bt ht;split at h
 ·rename_i kt et hd;rw[hd] at hu;have kL:=aH hu w;split at h
  ·rename_i tk te es c OA hte xb;split at h
   ·rename_i hko;have SJ:∀bC:Array MapEntry,MR G es bC.toList->es.isEmpty=bC.isEmpty:=by
     intro bC hmr;have hl:=hmr.length;simp only[Array.length_toList] at hl;rw[Array.isEmpty,← hl];cases es<;>simp
    obtain⟨u,W7,hck⟩:=Aq hko w;have:=lB W7 hk;subst this;have core:∀bC:Array MapEntry,MR G es bC.toList->∃r,VR G v r/\(Instr.checkKey bC.isEmpty 10000 kt kv).run C.P w=.ok () w/\
     ((∃j e,(Instr.findKey kt kv bC.toList).run C.P w=.ok (some (j,e)) w/\r=if ok then .tuple #[e,.bool true] else e)\/
      (∃z,(Instr.findKey kt kv bC.toList).run C.P w=.ok none w/\(zeroValue et).run C.P w=.ok z w/\r=if ok then .tuple #[z,.bool false] else z)):=by
     intro bC hmr
     split at h
     ·rename_i j v' b hf;obtain⟨r',W8,hr2⟩:=rz OA W7 hmr hf w;cases r' with
      |none=>exact absurd hr2 id
      |some y=>
      obtain⟨j',y⟩:=y;obtain⟨rfl,m,e,k',_,_,_,rfl,hve,_,_⟩:=hr2;simp at h;subst h;refine⟨if ok then .tuple #[e.val,.bool true] else e.val, ?_,by rw[← SJ bC hmr];exact hck,.inl ⟨j,e.val,W8,rfl⟩⟩;cases ok
      ·exact hve
      ·exact lz (cv.cons hve (cv.one (.t _ _ (.bool true))))
     ·rename_i z hf hz;obtain⟨r',W8,hr2⟩:=rz OA W7 hmr hf w;cases r' with
      |some y=>exact absurd hr2 id
      |none=>
      obtain⟨zv,hz1,Fi⟩:=ez hte hz w G;simp at h;subst h;refine⟨if ok then .tuple #[zv,.bool false] else zv, ?_,by rw[← SJ bC hmr];exact hck,.inr ⟨zv,W8,hz1,rfl⟩⟩;cases ok
      ·exact Fi
      ·exact lz (cv.cons Fi (cv.one (.t _ _ (.bool false))))
     ·simp at h
    split at xb
    ·simp at xb;obtain⟨rfl,_⟩:=xb;cases hx with|t _ _ hx=>
     cases hx;obtain⟨r,hr,Qq,SK⟩:=core #[] trivial;refine⟨r, ?_,hr⟩;simp at Qq;rcases SK with ⟨j,e,hf,rfl⟩|⟨z,hf,hz,rfl⟩
     ·simp at hf;cases ok<;>simp[Instr.lookup,kL,Qq,hf]
     ·simp at hf;cases ok<;>simp[Instr.lookup,kL,Qq,hf,hz]
    ·unfold mapOf at xb;split at xb
     ·rename_i m hnn;split at xb<;>simp at xb;rename_i es' c' hm;obtain⟨rfl,_⟩:=xb;obtain⟨hd',har,bC,hh,hmr,_⟩:=hH _ _ hm;cases hx with|map _ _ _=>
      obtain⟨r,hr,Qq,SK⟩:=core bC hmr;refine⟨r, ?_,hr⟩;rcases SK with ⟨j,e,hf,rfl⟩|⟨z,hf,hz,rfl⟩
      ·cases ok<;>simp[Instr.lookup,kL,jL hh,Qq,hf]
      ·cases ok<;>simp[Instr.lookup,kL,jL hh,Qq,hf,hz]
     ·simp at xb
   ·simp at h
  ·simp at h
 ·simp at h
theorem yP (hw:WF G w){k:Nm}(hd:G.dom k)(ak:G.alive k){bC:Array MapEntry}{c:Nat}(hh:w.heap[G.mu k]?=some (.map bC c))(hF:∀o,G.F (G.mu k) o=none)(o:Obj):
 Step (λx=>x=k) (λ_=>False) G w G {w with heap:=w.heap.setIfInBounds (G.mu k) o}:=by
 refine⟨.refl G,⟨λb p u h=> ?_,hw.inj,λx d=>by simpa using hw.lt x d⟩,λ_ _ _=>⟨rfl,rfl⟩,λb hb hn=>⟨?_,λ_=>rfl⟩,λ_ d=>.inl d,λk d=>.inl ⟨k,d,rfl,.inl rfl⟩,by simp,rfl,rfl,rfl⟩
 ·obtain⟨us,ty,fr,h1,h2⟩:=hw.F b p u h;have hne:G.mu k≠b:=by intro e;subst e;rw[hF] at h;simp at h
  exact⟨us,ty,fr,by show(w.heap.setIfInBounds _ _)[b]?=_;rw[Array.getElem?_setIfInBounds,if_neg hne];exact h1,h2⟩
 ·show(w.heap.setIfInBounds _ _)[b]?=_;rw[Array.getElem?_setIfInBounds,if_neg (hn k rfl hd ak)]
theorem MR.push:∀{es:List (TV×TV×Nat)} {bC:List MapEntry} {k x:TV} {kv xv:Value} {c:Nat},MR G es bC->VR G k kv->VR G x xv->MR G (es++[(k,x,c)]) (bC++[{key:=kv,val:=xv,born:=c}]):=by
 intro es;induction es with
 |nil=>intro bC k x kv xv c h h1 h2;cases bC<;>simp_all [MR]
 |cons p r ih=>
  intro bC k x kv xv c h h1 h2
  obtain⟨k',v',b'⟩:=p
  cases bC with
  |nil=>simp[MR] at h
  |cons e es'=>simp only[MR,List.cons_append] at h ⊢;exact⟨h.1,h.2.1,h.2.2.1,ih h.2.2.2 h1 h2⟩
theorem MR.set:∀{es:List (TV×TV×Nat)} {bC:List MapEntry} {m:Nat} {k x k' v':TV} {b:Nat} {e:MapEntry} {kv xv:Value},MR G es bC->es[m]?=some (k',v',b)->bC[m]?=some e->VR G k kv->VR G x xv->
 MR G (es.set m (k,x,b)) (bC.set m {e with key:=kv,val:=xv}):=by
 intro es
 induction es with
 |nil=>intro bC m k x k' v' b e kv xv h h1;simp at h1
 | cons p r ih=>
  intro bC m k x k' v' b e kv xv h h1 h2 h3 h4
  obtain⟨k0,v0,b0⟩:=p
  cases bC with
  |nil=>simp[MR] at h
  | cons e0 es'=>
   simp only[MR] at h
   cases m with
   |zero=>
    simp at h1 h2
    obtain⟨rfl,rfl,rfl⟩:=h1
    subst h2
    simp only[List.set_cons_zero,MR]
    exact⟨h3,h4,h.2.2.1,h.2.2.2⟩
   |succ m=>
    simp only[List.set_cons_succ,MR]
    exact⟨h.1,h.2.1,h.2.2.1,ih h.2.2.2 (by simpa using h1) (by simpa using h2) h3 h4⟩
theorem xW {bC:Array MapEntry}{m:Nat}{e:MapEntry}(f:MapEntry->MapEntry)(h:bC[m]?=some e):(bC.modify m f).toList=bC.toList.set m (f e):=by
 apply List.ext_getElem?;intro i;rw[Array.getElem?_toList,Array.getElem?_modify,List.getElem?_set];have hm:m<bC.size:=(Array.getElem?_eq_some_iff.1 h).1;by_cases c:m=i
 ·subst c;rw[if_pos rfl,if_pos rfl,h];simp[hm]
 ·rw[if_neg c,if_neg c];simp
theorem Ht {k:Nm}(hw:WF G w)(hd:G.dom k)(har:G.arr k=none)(hF:∀o,G.F (G.mu k) o=none){es:List (TV×TV×Nat)}{bC:Array MapEntry}{c:Nat}(h:MR G es bC.toList):
 OR G {w with heap:=w.heap.setIfInBounds (G.mu k) (.map bC c)} k (.map es c):=by
 refine⟨har,bC, ?_,h,hF⟩
 have:=hw.lt k hd
 simp[this]
def Xq (k x:TV)(es:List (TV×TV×Nat))(c:Nat):Option (Nat×TV×Nat)->List (TV×TV×Nat)
 |some (i,_,b)=>es.set i (k,x,b)
 |none=>es++[(k,x,c)]
def aaH (c:Nat):Option (Nat×TV×Nat)->Nat
 |some _=>c
 |none=>c+1
theorem Fk {t kt et:TypeId}{ti tk:TI}{k x:TV}{m:Nm}{kv xv:Value}{es:List (TV×TV×Nat)}{c:Nat}{r:Option (Nat×TV×Nat)}(hw:WF G w)(hH:HR G w H)(ht:aW C.P t=some ti)(hd:ti.desc=.map kt et)(hm:H.get m=some (.map es c))
 (OA:aW C.P kt=some tk)(hko:uL C.P false kt k=true)(hk:VR G k kv)(hx:VR G x xv)(hf:k9 C.P kt tk.desc k es 0=some r):
 ∃ JN:Array MapEntry,∃c',(Instr.mapUpdate t (.map (some (G.mu m))) kv xv).run C.P w=.ok () {w with heap:=w.heap.setIfInBounds (G.mu m) (.map JN c')}/\
  MR G (Xq k x es c r) JN.toList/\c'=aaH c r:=by
 obtain⟨_,_,hu,_⟩:=bt ht
 rw[hd] at hu
 have kL:=aH hu w
 obtain⟨ql,har,bC,hh,hmr,hF⟩:=hH m _ hm
 obtain⟨u,W7,hck⟩:=Aq hko w
 have:=lB W7 hk
 subst this
 obtain⟨r',W8,hr2⟩:=rz OA W7 hmr hf w
 cases r with
 | none=>
   cases r' with
   |some _=>exact absurd hr2 id
   |none=>
   refine⟨bC.push {key:=kv,val:=xv,born:=c},c+1, ?_,by simpa [Xq] using hmr.push hk hx,rfl⟩
   simp[Instr.mapUpdate,kL,jL hh,hck,W8,pQ hh]
 | some y=>
   obtain⟨i,v0,b⟩:=y
   cases r' with
   |none=>exact absurd hr2 id
   |some y'=>
   obtain⟨i',x0⟩:=y'
   obtain⟨rfl,p,e,k',hip,he,xb,rfl,_,hb,hsb⟩:=hr2
   have aaI:i=p:=by omega
   subst aaI
   have he':bC[i]?=some e:=by simpa using he
   refine⟨bC.modify i λe=>{e with key:=kv,val:=xv},c, ?_, ?_,rfl⟩
   · have hkey:(((bC[i]?).map (·.key)).getD kv)=e.key:=by rw[he'];rfl
     have SL:(Instr.keyThatStays e.key kv).run C.P w=.ok kv w:=by simp[Instr.keyThatStays,hsb]
     simp only[Instr.mapUpdate,Sem.run_bind,kL,Result.andThen_ok,jL hh,hck,W8]
     rw[hkey,SL]
     simp[pQ hh]
   · rw[xW _ he']
     exact hmr.set xb he hk hx
end
end Go.Abs
