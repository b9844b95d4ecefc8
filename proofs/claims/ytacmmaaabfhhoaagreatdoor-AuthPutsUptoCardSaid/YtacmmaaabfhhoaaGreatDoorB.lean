/- The operations are right: new objects, stores, literals. -/
import Derived.Test.YtacmmaaabfhhoaaGreatDoorA
import Derived.Lib.Strings
set_option linter.unusedVariables false
set_option linter.unusedSimpArgs false
namespace Go.Abs
open Go
section
variable {C:cE}{f:FuncId}{nm:Nm}{H:Heap}{slots:List TV}{a:Act}{w:World}{G:Gh}{v:TV}
def Gh.add (G:Gh)(nm:Nm)(b:Nat)(ar:Option (Nat×Nat×Nat)):Gh:={
 F:=G.F
 mu:=λk=>if k=nm then b else G.mu k
 arr:=λk=>if k=nm then ar else G.arr k
 dom:=λk=>k=nm\/G.dom k}
def World.cL (w:World)(o:Obj):World:={w with heap:=w.heap.push o}
theorem kg (w:World)(o:Obj):(World.cL w o).heap[w.heap.size]?=some o:=by show(w.heap.push o)[w.heap.size]?=_;simp
theorem lI {w:World}{o:Obj}{b:Nat}(h:b<w.heap.size):(World.cL w o).heap[b]?=w.heap[b]?:=by
 show(w.heap.push o)[b]?=_;rw[Array.getElem?_push,if_neg (by omega)]
theorem WF.abi (hw:WF G w){b o:Nat}{u:Value}(h:G.F b o=some u):b<w.heap.size:=by
 obtain⟨vs,ty,fr,h1,_⟩:=hw.F b o u h;exact(Array.getElem?_eq_some_iff.1 h1).1
theorem WF.HI (hw:WF G w)(o:Nat):G.F w.heap.size o=none:=by
 cases h:G.F w.heap.size o with
 |none=>rfl
 |some u=>have:=hw.abi h;omega
theorem BL (hn:¬G.dom nm)(b:Nat)(ar:Option (Nat×Nat×Nat)):G.le (G.add nm b ar):=by
 have hne:∀k,G.dom k->k≠nm:=λk d e=>hn (e▸d)
 refine⟨λ_ _ _ h=>h,λk d=>.inr d,λk d a=> ?_,λk n e c d a=>⟨n,e,c, ?_,Nat.le_refl _,λ_=>⟨rfl,rfl, ?_⟩,.inl rfl⟩⟩
 ·simp[Gh.add,hne k d,a]
 ·simp[Gh.add,hne k d,a]
 ·simp[Gh.add,hne k d]
theorem mD (hw:WF G w)(hn:¬G.dom nm)(o:Obj)(ar:Option (Nat×Nat×Nat))(W:Nm->Prop):Step W (λk=>k=nm) G w (G.add nm w.heap.size ar) (World.cL w o):=by
 have hne:∀k,G.dom k->k≠nm:=λk d e=>hn (e▸d)
 refine⟨BL hn _ _,⟨λb p u h=> ?_,λk k' d d' a a' e=> ?_,λk d=> ?_⟩,λk d _=>by simp[Gh.add,hne k d],λb hb _=>⟨lI hb,λ_=>rfl⟩,λk d=>d.symm.imp id id,λk d=> ?_,by simp[World.cL],rfl,rfl,rfl⟩
 ·obtain⟨vs,ty,fr,h1,h2⟩:=hw.F b p u h;exact⟨vs,ty,fr,by rw[lI (Array.getElem?_eq_some_iff.1 h1).1];exact h1,h2⟩
 ·simp only[Gh.add] at e d d';rcases d with rfl|d<;>rcases d' with rfl|d'
  ·rfl
  ·rw[if_pos rfl,if_neg (hne _ d')] at e;have:=hw.lt _ d';omega
  ·rw[if_neg (hne _ d),if_pos rfl] at e;have:=hw.lt _ d;omega
  ·rw[if_neg (hne _ d),if_neg (hne _ d')] at e;exact hw.inj _ _ d d' ((BL hn _ _).alive d a) ((BL hn _ _).alive d' a') e
 ·simp only[Gh.add,World.cL,Array.size_push] at d ⊢;rcases d with rfl|d
  ·simp
  ·rw[if_neg (hne _ d)];have:=hw.lt _ d;omega
 ·rcases d with rfl|d
  ·exact .inr (by simp[Gh.add])
  ·exact .inl ⟨_,d,by simp[Gh.add,hne _ d],.inl rfl⟩
theorem zy (hw:WF G w)(hn:¬G.dom nm){cs:List TV}{vs:List Value}(hv:cr G cs vs)(ty:TypeId):
 (G.add nm w.heap.size none).dom nm/\OR (G.add nm w.heap.size none) (World.cL w (.cells vs.toArray ty)) nm (.cells ty cs):=by
 refine⟨.inl rfl,by simp[Gh.add],vs.toArray,ty,(0,0), ?_,⟨?_,rfl⟩, ?_, ?_⟩
 ·simp[Gh.add,kg]
 ·intro o _ h;omega
 ·simpa using hv.mono (BL hn _ _)
 ·intro o;simpa [Gh.add] using hw.HI o
theorem HJ (hw:WF G w)(hn:¬G.dom nm){b:Bool}{bE cap:Nat}{cs:List TV}{vs:List Value}(he:0<bE)(hv:cr G cs (vs.take cs.length))(hs:vs.length=cap*bE)(hl:cs.length<=vs.length)(ty:TypeId)(fr:Nat×Nat)(hfr:mo vs.toArray fr)(hun:BG bE fr):
 (G.add nm w.heap.size (some (cs.length,bE,cap))).dom nm/\OR (G.add nm w.heap.size (some (cs.length,bE,cap))) (World.cL w (.cells vs.toArray ty fr)) nm (.arr (ty,b) bE false cs):=by
 refine⟨.inl rfl,he,cap,vs.toArray,ty,fr,by simp[Gh.add], ?_,⟨hfr,rfl,hun⟩,by simpa using hs,by simpa using hl, ?_, ?_⟩
 ·simp[Gh.add,kg]
 ·simpa using hv.mono (BL hn _ _)
 ·intro o _;simpa [Gh.add] using hw.HI o
theorem Bc (hw:WF G w)(hn:¬G.dom nm){b:Bool}{bE cap:Nat}{cs:List TV}{vs:List Value}(he:0<bE)(hv:cr G cs (vs.take cs.length))(hs:vs.length=cap*bE)(hl:cs.length<=vs.length)(ty:TypeId):
 (G.add nm w.heap.size (some (cs.length,bE,cap))).dom nm/\OR (G.add nm w.heap.size (some (cs.length,bE,cap))) (World.cL w (.cells vs.toArray ty)) nm (.arr (ty,b) bE false cs):=
 HJ hw hn he hv hs hl ty (0,0) (λo _ h=>by omega) (λ_=>rfl)
theorem x4 {bE cap n len:Nat}(h:len*bE=n)(hn:¬G.dom nm):VR (G.add nm w.heap.size (some (n,bE,cap))) (.ref nm 0 len) (.slice (some ⟨w.heap.size,0,none⟩) len cap):=by
 refine .ref nm 0 len n bE cap _ (.inl rfl) (by simp[Gh.add]) (by simp[h]) ⟨_,_,rfl⟩ λ_=>⟨_,by simp;rfl,λ_=>by simp[Gh.add]⟩
theorem P3 {o:Oper}{elem:TypeId}{ti:TI}{z:TV}(hw:WF G w)(hn:¬G.dom nm)(ho:o.op=.alloc elem)(ht:bh C.P elem=some ti)(hz:ti.zero=some z):
 cF C.P nm o a w G (.ptr nm 0) [(nm,.cells elem z.cells)]:=by
 obtain⟨x,h1,h2⟩:=fu ht hz w G
 have hc:=h2.cells (pI ht hz)
 have ha:=zy hw hn hc elem
 refine cF.fF (w':=World.cL w (.cells x.cells.toList.toArray elem)) (G':=G.add nm w.heap.size none) (x:=.pointer (some ⟨w.heap.size,0,none⟩)) ?_ (mD hw hn _ _ _) ?_ ?_
 ·simp[execOp,ho,Instr.alloc,h1,newVar,jx,World.cL]
 ·intro k ob hm;simp at hm;obtain⟨rfl,rfl⟩:=hm;exact ha
 ·have:=VR.ptr (G:=G.add nm w.heap.size none) nm 0 (.inl rfl) (by simp[Gh.add]);simpa [Gh.add] using this
theorem YJ {o:Oper}{elem:TypeId}{x:Operand}{z:TV}(hw:WF G w)(hn:¬G.dom nm)(ho:o.op=.box elem x)(hz:VR G z (a.eval x))(hlf:z.cells.all TV.leaf=true):
 cF C.P nm o a w G (.ptr nm 0) [(nm,.cells elem z.cells)]:=by
 have hc:=hz.cells (Ba hlf)
 have ha:=zy hw hn hc elem
 refine cF.fF (w':=World.cL w (.cells (a.eval x).cells.toList.toArray elem)) (G':=G.add nm w.heap.size none) (x:=.pointer (some ⟨w.heap.size,0,none⟩)) ?_ (mD hw hn _ _ _) ?_ ?_
 ·simp[execOp,ho,Instr.box,newVar,jx,World.cL]
 ·intro k ob hm;simp at hm;obtain⟨rfl,rfl⟩:=hm;exact ha
 ·have:=VR.ptr (G:=G.add nm w.heap.size none) nm 0 (.inl rfl) (by simp[Gh.add]);simpa [Gh.add] using this
theorem cr.cJ {cs xs:List TV}{vs ys:List Value}{off:Nat}(h:cr G cs vs)(hx:cr G xs ys):cr G (cJ cs off xs) (over vs off ys):=by
 unfold Go.Abs.cJ over;rw[hx.1];exact((h.take off).append hx).append (h.drop _)
theorem zz {vs ys:List Value}{off n:Nat}(h:off+ys.length<=n)(hn:n<=vs.length):(over vs off ys).take n=over (vs.take n) off ys:=by
 unfold over;apply List.ext_getElem?;intro i;simp only[List.getElem?_take,List.getElem?_append,List.length_append,List.length_take,List.getElem?_drop];by_cases c1:i<n
 ·rw[if_pos c1];have e1:min off vs.length=off:=by omega
  have e2:min off (min n vs.length)=off:=by omega
  rw[e1,e2];by_cases c2:i<off
  ·simp[c2,show i<off+ys.length by omega,c1]
  ·by_cases c3:i<off+ys.length
   ·simp[c2,c3]
   ·simp[c3];intro hc;omega
 ·rw[if_neg c1];have e2:min off (min n vs.length)=off:=by omega
  rw[e2,if_neg (by omega),if_neg (by omega)]
theorem lz {cs xs:List TV}{off:Nat}(h:off+xs.length<=cs.length):(cJ cs off xs).length=cs.length:=by
 unfold cJ;simp;omega
theorem cX {vs ys:List Value}{off:Nat}(h:off+ys.length<=vs.length):(over vs off ys).length=vs.length:=by
 unfold over;simp;omega
theorem p5 {xs:List TV}{ys:List Value}(h:cr G xs ys)(hl:xs.all TV.leaf=true):∀y∈ys,one y=true:=by
 intro y hy;obtain⟨j,hj⟩:=List.mem_iff_getElem?.1 hy;have hjl:j<xs.length:=by have:=(List.getElem?_eq_some_iff.1 hj).1;have:=h.1;omega
 have hx:=List.getElem?_eq_getElem hjl;exact(h.2 j _ _ hx hj).leaf (List.all_eq_true.1 hl _ (List.getElem_mem hjl))
theorem iT (hw:WF G w){k:Nm}(hd:G.dom k)(ak:G.alive k){vs:List Value}{us:Array Value}{ty:TypeId}{fr:Nat×Nat}(hh:w.heap[G.mu k]?=some (.cells us ty fr))
 (hF:∀o,(∃u,G.F (G.mu k) o=some u)->vs[o]?=us[o]?):Step (λx=>x=k) (λ_=>False) G w G (World.bk w (G.mu k) vs.toArray ty fr):=by
 refine⟨.refl G,⟨λb o u h=> ?_,hw.inj,λk d=>by rw[mA];exact hw.lt k d⟩,λ_ _ _=>⟨rfl,rfl⟩,λb hb hn=>⟨iG (hn k rfl hd ak) _ _ _,λ_=>rfl⟩,λ_ d=>.inl d,λk d=>.inl ⟨k,d,rfl,.inl rfl⟩,by rw[mA];exact Nat.le_refl _,rfl,rfl,rfl⟩
 obtain⟨us',ty',fr',h1,h2⟩:=hw.F b o u h
 by_cases e:G.mu k=b
 ·subst e;refine⟨vs.toArray,ty,fr,b9 (hw.lt k hd) _ _ _, ?_⟩;rw[hh] at h1;simp at h1;obtain⟨rfl,_,_⟩:=h1;have:=hF o ⟨u,h⟩;rw[h2] at this;simpa using this
 ·exact⟨us',ty',fr',by rw[iG e];exact h1,h2⟩
theorem x5 {t:TypeId}{ti:TI}{x:Value}{p:TV}{b o:Nat}{vs:List Value}{ty:TypeId}{fr:Nat×Nat}(ht:bh C.P t=some ti)(hx:VR G p x)(hl:p.cells.length=ti.size)(hlf:p.cells.all TV.leaf=true)
 (hh:w.heap[b]?=some (.cells vs.toArray ty fr))(mV:mo vs.toArray fr)(hle:o+ti.size<=vs.length):
 (storeVar t ⟨b,o,none⟩ x).run C.P w=.ok () (World.bk w b (over vs o x.cells.toList).toArray ty fr):=by
 have hc:=hx.cells (Ba hlf)
 have hsz:x.cells.size=ti.size:=by have:=hc.1;simp at this;omega
 unfold storeVar
 rw[gA (eB ht w)]
 have:=ia (P:=C.P) (o:=o) x.cells.toList w 0 vs (p5 hc hlf) hh mV (by simp[hsz];omega)
 simp only[Nat.add_zero] at this
 simp[hsz,this]
theorem Ns {o:Oper}{t:TypeId}{pa px:Operand}{p q:TV}{u:List (Nm×aO)}(hw:WF G w)(hH:HR G w H)(ho:o.op=.store t pa px)(hp:VR G p (a.eval pa))(hq:VR G q (a.eval px))(h:storeT C.P H t p q=some u):
 cF C.P nm o a w G bR u:=by
 unfold storeT at h
 cases ht:bh C.P t<;>simp only[ht,reduceCtorEq] at h
 rename_i ti
 split at h
 ·rename_i hc;obtain⟨hl,hlf⟩:=hc;have hqc:=hq.cells (Ba hlf);have hql:(a.eval px).cells.toList.length=ti.size:=by rw[hqc.1,hl]
  split at h
  ·rename_i k off;split at h
   ·rename_i Fo cs hk;split at h<;>simp at h;rename_i hle;subst h;obtain⟨hd,har,vs,ty,fr,hh,mV,hv,hF⟩:=hH k _ hk;generalize hpv:a.eval pa=pv at hp;cases hp with|ptr _ _ _ _=>
    have hvl:vs.toList.length=cs.length:=hv.1;have hrun:=x5 (o:=off) ht hq hl hlf (by simpa using hh) (by simpa using mV.1) (by omega);have hst:=iT (vs:=over vs.toList off (a.eval px).cells.toList) hw hd (Gh.jt har) hh (λo ⟨u,hu⟩=>by rw[hF] at hu;simp at hu);refine cF.Bb (w':=World.bk w (G.mu k) (over vs.toList off (a.eval px).cells.toList).toArray ty fr) (G':=G) ?_ (hst.mono (λx _ e=>by simp[e]) (λ_ e=>e.elim)) ?_
    ·simp[execOp,ho,Instr.storeAt,hpv,Instr.sureAddr,hrun]
    ·intro k' ob hm;simp at hm;obtain⟨rfl,rfl⟩:=hm;refine⟨hd,har,_,ty,fr,b9 (hw.lt _ hd) _ _ _,⟨?_,mV.2⟩,by simpa using hv.cJ hqc,hF⟩;intro o ho';have:(over vs.toList off (a.eval px).cells.toList).length=vs.toList.length:=cX (by omega);exact mV.1 o (by simp[this] at ho';simpa using ho')
   ·simp at h
  ·rename_i k n off;split at h
   ·rename_i g bE cs hk;split at h<;>simp at h;rename_i dF;obtain⟨hn,hle⟩:=dF;subst h;obtain⟨hd,he,cap,vs,ty,fr,har,hh,mV,hs,hlc,hv,hF⟩:=hH k _ hk;generalize hpv:a.eval pa=pv at hp;cases hp with|jB _ _ _ n' PX cap' _ hd' qC hle' ho' uy=>
    rw[har] at qC;simp at qC;obtain⟨e1,e2,e3⟩:=qC;have hx:=uy (by omega);subst hx;have hrun:=x5 (o:=off) ht hq hl hlf (by simpa using hh) (by simpa using mV.1) (by simp;omega);have hst:=iT (vs:=over vs.toList off (a.eval px).cells.toList) hw hd (Gh.iF har he) hh (λo ⟨u,hu⟩=>by rw[hF o (.inl rfl)] at hu;simp at hu);have hlen:(over vs.toList off (a.eval px).cells.toList).length=vs.toList.length:=cX (by rw[hql];simp;omega);refine cF.Bb (w':=World.bk w (G.mu k) (over vs.toList off (a.eval px).cells.toList).toArray ty fr) (G':=G) ?_ (hst.mono (λx _ e=>by simp[e]) (λ_ e=>e.elim)) ?_
    ·simp[execOp,ho,Instr.storeAt,hpv,Instr.sureAddr,hrun]
    ·intro k' ob hm;simp at hm;obtain⟨rfl,rfl⟩:=hm;have DA:(cJ cs off q.cells).length=cs.length:=lz (by omega);refine⟨hd,he,cap,_,ty,fr,by rw[DA];exact har,b9 (hw.lt _ hd) _ _ _,⟨?_,mV.2⟩,by simpa [hlen] using hs,by simp[hlen,DA];omega, ?_,λo _=>hF o (.inl rfl)⟩
     ·intro o ho';exact mV.1 o (by simp[hlen] at ho';simpa using ho')
     ·rw[DA];simp only[List.toList_toArray];rw[zz (by omega) (by simp;omega)];exact hv.cJ hqc
   ·simp at h
  ·simp at h
 ·simp at h
end
end Go.Abs
namespace Go.Abs
open Go
theorem BM (off:Nat):∀(ys:List Value) (j0:Nat) (vs:List Value),off+j0+ys.length<=vs.length->
 (ys.zipIdx j0).foldl (λ(cs:Array Value) (p:Value×Nat)=>cs.setIfInBounds (off+p.2) p.1) vs.toArray=(over vs (off+j0) ys).toArray:=by
 intro ys
 induction ys with
 |nil=>intro j0 vs _;simp[uw]
 |cons y r ih=>
  intro j0 vs h
  simp only[List.zipIdx_cons,List.foldl_cons]
  have:vs.toArray.setIfInBounds (off+j0) y=(vs.set (off+j0) y).toArray:=by simp
  rw[this,ih (j0+1) _ (by simp at h ⊢;omega),← Nat.add_assoc,D3 (by simpa [Nat.add_assoc] using h)]
theorem BN (ys:Array Value)(off:Nat)(vs:List Value)(h:off+ys.size<=vs.length):
 ys.zipIdx.foldl (λ(cs:Array Value) (p:Value×Nat)=>cs.setIfInBounds (off+p.2) p.1) vs.toArray=(over vs off ys.toList).toArray:=by
 have:=BM off ys.toList 0 vs (by simpa using h)
 rw[← Array.foldl_toList,Array.toList_zipIdx]
 simpa using this
section
variable {C:cE}{f:FuncId}{nm:Nm}{H:Heap}{slots:List TV}{a:Act}{w:World}{G:Gh}{v:TV}
inductive PR (G:Gh):List (Nat×TV)->List (Nat×Value)->Prop
 |nil:PR G [] []
 |cons {i x y ps qs} (h:VR G x y) (hs:PR G ps qs):PR G ((i,x)::ps) ((i,y)::qs)
theorem HK (hs:SR G slots a)(hg:iA C G){l:List (Nat×Operand)}{ps:List (Nat×TV)}(h:pX C slots l=some ps):PR G ps (l.map λ(p:Nat×Operand)=>(p.1,a.eval p.2)):=by
 induction l generalizing ps with
 |nil=>simp[pX] at h;subst h;exact .nil
 |cons p r ih=>
  obtain⟨i,x⟩:=p
  simp only[pX] at h
  cases h1:bU C slots x<;>cases h2:pX C slots r<;>simp[h1,h2] at h
  subst h
  exact .cons (bM hs hg h1) (ih h2)
theorem BO {place:Nat->Option (Nat×Nat)}{ps:List (Nat×TV)}{qs:List (Nat×Value)}(hp:PR G ps qs):∀{cs ds:List TV} {vs:List Value},cr G cs vs->qy place cs ps=some ds->
 ∃us:List Value,Instr.fill place vs.toArray qs=some us.toArray/\cr G ds us:=by
 induction hp with
 |nil=>intro cs ds vs hv h;simp[qy] at h;subst h;exact⟨vs,by simp[Instr.fill],hv⟩
 | cons hxy h2 ih=>
   rename_i i x y ps' qs'
   intro cs ds vs hv h
   simp only[qy] at h
   cases hpl:place i with
   |none=>rw[hpl] at h;simp at h
   | some os=>
     obtain⟨off,size⟩:=os
     rw[hpl] at h
     simp only at h
     split at h
     · rename_i hc
       obtain⟨c1,c2,c3⟩:=hc
       have hxc:=hxy.cells (Ba c3)
       have hsz:y.cells.size=size:=by have:=hxc.1;simp at this;omega
       have hvl:=hv.1
       obtain⟨us,h3,h4⟩:=ih (hv.cJ hxc (off:=off)) h
       refine⟨us, ?_,h4⟩
       simp only[Instr.fill,hpl]
       rw[if_neg (by simp[hsz];omega)]
       rw[BN _ _ _ (by omega)]
       exact h3
     · simp at h
theorem AR {w:World}:∀{l:List Field} {ps:List (Nat×Nat)},j6 C.P l=some ps->(l.mapM λf=>Prod.mk f.offset<$>sizeOf f.type:Sem (List (Nat×Nat))).run C.P w=.ok ps w:=by
 intro l;induction l with
 |nil=>intro ps h;simp[j6] at h;subst h;simp
 |cons f r ih=>
  intro ps h
  simp only[j6] at h
  cases h1:bh C.P f.type<;>cases h2:j6 C.P r<;>simp[h1,h2] at h
  subst h
  simp only[List.mapM_cons]
  simp[eB h1 w,ih h2]
theorem JW {t:TypeId}{ps:List (Nat×TV)}{qs:Array (Nat×Value)}(hp:PR G ps qs.toList)(h:JS C.P t ps=some v)(w:World):∃r,(Instr.build t qs).run C.P w=.ok r w/\VR G v r:=by
 unfold JS at h;cases ht:bh C.P t<;>simp only[ht,reduceCtorEq] at h;rename_i ti;obtain⟨_,_,hu,_⟩:=bD ht;have j3:=aH hu w;split at h
 ·rename_i z fs hz hd;cases hf:j6 C.P fs.toList<;>simp only[hf,reduceCtorEq] at h;rename_i pl;cases hfl:qy (λi=>pl[i]?) z.cells ps<;>simp only[hfl,reduceCtorEq] at h;rename_i cs;simp at h;subst h;obtain⟨zv,h1,h2⟩:=fu ht hz w G;obtain⟨us,h3,h4⟩:=BO hp (h2.cells (pI ht hz)) hfl;refine⟨.agg us.toArray, ?_,uo h4⟩;have hfun:(λi:Nat=>(pl.toArray)[i]?)=λi=>pl[i]?:=by funext i;simp
  have hm:=AR (C:=C) (w:=w) hf;simp[Instr.build,h1,j3,hd,Array.mapM_eq_mapM_toList,hm,hfun];simp only[Array.toArray_toList] at h3;rw[h3];rfl
 ·rename_i z n elem hz hd;cases hte:bh C.P elem<;>simp only[hte,reduceCtorEq] at h;rename_i te;cases hfl:qy (λi=>some (i*te.size,te.size)) z.cells ps<;>simp only[hfl,reduceCtorEq] at h;rename_i cs;simp at h;subst h;obtain⟨zv,h1,h2⟩:=fu ht hz w G;obtain⟨us,h3,h4⟩:=BO hp (h2.cells (pI ht hz)) hfl;refine⟨.agg us.toArray, ?_,uo h4⟩;simp[Instr.build,h1,j3,hd,eB hte w];simp only[Array.toArray_toList] at h3;rw[h3];rfl
 ·simp at h
theorem gC (n:Nat)(z:List TV):(qR n z).length=n*z.length:=by
 induction n with
 |zero=>simp[qR]
 |succ n ih=>simp[qR,ih,Nat.succ_mul];omega
theorem BP {z:List TV}:∀{n j:Nat},j<n*z.length->(qR n z)[j]?=z[j % z.length]?:=by
 intro n;induction n with
 |zero=>intro j h;simp at h
 | succ n ih=>
   intro j h
   simp only[qR]
   by_cases hj:j<z.length
   · rw[List.getElem?_append_left hj,Nat.mod_eq_of_lt hj]
   · rw[List.getElem?_append_right (by omega),ih (by rw[Nat.succ_mul] at h;omega)]
     have:j % z.length=(j - z.length) % z.length:=Nat.mod_eq_sub_mod (by omega)
     rw[this]
theorem BQ {z:TV}{zv:Value}(hz:VR G z zv)(hne:z≠ .any)(n m:Nat)(hm:z.cells.length=m)(hpos:0<m):cr G (qR n z.cells) ((Array.range (n*m)).map (zv.cells[· % zv.cells.size]!)).toList:=by
 have hc:=hz.cells hne;have hsz:zv.cells.size=m:=by have:=hc.1;simp at this;omega
 refine⟨by simp[gC,hm],λj c u h1 h2=> ?_⟩;have hj:j<n*m:=by have:=(List.getElem?_eq_some_iff.1 h1).1;rw[gC,hm] at this;exact this
 rw[BP (by rw[hm];exact hj),hm] at h1;have hmod:j % m<m:=Nat.mod_lt _ hpos;simp[hj,hsz,hmod] at h2;refine hc.2 (j % m) c u h1 ?_;simp[← h2,hsz,hmod]
open Classical in
noncomputable def Gh.row (G:Gh)(b:Nat)(vs:List Value):Gh:={G with F:=λc o=>if c=b then vs[o]? else G.F c o}
theorem P4 (hw:WF G w)(vs:List Value):G.le (G.row w.heap.size vs):=by
 refine⟨λb o u h=> ?_,λ_ d=>d,λ_ _ a=>⟨a,rfl⟩,λ_ n e c _ a=>⟨n,e,c,a,Nat.le_refl _,λ_=>⟨rfl,rfl,rfl⟩,.inl rfl⟩⟩;have:=hw.abi h;simp only[Gh.row];rw[if_neg (by omega)];exact h
theorem row_step (hw:WF G w)(vs:List Value)(ty:TypeId)(W N:Nm->Prop)(fr:Nat×Nat:=(0,0)):Step W N G w (G.row w.heap.size vs) (World.cL w (.cells vs.toArray ty fr)):=by
 refine⟨P4 hw vs,⟨λb o u h=> ?_,hw.inj,λk d=> ?_⟩,λ_ _ _=>⟨rfl,rfl⟩,λb hb _=>⟨lI hb,λo=>by simp[Gh.row];omega⟩,λ_ d=>.inl d,λk d=>.inl ⟨k,d,rfl,.inl rfl⟩,by simp[World.cL],rfl,rfl,rfl⟩
 ·simp only[Gh.row] at h;split at h
  ·rename_i e;subst e;exact⟨vs.toArray,ty,fr,kg _ _,by simpa using h⟩
  ·obtain⟨us,ty',fr',h1,h2⟩:=hw.F b o u h;exact⟨us,ty',fr',by rw[lI (Array.getElem?_eq_some_iff.1 h1).1];exact h1,h2⟩
 ·have:=hw.lt k d;show G.mu k<(w.heap.push _).size;simp;omega
theorem JX (hw:WF G w){g:Bool}{bE len:Nat}{ts es:List Tree}{vs:List Value}(hv:AQ G.F ts vs)(hc:chunk g bE len ts=some es)(cap:Nat)(hcap:len<=cap)(vs':List Value)(hpre:∀(j:Nat) u,vs[j]?=some u->vs'[j]?=some u):
 VT (G.row w.heap.size vs').F (.sl es) (.slice (some ⟨w.heap.size,0,none⟩) len cap):=by
 obtain⟨c1,c2,c3⟩:=sG hc
 subst c1
 by_cases hne:es=[]
 ·subst hne;exact .zm _ _
 ·refine .sl bE es _ 0 cap (λj=>vs.getD j undef) hne hcap c3 ?_ ?_
  ·intro j c hj;rw[c2] at hj;have hjl:j<vs.length:=by have:=(List.getElem?_eq_some_iff.1 hj).1;have:=hv.1;omega
   simp only[Gh.row,Nat.zero_add,if_true];rw[hpre j vs[j] (List.getElem?_eq_getElem hjl)];simp[List.getD,hjl]
  ·intro j c hj;rw[c2] at hj;have hjl:j<vs.length:=by have:=(List.getElem?_eq_some_iff.1 hj).1;have:=hv.1;omega
   have:=hv.2 j c vs[j] hj (List.getElem?_eq_getElem hjl);have e:vs.getD j undef=vs[j]:=by simp[List.getD,hjl]
   rw[e];exact this.mono (P4 hw vs').F
theorem BR {o:Oper}{alA:Bool}{t:TypeId}{len:Nat}{parts:Array (Nat×Operand)}{ps:List (Nat×TV)}{u:List (Nm×aO)}(hw:WF G w)(hn:¬G.dom nm)(ho:o.op=.buildSlice t len parts)
 (hp:PR G ps (parts.map λ(p:Nat×Operand)=>(p.1,a.eval p.2)).toList)(h:qz C.P alA nm t len ps=some (v,u)):cF C.P nm o a w G v u:=by
 unfold qz at h
 cases ht:bh C.P t<;>simp only[ht,reduceCtorEq] at h
 rename_i ti
 obtain⟨_,_,hu,_⟩:=bD ht
 split at h
 ·rename_i elem hd;cases hte:bh C.P elem<;>simp only[hte,reduceCtorEq] at h;rename_i te;cases hz:te.zero<;>simp only[hz,reduceCtorEq] at h;rename_i z;split at h
  ·rename_i hc;obtain⟨c1,c2,c3,c4⟩:=hc;cases hfl:qy (λi=>some (i*te.size,te.size)) (qR len z.cells) ps<;>simp only[hfl,reduceCtorEq] at h;rename_i cs;obtain⟨zv,h1,h2⟩:=fu hte hz w G;have hr:=BQ h2 (pI hte hz) len te.size c3 c1;obtain⟨us,h3,h4⟩:=BO hp hr hfl;have abj:cs.length=len*te.size:=by
    have:∀(ps:List (Nat×TV)) (cs ds:List TV),qy (λi=>some (i*te.size,te.size)) cs ps=some ds->ds.length=cs.length:=by
     intro ps;induction ps with
     |nil=>intro cs ds h;simp[qy] at h;rw[h]
     | cons p r ih=>
       intro cs ds h
       simp only[qy] at h
       split at h
       · rename_i hcc
         rw[ih _ _ h,lz (by omega)]
       · simp at h
    rw[this _ _ _ hfl,gC,c3]
   have mE:us.length=len*te.size:=by rw[h4.1,abj]
   have hrun:(execOp a.eval o).run C.P w=.ok (.value (.slice (some ⟨w.heap.size,0,none⟩) len len)) (World.cL w (.cells us.toArray elem)):=by
    have j3:=aH hu w;simp only[Array.toArray_toList] at h3;simp only[execOp,ho,Instr.buildSlice];simp only[bind_assoc,pure_bind,Sem.run_bind,j3,hd,Result.andThen_ok,eB hte w];rw[if_neg (by omega)];simp only[bind_assoc,pure_bind,Sem.run_bind,Result.andThen_ok,Sem.run_pure];by_cases h0:len*te.size=0
    ·rw[if_pos h0];have e:((Array.range (len*te.size)).map λx=>(#[]:Array Value)[x % (#[]:Array Value).size]!)=(Array.range (len*te.size)).map (zv.cells[· % zv.cells.size]!):=by rw[h0];simp
     rw[e,h3];simp[jx,World.cL]
    ·rw[if_neg h0];simp only[bind_assoc,pure_bind,Sem.run_bind,Result.andThen_ok,Sem.run_pure,h1,h3];simp[jx,World.cL]
   have BS:∀g:Bool,cF C.P nm o a w G (.ref nm 0 len) [(nm,.arr (elem,g) te.size false cs)]:=by
    intro g;have AU:=Bc (b:=g) (cap:=len) hw hn c1 (cs:=cs) (vs:=us) (by rw[List.take_of_length_le (by omega)];exact h4) mE (by omega) elem;refine cF.fF hrun (mD hw hn _ (some (cs.length,te.size,len)) _) ?_ ?_
    ·intro k ob hm;simp at hm;obtain⟨rfl,rfl⟩:=hm;exact AU
    ·exact x4 (by rw[abj]) hn
   split at h
   ·rename_i es wD;simp at h;obtain⟨rfl,rfl⟩:=h;cases hal:allT (cs.map L7)<;>rw[hal] at wD<;>simp at wD;rename_i ts;have h4:=Nk h4;rw[zq hal] at h4;have HM:=JX hw h4.PJ wD len (Nat.le_refl _) us (λ_ _ h=>h);refine cF.fF hrun (row_step hw us elem _ _) (λ_ _ hm=>by simp at hm) ?_;obtain⟨e1,_⟩:=sG wD;subst e1;exact .j4 es _ HM
   ·simp at h;obtain⟨rfl,rfl⟩:=h;exact BS _
  ·simp at h
 ·simp at h
end
end Go.Abs
namespace Go.Abs
open Go
theorem x6 {n:Nat}:∀{es:List Tree} {i j:Nat} {e:Tree},(∀e∈es,e.cells.length=n)->es[i]?=some e->j<n->(flat es)[i*n+j]?=e.cells[j]?:=by
 intro es;induction es with
 |nil=>intro i j e _ h;simp at h
 | cons x r ih=>
  intro i j e hu h hj
  have hx:x.cells.length=n:=hu x List.mem_cons_self
  cases i with
  |zero=>
   simp at h;subst h
   simp only[flat,List.flatMap_cons,Nat.zero_mul,Nat.zero_add]
   rw[List.getElem?_append_left (by omega)]
  |succ i=>
   simp only[flat,List.flatMap_cons]
   rw[List.getElem?_append_right (by rw[hx,Nat.succ_mul];omega),hx]
   have:=ih (i:=i) (j:=j) (e:=e) (λe he=>hu e (List.mem_cons_of_mem _ he)) (by simpa using h) hj
   rw[← this]
   simp only[flat]
   congr 1
   rw[Nat.succ_mul];omega
theorem iK {n:Nat}:∀{es:List Tree},(∀e∈es,e.cells.length=n)->(flat es).length=es.length*n:=by
 intro es;induction es with
 |nil=>intro _;simp[flat]
 |cons x r ih=>
  intro hu
  have:=ih (λe he=>hu e (List.mem_cons_of_mem _ he))
  simp only[flat,List.flatMap_cons,List.length_append,hu x List.mem_cons_self,List.length_cons] at this ⊢
  rw[this,Nat.succ_mul];omega
theorem zA {n:Nat}:∀{es:List Tree} {l:Nat},(∀e∈es,e.cells.length=n)->flat (es.drop l)=(flat es).drop (l*n):=by
 intro es;induction es with
 |nil=>intro l _;simp[flat]
 | cons x r ih=>
  intro l hu
  cases l with
  |zero=>simp
  |succ l=>
   have hx:x.cells.length=n:=hu x List.mem_cons_self
   have:=ih (l:=l) (λe he=>hu e (List.mem_cons_of_mem _ he))
   simp only[List.drop_succ_cons,flat,List.flatMap_cons] at this ⊢
   have e1:x.cells.drop ((l+1) *n)=[]:=List.drop_eq_nil_of_le (by rw[hx,Nat.succ_mul];omega)
   have e2:(l+1) *n - x.cells.length=l*n:=by rw[hx,Nat.succ_mul];omega
   rw[this,List.drop_append,e1,List.nil_append,e2]
theorem zB {n:Nat}:∀{es:List Tree} {l:Nat},(∀e∈es,e.cells.length=n)->flat (es.take l)=(flat es).take (l*n):=by
 intro es;induction es with
 |nil=>intro l _;simp[flat]
 | cons x r ih=>
  intro l hu
  cases l with
  |zero=>simp[flat]
  |succ l=>
   have hx:x.cells.length=n:=hu x List.mem_cons_self
   have:=ih (l:=l) (λe he=>hu e (List.mem_cons_of_mem _ he))
   simp only[List.take_succ_cons,flat,List.flatMap_cons] at this ⊢
   have e1:x.cells.take ((l+1) *n)=x.cells:=List.take_of_length_le (by rw[hx,Nat.succ_mul];omega)
   have e2:(l+1) *n - x.cells.length=l*n:=by rw[hx,Nat.succ_mul];omega
   rw[this,List.take_append,e1,e2]
section
variable {C:cE}{f:FuncId}{nm:Nm}{H:Heap}{slots:List TV}{a:Act}{w:World}{G:Gh}{v:TV}
theorem lJ {k:Nm}{off len:Nat}{g:TypeId×Bool}{bE:Nat}{fz:Bool}{cs:List TV}(h:jc H k off len=some (g,bE,fz,cs)):H.get k=some (.arr g bE fz cs)/\0<bE/\(off+len) *bE=cs.length:=by
 unfold jc at h;split at h
 ·split at h<;>simp at h;rename_i hc;obtain⟨rfl,rfl,rfl,rfl⟩:=h;exact⟨by assumption,hc.1,hc.2⟩
 ·simp at h
theorem sH {k:Nm}{off len:Nat}{g:TypeId×Bool}{bE:Nat}{fz:Bool}{cs:List TV}{x:Value}(hH:HR G w H)(h:jc H k off len=some (g,bE,fz,cs))(hx:VR G (.ref k off len) x):
 ∃cap vs ty fr b,G.dom k/\G.arr k=some (cs.length,bE,cap)/\w.heap[G.mu k]?=some (.cells vs ty fr)/\(mo vs fr/\ty=g.1/\BG bE fr)/\vs.size=cap*bE/\cs.length<=vs.size/\cr G cs (vs.toList.take cs.length)/\
  (∀o,(fz=false\/cs.length<=o)->G.F (G.mu k) o=none)/\x=.slice b len (cap - off)/\off+len<=cap/\(off<cap->b=some ⟨G.mu k,off*bE,none⟩):=by
 obtain⟨hk,hpos,htip⟩:=lJ h
 obtain⟨hd,he,cap,vs,ty,fr,ha,hh,ht,hs,hl,hv,hf⟩:=hH k _ hk
 cases hx with|ref _ _ _ n' PX cap' _ hd' qC hle ho uy=>
  rw[ha] at qC
  simp at qC
  obtain⟨e1,e2,e3⟩:=qC
  subst e2;subst e3
  obtain⟨b,rfl,hb⟩:=uy (by rw[htip];exact e1)
  have hcap:off+len<=cap:=by
   have:(off+len) *bE<=cap*bE:=by rw[htip,← hs];exact hl
   exact Nat.le_of_mul_le_mul_right this hpos
  exact⟨cap,vs,ty,fr,b,hd,ha,hh,ht,hs,hl,hv,hf,rfl,hcap,hb⟩
theorem Vg {p:TV}{x:Value}{n:Nat}(hp:VR G p x)(h:wQ H p=some n):(∃s:List UInt8,p=.t (.str s)/\n=s.length)\/(∃b c,x=.slice b n c)\/(p=.t .iQ)\/(∃k,p=.map k)\/(∃k o l,p=.ref k o l/\n=l):=by
 unfold wQ at h;split at h
 ·simp at h;exact .inl ⟨_,rfl,h.symm⟩
 ·simp at h;subst h;cases hp with|t _ _ hp=>cases hp with
   |zm b c=>exact .inr (.inl ⟨b,c,rfl⟩)
   |sl=>exact .inr (.inl ⟨_,_,rfl⟩)
 ·simp at h;subst h;cases hp;exact .inr (.inl ⟨_,_,rfl⟩)
 ·simp at h;subst h;cases hp;exact .inr (.inl ⟨_,_,rfl⟩)
 ·simp at h;exact .inr (.inr (.inr (.inr ⟨_,_,_,rfl,h.symm⟩)))
 ·exact .inr (.inr (.inl rfl))
 ·exact .inr (.inr (.inr (.inl ⟨_,rfl⟩)))
 ·simp at h
theorem VT.XM {F:uh}{es:List Tree}{x:Value}{i:Nat}{e:Tree}(h:VT F (.sl es) x)(he:es[i]?=some e):
 ∃b o cap bE,∃vals:Nat->Value,x=.slice (some ⟨b,o,none⟩) es.length cap/\e.cells.length=bE/\(∀(j:Nat) c,e.cells[j]?=some c->F b (o+i*bE+j)=some (vals j))/\∀(j:Nat) c,e.cells[j]?=some c->VT F c (vals j):=by
 cases h with
 |zm b c=>simp at he
 | sl bE _ b o cap vals hne hc hu hF hv=>
   have hem:e∈es:=List.mem_of_getElem? he
   refine⟨b,o,cap,bE,λj=>vals (i*bE+j),rfl,hu e hem,λj c hj=> ?_,λj c hj=> ?_⟩
   · have hjl:j<bE:=by rw[← hu e hem];exact(List.getElem?_eq_some_iff.1 hj).1
     rw[Nat.add_assoc]
     exact hF _ c (by rw[x6 hu he hjl];exact hj)
   · have hjl:j<bE:=by rw[← hu e hem];exact(List.getElem?_eq_some_iff.1 hj).1
     exact hv _ c (by rw[x6 hu he hjl];exact hj)
theorem ox {t elem:TypeId}{ti te:TI}{b:Option Addr}{len cap:Nat}{i:Nat}{k:IntKind}{bb oo:Nat}(ht:bh C.P t=some ti)(hd:ti.desc=.slice elem)(hte:bh C.P elem=some te)
 (hb:b=some ⟨bb,oo,none⟩)(hi:i<len):(Instr.indexAt t (.slice b len cap) (.int k (i:Int))).run C.P w=.ok (.pointer (some ⟨bb,oo+i*te.size,none⟩)) w:=by
 subst hb
 obtain⟨_,_,hu,_⟩:=bD ht
 rw[hd] at hu
 have j3:=aH hu w
 simp[Instr.indexAt,asIntOf,j3,eB hte w,hi,nR]
theorem BT {t:TypeId}{x y:Value}{p q:TV}(hH:HR G w H)(hp:VR G p x)(hq:VR G q y)(h:dW C.P H t p q=some v):∃r,(Instr.indexAt t x y).run C.P w=.ok r w/\VR G v r:=by
 unfold dW at h;cases ht:bh C.P t<;>cases hi:fV q<;>simp only[ht,hi,reduceCtorEq] at h;rename_i ti i;obtain⟨k,rfl⟩:=p0 hq hi;split at h
 ·rename_i elem es hd;cases hte:bh C.P elem<;>cases he:es[i]? <;>simp only[hte,he,reduceCtorEq] at h;rename_i te e;split at h<;>simp at h;rename_i hs;subst h;obtain⟨b,o,cap,bE,vals,rfl,h1,h2,h3⟩:=hp.tree.XM he;refine⟨_,ox ht hd hte rfl (List.getElem?_eq_some_iff.1 he).1, ?_⟩;rw[← hs,h1];exact .jC e.cells 0 b (o+i*bE) vals h2 h3
 ·rename_i elem es hd;cases hte:bh C.P elem<;>cases he:es[i]? <;>simp only[hte,he,reduceCtorEq] at h;rename_i te e;split at h<;>simp at h;rename_i hs;subst h;cases hp with|j4 _ ad hp=>
  obtain⟨b,o,cap,bE,vals,hx,h1,h2,h3⟩:=hp.XM he;simp at hx;obtain⟨hx,hx2⟩:=hx;refine⟨_,ox ht hd hte hx (List.getElem?_eq_some_iff.1 he).1, ?_⟩;rw[← hs,h1];exact .jC e.cells 0 b (o+i*bE) vals h2 h3
 ·rename_i elem k' off len hd;cases hte:bh C.P elem<;>cases hr:jc H k' off len<;>simp only[hte,hr,reduceCtorEq] at h;rename_i te r;obtain⟨g,bE,fz,cs⟩:=r;simp only at h;split at h<;>simp at h;rename_i hc;obtain⟨hs,hil⟩:=hc;subst h;obtain⟨cap,vs,ty,fr,b,qv,har,hh,mV,hsz,hlc,hv,hf,rfl,hcap,hb⟩:=sH hH hr hp;refine⟨_,ox ht hd hte (hb (by omega)) hil, ?_⟩;have e:off*bE+i*te.size=(off+i) *bE:=by rw[hs,Nat.add_mul]
  rw[e];exact .jB k' cs.length _ cs.length bE cap _ qv har (Nat.le_refl _) ⟨_,rfl⟩ (λ_=>rfl)
 ·rename_i len elem hd;cases hte:bh C.P elem<;>simp only[hte,reduceCtorEq] at h;rename_i te;split at h
  ·rename_i hil;obtain⟨b,o,rfl,hv⟩:=D7 hH hp h;refine⟨_, ?_,hv⟩;obtain⟨_,_,hu,_⟩:=bD ht;rw[hd] at hu;have j3:=aH hu w;simp[Instr.indexAt,asIntOf,j3,eB hte w,hil,nR,Instr.sureAddr]
  ·simp at h
 ·simp at h
theorem VT.sub {F:uh}{es:List Tree}{b:Option Addr}{len cap l h m size:Nat}(hv:VT F (.sl es) (.slice b len cap))(hs:j7 size es=true)(h1:l<=h)(h2:h<=len)(h3:h<=m):
 VT F (.sl ((es.take h).drop l)) (.slice (if m=l then b else b.map (·.add (l*size))) (h - l) (m - l)):=by
 have hlen:len=es.length:=by cases hv<;>simp
 by_cases e:l=h
 ·subst e;rw[Nat.sub_self,List.drop_eq_nil_of_le (by simp;omega)];exact .zm _ _
 ·cases hv with
  |zm=>simp at h2;omega
  | sl bE _ b' o _ vals hne hc hu hF L9=>
    have hsz:bE=size:=by
      cases es with
      |nil=>exact absurd rfl hne
      |cons x r=>simp[j7] at hs;rw[← hs];exact(hu x List.mem_cons_self).symm
    subst hsz
    rw[if_neg (by omega)]
    simp only[Option.map_some,nR]
    have hsub:∀x∈(es.take h).drop l,x.cells.length=bE:=λx hx=>hu x (List.mem_of_mem_take (List.mem_of_mem_drop hx))
    have P5:((es.take h).drop l).length=h - l:=by simp;omega
    have hfl:flat ((es.take h).drop l)=((flat es).take (h*bE)).drop (l*bE):=by
      rw[zA (λx hx=>hu x (List.mem_of_mem_take hx)),zB hu]
    rw[← P5]
    refine .sl bE _ b' (o+l*bE) _ (λj=>vals (l*bE+j)) ?_ (by omega) hsub ?_ ?_
    · intro hh;rw[hh] at P5;simp at P5;omega
    · intro j c hj
      rw[hfl,List.getElem?_drop,List.getElem?_take] at hj
      split at hj
      · have:=hF _ c hj
        rw[← this];congr 1;omega
      · simp at hj
    · intro j c hj
      rw[hfl,List.getElem?_drop,List.getElem?_take] at hj
      split at hj
      · exact L9 _ c hj
      · simp at hj
end
end Go.Abs
namespace Go.Abs
open Go
section
variable {C:cE}{f:FuncId}{nm:Nm}{H:Heap}{slots:List TV}{a:Act}{w:World}{G:Gh}{v:TV}
def UZ (G:Gh):Option TV->Option Value->Prop
 |none,none=>True
 |some p,some v=>VR G p v
 |_,_=>False
theorem pP {p:TV}{x:Value}{n y:Nat}{code:BoundsCode}(hp:VR G p x)(h:fV p=some n)(hy:n<=y):(Instr.sliceBound x y code).run C.P w=.ok n w:=by
 obtain⟨k,rfl⟩:=p0 hp h;simp[Instr.sliceBound,asIntOf,hy]
theorem wV {isS:Bool}{len cap:Nat}{lo hi mx:Option TV}{xl xh xm:Option Value}{l h m:Nat}(hl:UZ G lo xl)(hh:UZ G hi xh)(hm:UZ G mx xm)
 (el:eP lo 0=some l)(eh:eP hi len=some h)(em:eP mx len=some m)(emx:(mx.isNone||hi.isSome)=true)(h1:l<=h)(h2:h<=m)(h3:m<=len)(h4:len<=cap):
 (Instr.sliceBounds isS len cap xl xh xm).run C.P w=.ok (l,h,if mx.isSome then m else cap) w:=by
 cases mx with
 | none=>
  cases xm with
  |some _=>exact absurd hm id
  |none=>
  simp[eP] at em;subst em
  cases hi with
  | none=>
   cases xh with
   |some _=>exact absurd hh id
   |none=>
   simp[eP] at eh;subst eh
   cases lo with
   |none=>
    cases xl with
    |some _=>exact absurd hl id
    |none=>simp[eP] at el;subst el;simp[Instr.sliceBounds]
   | some pl=>
    cases xl with
    |none=>exact absurd hl id
    |some vl=>
     simp only[Instr.sliceBounds]
     have hb:∀code,(Instr.sliceBound vl len code).run C.P w=.ok l w:=λcode=>pP hl el h1
     simp[hb]
  | some ph=>
   cases xh with
   |none=>exact absurd hh id
   |some vh=>
   have hb:∀code,(Instr.sliceBound vh cap code).run C.P w=.ok h w:=λcode=>pP hh eh (by omega)
   cases lo with
   |none=>
    cases xl with
    |some _=>exact absurd hl id
    |none=>simp[eP] at el;subst el;simp[Instr.sliceBounds,hb]
   | some pl=>
    cases xl with
    |none=>exact absurd hl id
    |some vl=>
     have hb2:∀code,(Instr.sliceBound vl h code).run C.P w=.ok l w:=λcode=>pP hl el h1
     simp[Instr.sliceBounds,hb,hb2]
 | some pm=>
  cases xm with
  |none=>exact absurd hm id
  |some vm=>
  have hbm:∀code,(Instr.sliceBound vm cap code).run C.P w=.ok m w:=λcode=>pP hm em (by omega)
  cases hi with
  |none=>simp at emx
  | some ph=>
   cases xh with
   |none=>exact absurd hh id
   |some vh=>
   have hb:∀code,(Instr.sliceBound vh m code).run C.P w=.ok h w:=λcode=>pP hh eh (by omega)
   cases lo with
   |none=>
    cases xl with
    |some _=>exact absurd hl id
    |none=>simp[eP] at el;subst el;simp[Instr.sliceBounds,hb,hbm]
   | some pl=>
    cases xl with
    |none=>exact absurd hl id
    |some vl=>
     have hb2:∀code,(Instr.sliceBound vl h code).run C.P w=.ok l w:=λcode=>pP hl el h1
     simp[Instr.sliceBounds,hb,hb2,hbm]
theorem D8 {t elem:TypeId}{ti te:TI}{b:Option Addr}{len cap l h m:Nat}{xl xh xm:Option Value}(ht:bh C.P t=some ti)(hd:ti.desc=.slice elem)(hte:bh C.P elem=some te)
 (hb:(Instr.sliceBounds true len cap xl xh xm).run C.P w=.ok (l,h,m) w):
 (Instr.sliceAt t (.slice b len cap) xl xh xm).run C.P w=.ok (.slice (if m=l then b else b.map (·.add (l*te.size))) (h - l) (m - l)) w:=by
 obtain⟨_,_,hu,_⟩:=bD ht
 rw[hd] at hu
 have j3:=aH hu w
 simp[Instr.sliceAt,Instr.slice,j3,hb,eB hte w]
theorem Fq {tight:Bool}{es:List Tree}{b:Option Addr}{len cap l h m size:Nat}(hv:VT G.F (.sl es) (.slice b len cap))(hs:j7 size es=true)(h1:l<=h)(h2:h<=len)(h3:h<=m)(ht:tight=true->m=h):
 VR G (Nj tight es l h) (.slice (if m=l then b else b.map (·.add (l*size))) (h - l) (m - l)):=by
 have hsub:=VT.sub hv hs h1 h2 h3
 unfold Nj
 split
 ·have hm:=ht (by assumption);subst hm;have hlen:((es.take m).drop l).length=m - l:=by
   have:len=es.length:=by cases hv<;>simp
   simp;omega
  rw[← hlen] at hsub ⊢;exact .j4 _ _ hsub
 ·exact .t _ _ hsub
def Gh.cut (G:Gh)(k nm:Nm)(n m:Nat)(e c:Nat):Gh:=
 {G with mu:=λx=>if x=nm then G.mu k else G.mu x,arr:=λx=>if x=nm then some (m,e,c) else if x=k then some (n+1,0,0) else G.arr x,dom:=λx=>x=nm\/G.dom x}
theorem HN {nm k:Nm}{n e c m:Nat}(hw:WF G w)(hn:¬G.dom nm)(hd:G.dom k)(ha:G.arr k=some (n,e,c))(he:0<e):Step (λx=>x=k) (λx=>x=nm) G w (G.cut k nm n m e c) w:=by
 have hkn:k≠nm:=λx=>hn (x▸hd)
 have hne:∀x,G.dom x->x≠nm:=λx d e=>hn (e▸d)
 have ak:G.alive k:=Gh.iF ha he;have al:∀x,x≠nm->(G.cut k nm n m e c).alive x->x≠k/\G.alive x:=λx h1 h=>by
  have h2:x≠k:=by
   intro e1;subst e1;exact h (n+1) 0 (by simp[Gh.cut,h1])
  exact⟨h2,λa b q=>h a b (by simp[Gh.cut,h1,h2,q])⟩
 refine⟨⟨λ_ _ _ h=>h,λx d=>.inr d,λx d a=> ?_,λx n0 e0 c0 d a=> ?_⟩,⟨hw.F,λx y d d' a a' q=> ?_,λx d=> ?_⟩,λx d h=> ?_,λ_ _ _=>⟨rfl,λ_=>rfl⟩,λx d=>d.symm,λx d=> ?_,Nat.le_refl _,rfl,rfl,rfl⟩
 ·have h2:x≠k:=by intro e1;subst e1;rw[ha] at a;cases a
  simp[Gh.cut,hne x d,h2,a]
 ·by_cases h2:x=k
  ·subst h2;rw[ha] at a;cases a;exact⟨n+1,0,0,by simp[Gh.cut,hkn],Nat.le_succ _,λq=>by omega,.inr rfl⟩
  ·exact⟨n0,e0,c0,by simp[Gh.cut,hne x d,h2,a],Nat.le_refl _,λ_=>⟨rfl,rfl,by simp[Gh.cut,hne x d]⟩,.inl rfl⟩
 ·by_cases h1:x=nm<;>by_cases h2:y=nm
  ·rw[h1,h2]
  ·obtain⟨g1,g2⟩:=al y h2 a';have dy:G.dom y:=d'.resolve_left h2;simp only[Gh.cut,if_pos h1,if_neg h2] at q;exact absurd (hw.inj _ _ hd dy ak g2 q).symm g1
  ·obtain⟨g1,g2⟩:=al x h1 a;have dx:G.dom x:=d.resolve_left h1;simp only[Gh.cut,if_neg h1,if_pos h2] at q;exact absurd (hw.inj _ _ dx hd g2 ak q) g1
  ·obtain⟨g1,g2⟩:=al x h1 a;obtain⟨g3,g4⟩:=al y h2 a';simp only[Gh.cut,if_neg h1,if_neg h2] at q;exact hw.inj _ _ (d.resolve_left h1) (d'.resolve_left h2) g2 g4 q
 ·simp only[Gh.cut];split
  ·exact hw.lt _ hd
  ·rename_i h1;exact hw.lt _ (d.resolve_left h1)
 ·simp[Gh.cut,hne x d,h]
 ·by_cases h1:x=nm
  ·exact .inl ⟨k,hd,by simp[Gh.cut,h1],.inr ⟨rfl,ak⟩⟩
  ·exact .inl ⟨x,d.resolve_left h1,by simp[Gh.cut,h1],.inl rfl⟩
theorem Nt        {nm:Nm}{o:Oper}{t:TypeId}{px:Operand}{Vh Vi Vj:Option Operand}{p:TV}{lo hi mx:Option TV}{u:List (Nm×aO)}(hw:WF G w)(hH:HR G w H)(hn:¬G.dom nm)(ho:o.op=.slice t px Vh Vi Vj)
 (hp:VR G p (a.eval px))(hl:UZ G lo (Vh.map a.eval))(hh:UZ G hi (Vi.map a.eval))(hm:UZ G mx (Vj.map a.eval))(h:wR C.P H nm t p lo hi mx=some (v,u)):cF C.P nm o a w G v u:=by
 unfold wR at h
 split at h
 ·rename_i k len hv;split at h
  ·rename_i ti h0 g bE cs ht hi0 hro;split at h
   ·rename_i elem hd;split at h
    ·rename_i te hte;split at h
     ·rename_i hc;obtain⟨hc1,dF⟩:=hc;cases h;have jr:∀r w',(Instr.sliceAt t (a.eval px) (Vh.map a.eval) (Vi.map a.eval) (Vj.map a.eval)).run C.P w=.ok r w'->(execOp a.eval o).run C.P w=.ok (.value r) w':=by
       intro r w' hr;simp[execOp,ho,hr]
      generalize hpx:a.eval px=xv at hp;obtain⟨cap,vs,ty,fr,b,qv,har,HO,mV,hsz,hlc,hvs,hf,rfl,hcap,hb⟩:=sH hH hro hp;obtain⟨hk,hpos,htip⟩:=lJ hro;have hkn:k≠nm:=λx=>hn (x▸qv)
      have hrun:=D8 (te:=te) (b:=b) (len:=len) (cap:=cap - 0) ht hd hte (wV (w:=w) hl hh hm (l:=0) (h:=h0) (m:=len) rfl hi0 rfl rfl (Nat.zero_le _) dF (Nat.le_refl _) (by omega));have hle:h0*bE<=cs.length:=by rw[← htip,Nat.zero_add];exact Nat.mul_le_mul_right _ dF
      have hlen:(cs.take (h0*bE)).length=h0*bE:=by rw[List.length_take,Nat.min_eq_left hle]
      have hst:=HN (m:=h0*bE) hw hn qv har hpos;refine cF.fF (w':=w) (G':=G.cut k nm cs.length (h0*bE) bE cap) (jr _ _ (by rw[hpx];exact hrun)) (hst.mono (λx _ e=>by simp[e]) (λ_ e=>e)) ?_ ?_
      ·intro k1 ob hm1;simp only[List.mem_cons,List.not_mem_nil,or_false,Prod.mk.injEq] at hm1;rcases hm1 with ⟨rfl,rfl⟩|⟨rfl,rfl⟩
       ·exact⟨.inr qv,trivial⟩
       ·refine⟨.inl rfl,hpos,cap,vs,ty,fr, ?_, ?_,mV,hsz, ?_, ?_,λq _=> ?_⟩
        ·simp[Gh.cut,hlen]
        ·simpa [Gh.cut] using HO
        ·rw[hlen];omega
        ·have h3:=(hvs.take (h0*bE)).mono hst.le;rw[hlen];rwa [List.take_take,Nat.min_eq_left hle] at h3
        ·have:=hf q (.inl rfl);simpa [Gh.cut] using this
      ·refine .ref nm 0 h0 (h0*bE) bE cap _ (.inl rfl) (by simp[Gh.cut]) (by rw[Nat.zero_add];exact Nat.le_refl _) ⟨_,_,rfl⟩ λ_=> ?_
       refine⟨_,rfl,λhlt=> ?_⟩;rw[hb hlt];simp[Gh.cut,Addr.add]
     ·cases h
    ·cases h
   ·cases h
  ·cases h
 ·cases h
theorem Nu        {o:Oper}{t:TypeId}{px:Operand}{Vh Vi Vj:Option Operand}{p:TV}{lo hi mx:Option TV}{ks:List Nm}(hw:WF G w)(hH:HR G w H)(ho:o.op=.slice t px Vh Vi Vj)
 (hp:VR G p (a.eval px))(hl:UZ G lo (Vh.map a.eval))(hh:UZ G hi (Vi.map a.eval))(hm:UZ G mx (Vj.map a.eval))(h:pW C.P H t p lo hi mx=some (v,ks)):cF C.P nm o a w G v (cH H ks):=by
 unfold pW at h
 cases ht:bh C.P t<;>simp only[ht,reduceCtorEq] at h
 rename_i ti
 obtain⟨_,_,hu,_⟩:=bD ht
 have jr:∀r w',(Instr.sliceAt t (a.eval px) (Vh.map a.eval) (Vi.map a.eval) (Vj.map a.eval)).run C.P w=.ok r w'->(execOp a.eval o).run C.P w=.ok (.value r) w':=by
  intro r w' hr;simp[execOp,ho,hr]
 split at h
 ·rename_i hd;rw[hd] at hu;have j3:=aH hu w;split at h
  ·rename_i s;split at h
   ·rename_i l BU el eh;split at h<;>simp at h;rename_i hc;obtain⟨hc1,dF⟩:=hc;obtain⟨rfl,rfl⟩:=h;have hx:=hp.str;cases hmx:Vj.map a.eval with
    |some _=>rw[hmx] at hm;exact absurd hm id
    |none=>
    have hb:=wV (C:=C) (w:=w) (isS:=false) (len:=s.length) (cap:=s.length) hl hh (mx:=none) (xm:=none) trivial el eh rfl rfl hc1 dF (Nat.le_refl _) (Nat.le_refl _);refine cF.quiet hw (x:=.string ((ByteArray.mk s.toArray).extract l BU)) (jr _ _ ?_) ?_
    ·rw[hx,hmx];simp only[Option.isSome_none,Bool.false_eq_true,if_false] at hb;have hb':(Instr.sliceBounds false (ByteArray.mk s.toArray).size (ByteArray.mk s.toArray).size (Vh.map a.eval) (Vi.map a.eval) none).run C.P w=.ok (l,BU,s.length) w:=hb;simp[Instr.sliceAt,Instr.slice,j3,hb']
    ·have e:(ByteArray.mk s.toArray).extract l BU=⟨((s.take BU).drop l).toArray⟩:=by
      apply Go.WideShapes.bytes_inj;rw[Go.Lib.extract_data];simp;rw[List.drop_take]
     rw[e];exact .t _ _ (.str _)
   ·simp at h
  ·simp at h
 ·rename_i elem hd;split at h
  ·rename_i te n hte hn;split at h
   ·rename_i l BU m el eh em emx;split at h
    ·rename_i hc;obtain⟨hc1,dF,cW⟩:=hc;have main:∀(b:Option Addr) (cap:Nat),n<=cap->a.eval px=.slice b n cap->
      (Instr.sliceAt t (a.eval px) (Vh.map a.eval) (Vi.map a.eval) (Vj.map a.eval)).run C.P w=.ok (.slice (if(if mx.isSome then m else cap)=l then b else b.map (·.add (l*te.size))) (BU - l) ((if mx.isSome then m else cap) - l)) w:=by
      intro b cap hcap hx
      rw[hx]
      exact D8 ht hd hte (wV hl hh hm el eh em emx hc1 dF cW hcap)
     split at h
     ·simp at h;obtain⟨rfl,rfl⟩:=h;generalize hpx:a.eval px=xv at hp main;cases hp;simp[wQ] at hn;subst hn;have:=main none 0 (by omega) rfl;have e:m=0/\BU=0/\l=0:=by omega
      obtain⟨rfl,rfl,rfl⟩:=e;simp at this;exact cF.quiet hw (jr _ _ (by rw[hpx];exact this)) .bJ
     ·rename_i es;split at h<;>simp at h;rename_i hs;obtain⟨rfl,rfl⟩:=h;simp[wQ] at hn;subst hn;generalize hpx:a.eval px=xv at hp main;have hpt:=hp.tree;have wW:∃b cap,xv=.slice b es.length cap/\es.length<=cap:=by
       cases hpt with
       |zm b c=>exact⟨b,c,rfl,by simp⟩
       |sl e es b o cap vals hne hcp _ _ _=>exact⟨_,cap,rfl,hcp⟩
      obtain⟨b,cap,rfl,hcap⟩:=wW;refine cF.quiet hw (jr _ _ (by rw[hpx];exact main b cap hcap rfl)) (Fq hpt hs hc1 (by omega) ?_ ?_)
      ·cases mx<;>simp<;>omega
      ·intro P0;cases mx<;>simp at P0 ⊢;exact P0
     ·rename_i es;split at h<;>simp at h;rename_i hs;obtain⟨rfl,rfl⟩:=h;simp[wQ] at hn;subst hn;generalize hpx:a.eval px=xv at hp main;cases hp with|j4 _ b hpt=>
      refine cF.quiet hw (jr _ _ (by rw[hpx];exact main b es.length (Nat.le_refl _) rfl)) (Fq hpt hs hc1 (by omega) ?_ ?_)
      ·cases mx<;>simp<;>omega
      ·intro P0;cases mx<;>simp at P0 ⊢<;>omega
     ·rename_i k off len;simp[wQ] at hn;subst hn;split at h
      ·rename_i hcc;obtain⟨afl,ajC⟩:=hcc;subst afl;split at h
       ·rename_i g bE fz cs hro;split at h<;>simp at h;rename_i wD;subst wD;obtain⟨rfl,rfl⟩:=h;generalize hpx:a.eval px=xv at hp main;obtain⟨cap,vs,ty,fr,b,qv,har,HO,mV,hsz,hlc,hv,hf,rfl,hcap,hb⟩:=sH hH hro hp;obtain⟨hk,hpos,htip⟩:=lJ hro;refine cF.quiet hw (jr _ _ (by rw[hpx];exact main b (cap - off) (by omega) rfl)) ?_;have hmx:mx=none:=by cases mx<;>simp_all
        subst hmx;simp only[Option.isSome_none,Bool.false_eq_true,if_false];have e1:(off+l+(BU - l)) *te.size=cs.length:=by rw[show off+l+(BU - l)=off+BU by omega];exact htip
        refine .ref k (off+l) (BU - l) cs.length te.size cap _ qv har (by omega) ⟨_,_,rfl⟩ λ_=>⟨_,by rw[show cap - (off+l)=cap - off - l by omega],λhlt=> ?_⟩
        rw[if_neg (by omega),hb (by omega)];simp only[Option.map_some,nR];rw[Nat.add_mul]
       ·simp at h
      ·split at h
       ·rename_i es ks' hfz;split at h<;>simp at h;rename_i hs;obtain⟨rfl,rfl⟩:=h;have HM:=zx hw hH ks' gl _ _ _ _ hfz (λ_ hk=>hk) hp;have hst:=iJ hw hH ks';generalize hpx:a.eval px=xv at hp main HM;have wW:∃b cap,xv=.slice b es.length cap/\es.length<=cap:=by
         cases HM with
         |zm b c=>exact⟨b,c,rfl,by simp⟩
         |sl e es b o cap vals hne hcp _ _ _=>exact⟨_,cap,rfl,hcp⟩
        obtain⟨b,cap,rfl,hcap⟩:=wW;have hlen :es.length=len:=by
         simp only[gl,pq] at hfz;split at hfz
         ·split at hfz
          ·split at hfz
           ·split at hfz
            ·rename_i hch;simp at hfz;rw[← hfz.1];exact(sG hch).1
            ·simp at hfz
           ·simp at hfz
          ·simp at hfz
         ·simp at hfz
        rw[← hlen] at main;refine cF.fF (G':=G.frozen w H ks') (jr _ _ (by rw[hpx];exact main b cap hcap rfl)) (hst.mono (λk _ hk=>mC hk.1 hk.2) (λ_ e=>e.elim)) (λk ob hm'=>rB hw hH hm') (Fq HM hs hc1 (by omega) ?_ ?_)
        ·cases mx<;>simp<;>omega
        ·intro P0;cases mx<;>simp at P0 ⊢;exact P0
       ·simp at h
     ·simp at h
    ·simp at h
   ·simp at h
  ·simp at h
 ·simp at h
end
end Go.Abs
namespace Go.Abs
open Go
theorem Nv (n:Nat):∀(r c:Nat),Builtin.growBy n r c<=max c (n+(n+768)/ 4):=by
 intro r;induction r with
 |zero=>intro c;simp only[Builtin.growBy];omega
 | succ r ih=>
   intro c
   simp only[Builtin.growBy]
   split
   · omega
   · have:=ih (c+(c+768)/ 4)
     omega
theorem nextslicecap_le {n c:Nat}(h:c<n):Builtin.nextslicecap n c<=2*n:=by
 unfold Builtin.nextslicecap;split
 ·omega
 ·split
  ·omega
  ·have:=Nv n 4 c;omega
section
variable {C:cE}{f:FuncId}{nm:Nm}{H:Heap}{slots:List TV}{a:Act}{w:World}{G:Gh}{v:TV}
theorem WF.drew (hw:WF G w):WF G w.drew:=⟨hw.F,hw.inj,hw.lt⟩
theorem je (hw:WF G w)(W N:Nm->Prop):Step W N G w G w.drew:=
 ⟨.refl G,hw.drew,λ_ _ _=>⟨rfl,rfl⟩,λ_ _ _=>⟨rfl,λ_=>rfl⟩,λ_ h=>.inl h,λk h=>.inl ⟨k,h,rfl,.inl rfl⟩,Nat.le_refl _,rfl,rfl,rfl⟩
theorem HR.drew (hH:HR G w H):HR G w.drew H:=by
 intro k o hk;obtain⟨d,ho⟩:=hH k o hk;refine⟨d, ?_⟩;cases o<;>exact ho
theorem VT.D9 {es:List Tree}{b:Option Addr}{len cap size:Nat}(hw:WF G w)(hv:VT G.F (.sl es) (.slice b len cap))(hs:j7 size es=true){n:Nat}(hn:n<=len):
 ∃us:Array Value,(Builtin.firstCells size n (.slice b len cap)).run C.P w=.ok us w/\cr G (((flat es).map .t).take (n*size)) us.toList:=by
 cases hv with
 | zm b c=>
   have:n=0:=by omega
   subst this
   refine⟨#[], ?_,by simp[flat];exact cr.nil G⟩
   cases b with
   |none=>simp[Builtin.firstCells]
   | some b=>
     have:=nI (P:=C.P) (w:=w) (b:=b.block) (o:=b.off) [] (by simp)
     simp[Builtin.firstCells,loadCells,loadCellsFrom]
 | sl bE _ b o _ vals hne hc hu hF L9=>
   have hsz:bE=size:=by
     cases es with
     |nil=>exact absurd rfl hne
     |cons x r=>simp[j7] at hs;rw[← hs];exact(hu x List.mem_cons_self).symm
   subst hsz
   have hfl:(flat es).length=es.length*bE:=iK hu
   have hle:n*bE<=(flat es).length:=by rw[hfl];exact Nat.mul_le_mul_right _ hn
   refine⟨((List.range (n*bE)).map vals).toArray, ?_, ?_⟩
   · have:=nI (P:=C.P) (w:=w) (b:=b) (o:=o) ((List.range (n*bE)).map vals) (λj u hj=>by
       have hjl:j<n*bE:=by have:=(List.getElem?_eq_some_iff.1 hj).1;simpa using this
       simp[hjl] at hj
       subst hj
       obtain⟨vs,ty,fr,h1,h2⟩:=hw.F _ _ _ (hF j _ (List.getElem?_eq_getElem (by omega)))
       rw[cell_of h1];exact h2)
     simp only[List.length_map,List.length_range] at this
     exact this
   · refine⟨by simp only[List.length_map,List.length_range,List.length_take,List.toList_toArray];omega,λj c u h1 h2=> ?_⟩
     have hjl:j<n*bE:=by have:=(List.getElem?_eq_some_iff.1 h2).1;simpa using this
     simp[hjl] at h2
     subst h2
     rw[List.getElem?_take,if_pos hjl,List.getElem?_map,List.getElem?_eq_getElem (by omega)] at h1
     simp at h1
     subst h1
     exact .t _ _ (L9 j _ (List.getElem?_eq_getElem (by omega)))
theorem sI {g:Bool}{size m:Nat}{x:Value}{p:TV}{cs:List TV}(hw:WF G w)(hH:HR G w H)(hp:VR G p x)(h:fD H g size p=some (m,cs)):
 (Builtin.lenOf x).run C.P w=.ok m w/\cs.length=m*size/\∀n,n<=m->∃us:Array Value,(Builtin.firstCells size n x).run C.P w=.ok us w/\cr G (cs.take (n*size)) us.toList:=by
 unfold fD at h
 split at h
 ·simp at h;obtain⟨rfl,rfl⟩:=h;cases hp;exact⟨rfl,by simp,λn hn=>⟨#[],rfl,by simp;exact cr.nil G⟩⟩
 ·rename_i es;split at h<;>simp at h;rename_i hs;obtain⟨rfl,rfl⟩:=h;have hpt:=hp.tree;have hlen:(flat es).length=es.length*size:=by
   cases hpt with
   |zm=>simp[flat]
   | sl bE _ b o _ vals hne hc hu hF L9=>
     have hsz:bE=size:=by
       cases es with
       |nil=>exact absurd rfl hne
       |cons x r=>simp[j7] at hs;rw[← hs];exact(hu x List.mem_cons_self).symm
     subst hsz
     exact iK hu
  have hx:∃b cap,x=.slice b es.length cap:=by cases hpt<;>exact⟨_,_,rfl⟩
  obtain⟨b,cap,rfl⟩:=hx;exact⟨rfl,by simpa using hlen,λn hn=>hpt.D9 hw hs hn⟩
 ·rename_i es;split at h<;>simp at h;rename_i hs;obtain⟨rfl,rfl⟩:=h;cases hp with|j4 _ b hpt=>
  have hlen:(flat es).length=es.length*size:=by
   cases hpt with
   |zm=>simp[flat]
   | sl bE _ b o _ vals hne hc hu hF L9=>
     have hsz:bE=size:=by
       cases es with
       |nil=>exact absurd rfl hne
       |cons x r=>simp[j7] at hs;rw[← hs];exact(hu x List.mem_cons_self).symm
     subst hsz
     exact iK hu
  exact⟨rfl,by simpa using hlen,λn hn=>hpt.D9 hw hs hn⟩
 ·rename_i k off len;split at h
  ·rename_i g' e fz cs' hro;split at h<;>simp at h;rename_i wD;subst wD;obtain⟨rfl,rfl⟩:=h;obtain⟨cap,vs,ty,fr,b,qv,har,HO,mV,hsz,hlc,hv,hf,rfl,hcap,hb⟩:=sH hH hro hp;obtain⟨hk,hpos,htip⟩:=lJ hro;have hmul:(off+len) *e=off*e+len*e:=Nat.add_mul _ _ _;refine⟨rfl,by simp;omega,λn hn=> ?_⟩;have hne:n*e<=len*e:=Nat.mul_le_mul_right _ hn;refine⟨((vs.toList.drop (off*e)).take (n*e)).toArray, ?_, ?_⟩
   ·by_cases h0:n=0
    ·subst h0;cases b with
     |none=>simp[Builtin.firstCells]
     |some b=>simp[Builtin.firstCells,loadCells,loadCellsFrom]
    ·rw[ hb (by omega)];have:=nI (P:=C.P) (w:=w) (b:=G.mu k) (o:=off*e) ((vs.toList.drop (off*e)).take (n*e)) (λj u hj=>by
      rw[List.getElem?_take] at hj;split at hj
      ·rw[List.getElem?_drop] at hj;rw[cell_of HO];simpa using hj
      ·simp at hj)
     have hl:((vs.toList.drop (off*e)).take (n*e)).length=n*e:=by simp;omega
     rw[hl] at this;exact this
   ·have h1:=(hv.drop (off*e)).take (n*e);have e1:((vs.toList.take cs'.length).drop (off*e)).take (n*e)=(vs.toList.drop (off*e)).take (n*e):=by
     apply List.ext_getElem?;intro i;simp only[List.getElem?_take,List.getElem?_drop];by_cases c:i<n*e
     ·rw[if_pos c,if_pos c,if_pos (by omega)]
     ·rw[if_neg c,if_neg c]
    rw[e1] at h1;exact h1
  ·simp at h
 ·rename_i s;split at h<;>simp at h;rename_i hc;obtain⟨hc1,dF⟩:=hc;subst hc1;obtain⟨rfl,rfl⟩:=h;have:=hp.str;subst this;refine⟨by simp[Builtin.lenOf,ByteArray.size],by simp,λn hn=>⟨_,rfl, ?_⟩⟩;have e:((ByteArray.mk s.toArray).extract 0 n).data.toList=s.take n:=by
   rw[Go.Lib.extract_data];simp
  rw[Nat.mul_one];have e2:((((ByteArray.mk s.toArray).extract 0 n).data.map λb=>Value.int .u8 (b.toNat:Int)).toList)=(s.take n).map λb=>Value.int .u8 (b.toNat:Int):=by
   rw[Array.toList_map,e]
  rw[e2];refine⟨by simp,λj c u h1 h2=> ?_⟩;rw[← List.map_take,List.getElem?_map] at h1;rw[List.getElem?_map] at h2;cases hj:(s.take n)[j]? with
  |none=>rw[hj] at h1;simp at h1
  | some b=>
    rw[hj] at h1 h2
    simp at h1 h2
    subst h1;subst h2
    exact .t _ _ (.int _ _)
 ·simp at h
def Gh.grow (G:Gh)(k:Nm)(b:Nat)(ar:Nat×Nat×Nat):Gh:=
 {G with mu:=λx=>if x=k then b else G.mu x,arr:=λx=>if x=k then some ar else G.arr x}
theorem nJ {k:Nm}{n e c n' c':Nat}(b:Nat)(ha:G.arr k=some (n,e,c))(hlt:n<n'):G.le (G.grow k b (n',e,c')):=by
 refine⟨λ_ _ _ h=>h,λ_ d=>d,λx d a=> ?_,λx m e' c0 d a=> ?_⟩
 ·have:x≠k:=by intro e;subst e;rw[ha] at a;simp at a
  simp[Gh.grow,this,a]
 ·by_cases hx:x=k
  ·subst hx;rw[ha] at a;simp at a;obtain⟨rfl,rfl,rfl⟩:=a;exact⟨n',_,c',by simp[Gh.grow],Nat.le_of_lt hlt,λe=>by omega,.inl rfl⟩
  ·exact⟨m,_,c0,by simp[Gh.grow,hx,a],Nat.le_refl _,λ_=>⟨rfl,rfl,by simp[Gh.grow,hx]⟩,.inl rfl⟩
theorem grow_step (hw:WF G w){k:Nm}{n e c n':Nat}(ha:G.arr k=some (n,e,c))(hlt:n<n')(N:Nm->Prop):Step (λx=>x=k) N G w (G.grow k (G.mu k) (n',e,c)) w:=by
 have Aj:∀x,(G.grow k (G.mu k) (n',e,c)).mu x=G.mu x:=by intro x;simp only[Gh.grow];split<;>simp_all
 refine⟨nJ _ ha hlt,⟨hw.F,λx y dx dy ax ay e=>hw.inj x y dx dy ((nJ _ ha hlt).alive dx ax) ((nJ _ ha hlt).alive dy ay) (by rw[Aj,Aj] at e;exact e),λx d=>by rw[Aj];exact hw.lt x d⟩,λx d hn=>⟨Aj x,by simp[Gh.grow,hn]⟩,λ_ _ _=>⟨rfl,λ_=>rfl⟩,λ_ d=>.inl d,λx d=>.inl ⟨x,d,Aj x,.inl rfl⟩,Nat.le_refl _,rfl,rfl,rfl⟩
theorem Ea (hw:WF G w){k:Nm}{n e c n' c':Nat}(ha:G.arr k=some (n,e,c))(hlt:n<n')(o:Obj)(N:Nm->Prop):Step (λx=>x=k) N G w (G.grow k w.heap.size (n',e,c')) (World.cL w o):=by
 refine⟨nJ _ ha hlt,⟨λb p u h=> ?_,λx y dx dy ax ay he=> ?_,λx d=> ?_⟩,λx d hn=>by simp[Gh.grow,hn],λb hb _=>⟨lI hb,λ_=>rfl⟩,λ_ d=>.inl d,λx d=> ?_,by simp[World.cL],rfl,rfl,rfl⟩
 ·obtain⟨vs,ty,fr,h1,h2⟩:=hw.F b p u h;exact⟨vs,ty,fr,by rw[lI (Array.getElem?_eq_some_iff.1 h1).1];exact h1,h2⟩
 ·simp only[Gh.grow] at he dx dy;by_cases hx:x=k<;>by_cases hy:y=k
  ·rw[hx,hy]
  ·rw[if_pos hx,if_neg hy] at he;have:=hw.lt y dy;omega
  ·rw[if_neg hx,if_pos hy] at he;have:=hw.lt x dx;omega
  ·rw[if_neg hx,if_neg hy] at he;exact hw.inj x y dx dy ((nJ _ ha hlt).alive dx ax) ((nJ _ ha hlt).alive dy ay) he
 ·simp only[Gh.grow] at d ⊢;show _<(w.heap.push o).size;rw[Array.size_push];split
  ·omega
  ·have:=hw.lt x d;omega
 ·simp only[Gh.grow] at d ⊢;by_cases hx:x=k
  ·exact .inr (by rw[if_pos hx];exact Nat.le_refl _)
  ·exact .inl ⟨x,d,by rw[if_neg hx],.inl rfl⟩
theorem oy {elem st xt:TypeId}{ti tx te:TI}{z:TV}{b:Option Addr}{sLen sCap m:Nat}{r:TypeId}{x:Value}{olds news:Array Value}(BV:bh C.P st=some ti)(hd:ti.desc=.slice elem)(U0:bh C.P xt=some tx)
 (Hq:(∃e,tx.desc=.slice e)\/tx.desc=.string)(hte:bh C.P elem=some te)(hz:te.zero=some z)(hzl:z.cells.length=te.size)(hb0:te.bytes≠0)
 (hlen:(Builtin.lenOf x).run C.P w=.ok m w)(hnew:(Builtin.firstCells te.size m x).run C.P w.drew=.ok news w.drew)
 (hold:(Builtin.firstCells te.size sLen (.slice b sLen sCap)).run C.P w.drew=.ok olds w.drew)(hgt:sCap<sLen+m)(Fs:(sLen+m) *te.bytes<=fE):
 ∃ fU,sLen+m<=fU/\∃rest:Array Value,rest.size=(fU - (sLen+m)) *te.size/\
  (Builtin.append_ #[st,xt] r #[.slice b sLen sCap,x]).run C.P w=.ok (.slice (some ⟨w.heap.size,0,none⟩) (sLen+m) fU) (World.cL w.drew (.cells (olds++news++rest) elem)):=by
 obtain⟨_,_,hu,_⟩:=bD BV
 rw[hd] at hu
 obtain⟨_,_,hux,_⟩:=bD U0
 obtain⟨i,hi,_,_,hbytes,_⟩:=bD hte
 obtain⟨zv,hz1,HF⟩:=fu hte hz w.drew ⟨λ_ _=>none,λ_=>0,λ_=>none,λ_=>False⟩
 have hzs:zv.cells.size=te.size:=by have:=(HF.cells (pI hte hz)).1;simp at this;omega
 refine⟨(Question.appendCap (sLen+m) sCap elem).cut (w.tape w.drawn (Question.appendCap (sLen+m) sCap elem)), ?_,Builtin.zeroCells zv.cells ((Question.appendCap (sLen+m) sCap elem).cut (w.tape w.drawn (Question.appendCap (sLen+m) sCap elem)) - (sLen+m)), ?_, ?_⟩
 ·show sLen+m<=sLen+m+_;omega
 ·simp[Builtin.zeroCells,hzs]
 ·have j3:∀w,(underlying st).run C.P w=.ok (.slice elem) w:=λw=>aH hu w
  have JY:∀w,(underlying xt).run C.P w=.ok tx.desc w:=λw=>aH hux w
  have hsz:∀w,(sizeOf elem).run C.P w=.ok te.size w:=λw=>eB hte w
  have P6:∀w,(typeInfo elem).run C.P w=.ok i w:=λw=>pH hi w
  have hnc:=nextslicecap_le hgt;have Vk:¬(281474976710656<Builtin.nextslicecap (sLen+m) sCap*i.bytes):=by
   rw[hbytes];have h1:Builtin.nextslicecap (sLen+m) sCap*te.bytes<=2* (sLen+m) *te.bytes:=Nat.mul_le_mul_right _ hnc;have h2:2* (sLen+m) *te.bytes=2* ((sLen+m) *te.bytes):=Nat.mul_assoc _ _ _;unfold fE at Fs;omega
  have hb1:¬i.bytes=0:=by rw[hbytes];exact hb0
  have hq:(Question.appendCap (sLen+m) sCap elem).forced=false:=rfl;have abk:¬sLen+m<=sCap:=by omega
  rcases Hq with ⟨e,Hq⟩|Hq<;>rw[Hq] at JY
  ·simp[Builtin.append_,j3,JY,hsz,hlen,P6,abk,hb1,Vk,hq,hold,hnew,hz1,jx,World.cL];rfl
  ·simp[Builtin.append_,j3,JY,hsz,hlen,P6,abk,hb1,Vk,hq,hold,hnew,hz1,jx,World.cL];rfl
theorem uA {elem st xt:TypeId}{ti tx te:TI}{b:Option Addr}{sLen sCap m:Nat}{r:TypeId}{x:Value}{news:Array Value}{w':World}(BV:bh C.P st=some ti)(hd:ti.desc=.slice elem)(U0:bh C.P xt=some tx)
 (Hq:(∃e,tx.desc=.slice e)\/tx.desc=.string)(hte:bh C.P elem=some te)
 (hlen:(Builtin.lenOf x).run C.P w=.ok m w)(hnew:(Builtin.firstCells te.size m x).run C.P w=.ok news w)(hle:sLen+m<=sCap)
 (hst:∀ad,b=some ad->(storeCells (ad.add (sLen*te.size)) news.toList).run C.P w=.ok () w')(hnn:b=none->w'=w):
 (Builtin.append_ #[st,xt] r #[.slice b sLen sCap,x]).run C.P w=.ok (.slice b (sLen+m) sCap) w':=by
 obtain⟨_,_,hu,_⟩:=bD BV
 rw[hd] at hu
 obtain⟨_,_,hux,_⟩:=bD U0
 have j3:=aH hu w
 have JY:=aH hux w
 have hsz:=eB hte w
 rcases Hq with ⟨e,Hq⟩|Hq<;>rw[Hq] at JY<;>cases b with
 |none=>have:=hnn rfl;subst this;simp[Builtin.append_,j3,JY,hsz,hlen,hnew,hle]
 |some ad=>simp[Builtin.append_,j3,JY,hsz,hlen,hnew,hle,hst ad rfl]
theorem HP {o:Oper}{b:Builtin}{args:Array Operand}{ats:Array TypeId}{r:Value}{w':World}(ho:o.op=.call {callee:=.builtin .append,args,argTypes:=ats})
 (h:(Builtin.append_ ats o.type (args.map a.eval)).run C.P w=.ok r w'):(execOp a.eval o).run C.P w=.ok (.value r) w':=by
 simp[execOp,ho,resolve,invoke,builtin,h]
theorem JZ {o         : Oper}{args:Array Operand}{ats:Array TypeId}{st xt:TypeId}{s x:TV}{u:List (Nm×aO)}(hw:WF G w)(hH:HR G w H)(hn:¬G.dom nm)(ho:o.op=.call {callee:=.builtin .append,args,argTypes:=ats})
 (hat:ats.toList=[st,xt])(hargs:cr G [s,x] (args.map a.eval).toList)(h:jV C.P nm H st xt s x=some (v,u)):cF C.P nm o a w G v u:=by
 have Ft:ats= #[st,xt]:=by rw[← Array.toArray_toList (xs:=ats),hat]
 obtain⟨sv,rest,Pq,hs,mW⟩:=hargs.gQ
 obtain⟨xv,P7,he2,hx,BW⟩:=mW.gQ
 have hr2:P7=[]:=by have:=BW.1;simpa using this
 subst hr2
 subst he2
 have Pr:args.map a.eval= #[sv,xv]:=by rw[← Array.toArray_toList (xs:=args.map a.eval),Pq]
 have jr:∀r w',(Builtin.append_ #[st,xt] o.type #[sv,xv]).run C.P w=.ok r w'->(execOp a.eval o).run C.P w=.ok (.value r) w':=λr w' hr=>HP (b:=.append) ho (by rw[Ft,Pr];exact hr)
 clear BW mW Pq Pr hat
 unfold jV at h
 cases BV:bh C.P st<;>cases U0:bh C.P xt<;>simp only[BV,U0,reduceCtorEq] at h
 rename_i ti tx
 split at h
 ·rename_i elem hd abl;have Hq:(∃e,tx.desc=.slice e)\/tx.desc=.string:=by
   split at abl
   ·rename_i e hh;exact .inl ⟨e,hh⟩
   ·rename_i hh;exact .inr hh
   ·simp at abl
  cases hte:bh C.P elem<;>simp only[hte,reduceCtorEq] at h;rename_i te;cases hz:te.zero<;>simp only[hz,reduceCtorEq] at h;rename_i z;split at h
  ·simp at h
  ·rename_i P8;simp only[not_or,Decidable.not_not] at P8;obtain⟨hs0,hzl,hb0⟩:=P8;have hpos:0<te.size:=by omega
   split at h
   ·rename_i m cs hsrc;obtain⟨Eb,hcl,YK⟩:=sI (C:=C) hw hH hx hsrc;obtain⟨news,AV,AY⟩:=YK m (Nat.le_refl _);obtain⟨ajD,_,afm⟩:=sI (C:=C) hw.drew hH.drew hx hsrc;rw[List.take_of_length_le (by omega)] at AY;split at h
    ·rename_i hm0;subst hm0;have hnil:news= #[]:=by
      have h1:=AY.1;have:cs=[]:=List.length_eq_zero_iff.1 (by omega);subst this;simp at h1;exact h1
     subst hnil;have fit:∀(b:Option Addr) (sLen sCap:Nat),sLen<=sCap->sv=.slice b sLen sCap->(execOp a.eval o).run C.P w=.ok (.value (.slice b sLen sCap)) w:=by
      intro b sLen sCap hle hsv;subst hsv;exact jr _ _ (uA BV hd U0 Hq hte Eb AV (by omega) (λad _=>by simp[storeCells]) (λ_=>rfl))
     split at h
     ·simp at h;obtain⟨rfl,rfl⟩:=h;cases hs;exact cF.quiet hw (fit none 0 0 (Nat.le_refl _) rfl) .bJ
     ·rename_i es;simp at h;obtain⟨rfl,rfl⟩:=h;have hst:=hs.tree;cases hst with
      |zm b c=>exact cF.quiet hw (fit b 0 c (by omega) rfl) (.t _ _ (.zm b c))
      |sl e es b o cap vals h1 h2 h3 h4 h5=>exact cF.quiet hw (fit _ _ cap h2 rfl) (.t _ _ (.sl e es b o cap vals h1 h2 h3 h4 h5))
     ·rename_i es;simp at h;obtain⟨rfl,rfl⟩:=h;cases hs with|j4 _ b hst=>exact cF.quiet hw (fit b _ _ (Nat.le_refl _) rfl) (.j4 es b hst)
     ·rename_i k off len;split at h<;>simp at h;rename_i hro;obtain⟨rfl,rfl⟩:=h;obtain⟨⟨g,bE,fz,cs'⟩,hro⟩:=Option.isSome_iff_exists.1 hro;obtain⟨cap,vs,ty,fr,b,qv,har,HO,mV,hsz,hlc,hv,hf,rfl,hcap,hb⟩:=sH hH hro hs;exact cF.quiet hw (fit b len (cap - off) (by omega) rfl) hs
     ·simp at h
    ·rename_i hm0;split at h
     ·rename_i hlf;have HQ:=p5 AY hlf;obtain⟨p6,YL,HS⟩:=afm m (Nat.le_refl _);rw[List.take_of_length_le (by omega)] at HS;split at h
      ·split at h<;>simp at h;rename_i Fs;obtain⟨rfl,rfl⟩:=h;cases hs;obtain⟨fU,hnc,rest,mW,hrun⟩:=oy (sLen:=0) (sCap:=0) (b:=none) (r:=o.type) (olds:= #[]) BV hd U0 Hq hte hz hzl hb0 Eb YL (by simp[Builtin.firstCells]) (by omega) (by simpa using Fs);have hvl:(p6.toList++rest.toList).length=fU*te.size:=by
        have h1:=HS.1;have h2:fU*te.size=m*te.size+(fU - m) *te.size:=by rw[← Nat.add_mul];congr 1;omega
        have h3:rest.toList.length=(fU - m) *te.size:=by simpa using mW
        rw[List.length_append,h3,h1,hcl,h2]
       have AU:=Bc (nm:=nm) (b:=te.agg) (cap:=fU) (w:=w.drew) hw.drew hn hpos (cs:=cs) (vs:=p6.toList++rest.toList) (by rw[List.take_append_of_le_length (by rw[HS.1];exact Nat.le_refl _),List.take_of_length_le (by rw[HS.1];exact Nat.le_refl _)];exact HS) hvl (by have h9:=HS.1;simp only[List.length_append] at h9 ⊢;omega) elem;have BS:(p6.toList++rest.toList).toArray= #[]++p6++rest:=by simp
       rw[BS] at AU;refine cF.fF (jr _ _ hrun) (((je hw (λ_=>False) (λ_=>False)).trans (mD (w:=w.drew) hw.drew hn _ (some (cs.length,te.size,fU)) (λ_=>False))).mono (λ_ _ hh=>by simp at hh) (λ_ hh=>by simpa using hh)) ?_ ?_
       ·intro k ob hm;simp at hm;obtain⟨rfl,rfl⟩:=hm;exact AU
       ·have:=x4 (w:=w.drew) (nm:=nm) (bE:=te.size) (cap:=fU) (n:=cs.length) (len:=m) (by rw[hcl]) hn;simpa using this
      ·rename_i es;split at h
       ·rename_i n old hold;split at h<;>simp at h;rename_i Fs;obtain⟨rfl,rfl⟩:=h;obtain⟨hlo,hol,hfo⟩:=sI (C:=C) hw.drew hH.drew hs hold;cases hs with|j4 _ b hst=>
        have afn:n=es.length:=by
         simp only[fD] at hold;split at hold<;>simp at hold;exact hold.1.symm
        subst afn;obtain⟨x7,YM,Fu⟩:=hfo es.length (Nat.le_refl _);rw[List.take_of_length_le (by omega)] at Fu;obtain⟨fU,hnc,rest,mW,hrun⟩:=oy (sLen:=es.length) (sCap:=es.length) (b:=b) (r:=o.type) (olds:=x7) BV hd U0 Hq hte hz hzl hb0 Eb YL YM (by omega) Fs;have uB:=Fu.append HS;have P9:(x7.toList++p6.toList).length=(es.length+m) *te.size:=by rw[uB.1,List.length_append,hol,hcl,Nat.add_mul]
        have hvl:(x7.toList++p6.toList++rest.toList).length=fU*te.size:=by
         have h2:fU*te.size=(es.length+m) *te.size+(fU - (es.length+m)) *te.size:=by rw[← Nat.add_mul];congr 1;omega
         have h3:rest.toList.length=(fU - (es.length+m)) *te.size:=by simpa using mW
         rw[List.length_append,h3,P9,h2]
        have AU:=Bc (nm:=nm) (b:=te.agg) (cap:=fU) (w:=w.drew) hw.drew hn hpos (cs:=old++cs) (vs:=x7.toList++p6.toList++rest.toList) (by rw[List.take_append_of_le_length (by rw[uB.1];exact Nat.le_refl _),List.take_of_length_le (by rw[uB.1];exact Nat.le_refl _)];exact uB) hvl (by have h9:=uB.1;simp only[List.length_append] at h9 ⊢;omega) elem;have BS:(x7.toList++p6.toList++rest.toList).toArray=x7++p6++rest:=by simp
        rw[BS] at AU;refine cF.fF (jr _ _ hrun) (((je hw (λ_=>False) (λ_=>False)).trans (mD (w:=w.drew) hw.drew hn _ (some ((old++cs).length,te.size,fU)) (λ_=>False))).mono (λ_ _ hh=>by simp at hh) (λ_ hh=>by simpa using hh)) ?_ ?_
        ·intro k ob hm;simp at hm;obtain⟨rfl,rfl⟩:=hm;exact AU
        ·exact x4 (w:=w.drew) (nm:=nm) (bE:=te.size) (cap:=fU) (n:=(old++cs).length) (len:=es.length+m) (by rw[List.length_append,hol,hcl,Nat.add_mul]) hn
       ·simp at h
      ·rename_i k len;split at h
       ·rename_i g e fz old hro;split at h<;>simp at h;rename_i hc;obtain⟨he,hg1,Fs⟩:=hc;subst he;obtain⟨rfl,rfl⟩:=h;obtain⟨hk,abm,htip⟩:=lJ hro;obtain⟨cap,vs,ty,fr,b,qv,har,HO,mV,hsz,hlc,hv,hf,rfl,hcap,hb⟩:=sH hH hro hs;simp only[Nat.zero_add,Nat.sub_zero,Nat.zero_mul] at*;have hml:old.length<(old++cs).length:=by
         rw[List.length_append,hcl];have:0<m*te.size:=Nat.mul_pos (by omega) hpos;omega
        have hnl:(old++cs).length=(len+m) *te.size:=by rw[List.length_append,hcl,← htip,Nat.add_mul]
        by_cases hfit:len+m<=cap
        ·have hb':=hb (by omega);subst hb';have hle2:(len+m) *te.size<=cap*te.size:=Nat.mul_le_mul_right _ hfit;have Qa:old.length+news.toList.length<=vs.toList.length:=by
          rw[AY.1];have:(old++cs).length<=vs.size:=by rw[hnl,hsz];exact hle2
          simpa using this
         have hst:=ia (P:=C.P) (b:=G.mu k) (o:=len*te.size) (ty:=ty) (fr:=fr) news.toList w 0 vs.toList HQ (by simpa using HO) (by simpa using mV.1) (by simpa [htip] using Qa);simp only[Nat.add_zero,htip] at hst;have hrun:=uA (r:=o.type) (b:=some ⟨G.mu k,0,none⟩) BV hd U0 Hq hte Eb AV hfit (λad had=>by simp at had;subst had;rw[nR,Nat.zero_add,htip];exact hst) (λhh=>by simp at hh);have s1:=iT (vs:=over vs.toList old.length news.toList) hw qv (Gh.iF har abm) HO (λq ⟨uu,hq⟩=>by
          have hql:q<old.length:=by
           rcases Nat.lt_or_ge q old.length with h|h
           ·exact h
           ·rw[hf q (.inr h)] at hq;simp at hq
          unfold over;rw[List.append_assoc,List.getElem?_append_left (by simp;omega),List.getElem?_take,if_pos hql];simp)
         have afo:G.arr k=some (old.length,te.size,cap):=har;have s2:=grow_step (n':=(old++cs).length) s1.wf afo hml (λ_=>False);refine cF.fF (jr _ _ hrun) ((s1.trans s2).mono (λq _ hq=>by simpa using hq) (λ_ hq=>by simp at hq)) ?_ ?_
         ·intro k' ob hm;simp at hm;obtain⟨rfl,rfl⟩:=hm;have Aj:(G.grow k' (G.mu k') ((old++cs).length,te.size,cap)).mu k'=G.mu k':=by simp[Gh.grow]
          have hol:(over vs.toList old.length news.toList).length=vs.toList.length:=cX Qa;refine⟨qv,hpos,cap,(over vs.toList old.length news.toList).toArray,ty,fr,by simp[Gh.grow],by rw[Aj];exact b9 (hw.lt _ qv) _ _ _,⟨?_,mV.2⟩,by simpa [hol] using hsz, ?_, ?_, ?_⟩
          ·intro q hq;exact mV.1 q (by simp[hol] at hq;simpa using hq)
          ·rw[List.size_toArray,hol];have:=Qa;rw[AY.1] at this;simpa using this
          ·have e1:((over vs.toList old.length news.toList).toArray.toList).take (old++cs).length=vs.toList.take old.length++news.toList:=by
            unfold over;rw[List.toList_toArray,List.take_append_of_le_length (by simp[AY.1.symm];omega),List.take_of_length_le (by simp[AY.1.symm];omega)]
           rw[e1];exact(hv.append AY).mono (nJ _ har hml)
          ·intro q hq;rw[Aj];refine hf q (hq.imp id (λhh=>by omega))
         ·refine .ref k 0 (len+m) (old++cs).length te.size cap _ qv (by simp[Gh.grow]) (by rw[Nat.zero_add,hnl];exact Nat.le_refl _) ⟨_,_,rfl⟩ λ_=>⟨_,by simp;rfl,λ_=>by simp[Gh.grow]⟩
        ·have abn:VR G (.ref k 0 len) (.slice b len cap):=hs;obtain⟨hlo,_,hfo⟩:=sI (C:=C) (g:=g.2) hw.drew hH.drew (p:=.ref k 0 len) (size:=te.size) (m:=len) (cs:=old) abn (by simp[fD,hro]);obtain⟨x7,YM,Fu⟩:=hfo len (Nat.le_refl _);rw[List.take_of_length_le (by omega)] at Fu;obtain⟨fU,hnc,rest,mW,hrun⟩:=oy (sLen:=len) (sCap:=cap) (b:=b) (r:=o.type) (olds:=x7) BV hd U0 Hq hte hz hzl hb0 Eb YL YM (by omega) Fs;have uB:=Fu.append HS;have P9:(x7.toList++p6.toList).length=(len+m) *te.size:=by rw[uB.1,hnl]
         have hvl:(x7.toList++p6.toList++rest.toList).length=fU*te.size:=by
          have h2:fU*te.size=(len+m) *te.size+(fU - (len+m)) *te.size:=by rw[← Nat.add_mul];congr 1;omega
          have h3:rest.toList.length=(fU - (len+m)) *te.size:=by simpa using mW
          rw[List.length_append,h3,P9,h2]
         have hst:=Ea (w:=w.drew) (c':=fU) hw.drew har hml (.cells (x7++p6++rest) elem) (λ_=>False);refine cF.fF (jr _ _ hrun) (((je hw (λ_=>False) (λ_=>False)).trans hst).mono (λq _ hq=>by simpa using hq) (λ_ hq=>by simp at hq)) ?_ ?_
         ·intro k' ob hm;simp at hm;obtain⟨rfl,rfl⟩:=hm;have Aj:(G.grow k' w.drew.heap.size ((old++cs).length,te.size,fU)).mu k'=w.drew.heap.size:=by simp[Gh.grow]
          have BS:(x7++p6++rest).toList=x7.toList++p6.toList++rest.toList:=by simp
          refine⟨qv,hpos,fU,x7++p6++rest,elem,(0,0),by simp[Gh.grow],by rw[Aj];exact kg _ _,⟨λq _ hq=>by omega,hg1.symm,λ_=>rfl⟩,by rw[← Array.length_toList,BS];exact hvl,by have h9:=uB.1;rw[← Array.length_toList,BS];simp only[List.length_append] at h9 ⊢;omega, ?_, ?_⟩
          ·rw[BS,List.take_append_of_le_length (by rw[uB.1];exact Nat.le_refl _),List.take_of_length_le (by rw[uB.1];exact Nat.le_refl _)];exact uB.mono (nJ _ har hml)
          ·intro q _;rw[Aj];exact hw.drew.HI q
         ·refine .ref k 0 (len+m) (old++cs).length te.size fU _ qv (by simp[Gh.grow]) (by rw[Nat.zero_add,hnl];exact Nat.le_refl _) ⟨_,_,rfl⟩ λ_=>⟨_,by simp;rfl,λ_=>by simp[Gh.grow]⟩
       ·simp at h
      ·simp at h
     ·simp at h
   ·simp at h
 ·simp at h
end
end Go.Abs
namespace Go.Abs
open Go
section
variable {C:cE}{f:FuncId}{nm:Nm}{H:Heap}{slots:List TV}{a:Act}{w:World}{G:Gh}{v:TV}
theorem DB {o:Oper}{t:TypeId}{pl pc:Operand}{l c:TV}{u:List (Nm×aO)}(hw:WF G w)(hn:¬G.dom nm)(ho:o.op=.makeSlice t pl pc)(hl:VR G l (a.eval pl))(hc:VR G c (a.eval pc))
 (h:wT C.P nm t l c=some (v,u)):cF C.P nm o a w G v u:=by
 unfold wT at h
 cases ht:bh C.P t<;>cases hli:fV l<;>cases hci:fV c<;>simp only[ht,hli,hci,reduceCtorEq] at h
 rename_i ti ln cn
 obtain⟨kl,hlv⟩:=p0 hl hli
 obtain⟨kc,hcv⟩:=p0 hc hci
 obtain⟨_,_,hu,_⟩:=bD ht
 split at h
 ·rename_i elem hd;rw[hd] at hu;have j3:=aH hu w;cases hte:bh C.P elem<;>simp only[hte,reduceCtorEq] at h;rename_i te;obtain⟨i,hi,_,_,hbytes,_⟩:=bD hte;have P6:=pH hi w;cases hz:te.zero<;>simp only[hz,reduceCtorEq] at h;rename_i z;split at h
  ·rename_i hg;obtain⟨h1,h2,h3,h4,h5,h6⟩:=hg;simp at h;obtain⟨rfl,rfl⟩:=h;obtain⟨zv,hz1,HF⟩:=fu hte hz w G;have hr:=BQ HF (pI hte hz) cn te.size h5 h4;have hsz:zv.cells.size=te.size:=by have:=(HF.cells (pI hte hz)).1;simp at this;omega
   have hwrap:∀n:Nat,n<=fE->IntKind.i64.wrap (n:Int)=n:=by
    intro n hn;unfold fE at hn;exact Go.IntWalk.i64_in _ (by omega)
   have hcb:((cn:Int) * (te.bytes:Int):Int)<=70368744177664:=by
    have:((cn*te.bytes:Nat):Int)<=70368744177664:=by unfold fE at h2;omega
    simpa using this
   let cells:=((Array.range (cn*te.size)).map (zv.cells[· % zv.cells.size]!));have hrun:(execOp a.eval o).run C.P w=.ok (.value (.slice (some ⟨w.heap.size,0,none⟩) ln cn)) (World.cL w (.cells cells elem)):=by
    have hb:¬((te.bytes:Int) * (cn:Int)>281474976710656):=by rw[Int.mul_comm];omega
    have hroom:¬(cn*te.bytes>140737488355328):=by unfold fE at h2;omega
    have e1:IntKind.i64.wrap (ln:Int)=ln:=hwrap ln (by omega);have e2:IntKind.i64.wrap (cn:Int)=cn:=hwrap cn h3;have hb':¬(281474976710656<(i.bytes:Int) * (cn:Int)):=by rw[hbytes];exact hb
    have hc1:¬((cn:Int)<0):=by omega
    have dF:¬((ln:Int)<0):=by omega
    have cW:¬(cn<ln):=by omega
    have Qb:¬(cn*i.bytes>2 ^ 47):=by rw[hbytes];exact hroom
    simp only[execOp,ho,hlv,hcv,Instr.makeSlice];by_cases h0:cn*te.size=0
    ·have e:((Array.range (cn*te.size)).map λ_=>(default:Value))=cells:=by simp only[cells];rw[h0];simp
     simp[j3,asInt,asIntOf,P6,e1,e2,eB hte w,jx,askRoom,roomBytes,hb',hc1,dF,cW,Qb,h0];rw[← e,h0];rfl
    ·simp[j3,asInt,asIntOf,P6,e1,e2,eB hte w,jx,askRoom,roomBytes,hb',hc1,dF,cW,Qb,h0,hz1];rfl
   have AU:=Bc (nm:=nm) (b:=te.agg) (cap:=cn) (cs:=qR ln z.cells) hw hn h4 (vs:=cells.toList) (by
    have hlen:(qR ln z.cells).length=ln*te.size:=by rw[gC,h5]
    refine⟨?_,λj x y hx hy=> ?_⟩
    ·have:=hr.1;rw[List.length_take,this,gC,gC,h5];have:ln*te.size<=cn*te.size:=Nat.mul_le_mul_right _ h1;omega
    ·have hjl:j<ln*te.size:=by have:=(List.getElem?_eq_some_iff.1 hx).1;omega
     have hjc:j<cn*te.size:=Nat.lt_of_lt_of_le hjl (Nat.mul_le_mul_right _ h1);rw[List.getElem?_take,if_pos (by omega)] at hy;refine hr.2 j x y ?_ hy;rw[BP (by rw[h5];exact hjc),← BP (n:=ln) (by rw[h5];exact hjl)];exact hx) (by have:=hr.1;rw[this,gC,h5]) (by
      have:=hr.1;rw[this,gC,gC];exact Nat.mul_le_mul_right _ h1) elem
   rw[Array.toArray_toList] at AU;refine cF.fF hrun (mD hw hn _ (some ((qR ln z.cells).length,te.size,cn)) _) ?_ ?_
   ·intro k ob hm;simp at hm;obtain⟨rfl,rfl⟩:=hm;exact AU
   ·exact x4 (by rw[gC,h5]) hn
  ·simp at h
 ·simp at h
theorem Qc {o:Oper}{args:Array Operand}{ats:Array TypeId}{dt xt:TypeId}{d x:TV}{u:List (Nm×aO)}(hw:WF G w)(hH:HR G w H)(ho:o.op=.call {callee:=.builtin .copy,args,argTypes:=ats})
 (hat:ats.toList=[dt,xt])(hargs:cr G [d,x] (args.map a.eval).toList)(h:PE C.P H dt d x=some (v,u)):cF C.P nm o a w G v u:=by
 have Ft:ats= #[dt,xt]:=by rw[← Array.toArray_toList (xs:=ats),hat]
 obtain⟨dv,rest,Pq,hd',mW⟩:=hargs.gQ
 obtain⟨xv,P7,he2,hx,BW⟩:=mW.gQ
 have hr2:P7=[]:=by have:=BW.1;simpa using this
 subst hr2
 subst he2
 have Pr:args.map a.eval= #[dv,xv]:=by rw[← Array.toArray_toList (xs:=args.map a.eval),Pq]
 have jr:∀r w',(Builtin.copy_ #[dt,xt] o.type #[dv,xv]).run C.P w=.ok r w'->(execOp a.eval o).run C.P w=.ok (.value r) w':=λr w' hr=>by
  rw[← Ft,← Pr] at hr;simp[execOp,ho,resolve,invoke,builtin,hr]
 clear BW mW Pq Pr hat
 unfold PE at h
 cases BV:bh C.P dt<;>simp only[BV,reduceCtorEq] at h
 rename_i ti
 obtain⟨_,_,hu,_⟩:=bD BV
 split at h
 ·rename_i elem hd;rw[hd] at hu;have j3:=aH hu w;cases hte:bh C.P elem<;>simp only[hte,reduceCtorEq] at h;rename_i te;have hsz:=eB hte w;split at h
  ·rename_i r hsrc;simp at h;obtain⟨rfl,rfl⟩:=h;obtain⟨m,cs⟩:=r;obtain⟨Eb,hcl,YK⟩:=sI (C:=C) hw hH hx hsrc;obtain⟨us,AV,_⟩:=YK 0 (by omega);cases hd';refine cF.quiet hw (jr (.int .i64 0) w ?_) (.t _ _ (.int _ _));simp[Builtin.copy_,j3,Eb,hsz,AV,goInt]
  ·rename_i k off len m cs hsrc;split at h
   ·rename_i g e old hro;split at h<;>simp at h;rename_i hc;obtain⟨wD,hlf⟩:=hc;subst wD;obtain⟨rfl,rfl⟩:=h;obtain⟨Eb,hcl,YK⟩:=sI (C:=C) hw hH hx hsrc;obtain⟨us,AV,AY⟩:=YK (min m len) (Nat.min_le_left _ _);obtain⟨hk,hpos,htip⟩:=lJ hro;obtain⟨cap,vs,ty,fr,b,qv,har,HO,mV,YN,hlc,hv,hf,rfl,hcap,hb⟩:=sH hH hro hd';have hml:(off+len) *te.size=off*te.size+len*te.size:=Nat.add_mul _ _ _;have hmin:min m len*te.size<=len*te.size:=Nat.mul_le_mul_right _ (Nat.min_le_right _ _);have Ec:min m len*te.size<=cs.length:=by rw[hcl];exact Nat.mul_le_mul_right _ (Nat.min_le_left _ _)
    have wE:us.toList.length=min m len*te.size:=by rw[AY.1,List.length_take];omega
    have Qa:off*te.size+us.toList.length<=vs.toList.length:=by rw[wE];simp;omega
    have HQ:=p5 AY (List.all_eq_true.2 λy hy=>List.all_eq_true.1 hlf y (List.mem_of_mem_take hy));have hst:=ia (P:=C.P) (b:=G.mu k) (o:=off*te.size) (ty:=ty) (fr:=fr) us.toList w 0 vs.toList HQ (by simpa using HO) (by simpa using mV.1) (by simpa using Qa);simp only[Nat.add_zero] at hst;have s1:=iT (vs:=over vs.toList (off*te.size) us.toList) hw qv (Gh.iF har hpos) HO (λq ⟨uu,hq⟩=>by rw[hf q (.inl rfl)] at hq;simp at hq);have hol:(over vs.toList (off*te.size) us.toList).length=vs.toList.length:=cX Qa;have hrun:(Builtin.copy_ #[dt,xt] o.type #[.slice b len (cap - off),xv]).run C.P w=.ok (.int .i64 ((min m len:Nat):Int)) (World.bk w (G.mu k) (over vs.toList (off*te.size) us.toList).toArray ty fr):=by
     have hmn:Nat.min m len=min m len:=rfl;have afp:(Builtin.firstCells te.size (Nat.min m len) xv).run C.P w=.ok us w:=AV;cases b with
     | none=>
       have h0:off=cap:=by
         rcases Nat.lt_or_ge off cap with h|h
         · have:=hb h;simp at this
         · omega
       have L8:len=0:=by omega
       subst L8
       have mE:us.toList=[]:=by apply List.length_eq_zero_iff.1;rw[wE];simp
       rw[mE,uw,Array.toArray_toList,mz HO]
       have hf0:(Builtin.firstCells te.size 0 xv).run C.P w=.ok us w:=by simpa using AV
       simp[Builtin.copy_,j3,Eb,hsz,hf0,goInt]
     | some ad=>
       by_cases hlt:off<cap
       · have:=hb hlt
         simp at this
         subst this
         simp[Builtin.copy_,j3,Eb,hsz,afp,hst,goInt]
       · have L8:len=0:=by omega
         subst L8
         have mE:us.toList=[]:=by apply List.length_eq_zero_iff.1;rw[wE];simp
         have AZ:us= #[]:=by rw[← Array.toArray_toList (xs:=us),mE]
         rw[mE,uw,Array.toArray_toList,mz HO]
         have hf0:(Builtin.firstCells te.size 0 xv).run C.P w=.ok #[] w:=by rw[← AZ];simpa using AV
         simp[Builtin.copy_,j3,Eb,hsz,hf0,storeCells,goInt]
    refine cF.fF (jr _ _ hrun) (s1.mono (λx _ e=>by simp[e]) (λ_ e=>e.elim)) ?_ (.t _ _ (.int _ _));intro k' ob hm;simp at hm;obtain⟨rfl,rfl⟩:=hm;have htl:(cs.take (min m len*te.size)).length=min m len*te.size:=by rw[List.length_take];omega
    have DA:(cJ old (off*te.size) (cs.take (min m len*te.size))).length=old.length:=lz (by rw[htl];omega);refine⟨qv,hpos,cap,(over vs.toList (off*te.size) us.toList).toArray,ty,fr,by rw[DA];exact har,b9 (hw.lt _ qv) _ _ _,⟨?_,mV.2⟩,by simpa [hol] using YN,by rw[DA,List.size_toArray,hol];simpa using hlc, ?_,λo _=>hf o (.inl rfl)⟩
    ·intro o ho';exact mV.1 o (by simp[hol] at ho';simpa using ho')
    ·rw[DA,List.toList_toArray,zz (by rw[wE];omega) (by simpa using hlc)];exact hv.cJ AY
   ·simp at h
  ·simp at h
 ·simp at h
theorem HT {z:List TV}{p:TV->Bool}(h:z.all p=true):∀n,(qR n z).all p=true
 |0=>rfl
 |n+1=>by
  show(z++qR n z).all p=true
  rw[List.all_append,h,HT h n];rfl
theorem Nw {o:Oper}{args:Array Operand}{ats:Array TypeId}{dt:TypeId}{d:TV}{u:List (Nm×aO)}(hw:WF G w)(hH:HR G w H)(ho:o.op=.call {callee:=.builtin .clear,args,argTypes:=ats})
 (hat:ats.toList=[dt])(hargs:cr G [d] (args.map a.eval).toList)(h:wS C.P H dt d=some (v,u)):cF C.P nm o a w G v u:=by
 have Ft:ats= #[dt]:=by rw[← Array.toArray_toList (xs:=ats),hat]
 obtain⟨dv,rest,Pq,hd',mW⟩:=hargs.gQ
 have hr2:rest=[]:=by have:=mW.1;simpa using this
 subst hr2
 have Pr:args.map a.eval= #[dv]:=by rw[← Array.toArray_toList (xs:=args.map a.eval),Pq]
 have jr:∀r w',(Builtin.clear_ #[dt] o.type #[dv]).run C.P w=.ok r w'->(execOp a.eval o).run C.P w=.ok (.value r) w':=λr w' hr=>by
  rw[← Ft,← Pr] at hr;simp[execOp,ho,resolve,invoke,builtin,hr]
 clear mW Pq Pr hat
 unfold wS at h
 cases BV:bh C.P dt<;>simp only[BV,reduceCtorEq] at h
 rename_i ti
 obtain⟨_,_,hu,_⟩:=bD BV
 split at h
 ·rename_i elem hd;rw[hd] at hu;have j3:=aH hu w;cases hte:bh C.P elem<;>simp only[hte,reduceCtorEq] at h;rename_i te;split at h
  ·rename_i z k off len hz;split at h
   ·rename_i g e old hro;split at h<;>simp at h;rename_i hc;obtain⟨wD,hzl,hlf⟩:=hc;subst wD;obtain⟨rfl,rfl⟩:=h;obtain⟨zv,hz1,HF⟩:=fu hte hz w G;obtain⟨hk,hpos,htip⟩:=lJ hro;obtain⟨cap,vs,ty,fr,b,qv,har,HO,mV,YN,hlc,hv,hf,rfl,hcap,hb⟩:=sH hH hro hd';have hsz:zv.cells.size=te.size:=by have:=(HF.cells (pI hte hz)).1;simp at this;omega
    have hr:=BQ HF (pI hte hz) len zv.cells.size (by rw[hzl,hsz]) (by omega);obtain⟨us,mE⟩:∃us,us=Builtin.zeroCells zv.cells len:=⟨_,rfl⟩;have AY:cr G (qR len z.cells) us.toList:=by rw[mE];unfold Builtin.zeroCells;exact hr
    have hml:(off+len) *te.size=off*te.size+len*te.size:=Nat.add_mul _ _ _;have hrl:(qR len z.cells).length=len*te.size:=by rw[gC,hzl]
    have wE:us.toList.length=len*te.size:=by rw[AY.1,hrl]
    have Qa:off*te.size+us.toList.length<=vs.toList.length:=by rw[wE];simp;omega
    have HQ:=p5 AY (HT hlf len);have hst:=ia (P:=C.P) (b:=G.mu k) (o:=off*te.size) (ty:=ty) (fr:=fr) us.toList w 0 vs.toList HQ (by simpa using HO) (by simpa using mV.1) (by simpa using Qa);simp only[Nat.add_zero] at hst;have s1:=iT (vs:=over vs.toList (off*te.size) us.toList) hw qv (Gh.iF har hpos) HO (λq ⟨uu,hq⟩=>by rw[hf q (.inl rfl)] at hq;simp at hq);have hol:(over vs.toList (off*te.size) us.toList).length=vs.toList.length:=cX Qa;have hzero:len=0->∀b':Option Addr,(Builtin.clear_ #[dt] o.type #[.slice b' len (cap - off)]).run C.P w=.ok (.tuple #[]) (World.bk w (G.mu k) (over vs.toList (off*te.size) us.toList).toArray ty fr):=λh0 b'=>by
     have afq:us.toList=[]:=by apply List.length_eq_zero_iff.1;rw[wE,h0];simp
     rw[afq,uw,Array.toArray_toList,mz HO,h0];cases b'<;>simp[Builtin.clear_,j3]
    have hrun:(Builtin.clear_ #[dt] o.type #[.slice b len (cap - off)]).run C.P w=.ok (.tuple #[]) (World.bk w (G.mu k) (over vs.toList (off*te.size) us.toList).toArray ty fr):=by
     by_cases h0:len=0
     ·exact hzero h0 b
     ·have hlt:off<cap:=by omega
      have:=hb hlt;subst this;obtain⟨n,rfl⟩:∃n,len=n+1:=⟨len - 1,by omega⟩;rw[mE] at hst ⊢;simp[Builtin.clear_,j3,hz1,hst]
    refine cF.fF (jr _ _ hrun) (s1.mono (λx _ e=>by simp[e]) (λ_ e=>e.elim)) ?_ (.t _ _ (.dr [] [] rfl (by simp)));intro k' ob hm;simp at hm;obtain⟨rfl,rfl⟩:=hm;have DA:(cJ old (off*te.size) (qR len z.cells)).length=old.length:=lz (by rw[hrl];omega);refine⟨qv,hpos,cap,(over vs.toList (off*te.size) us.toList).toArray,ty,fr,by rw[DA];exact har,b9 (hw.lt _ qv) _ _ _,⟨?_,mV.2⟩,by simpa [hol] using YN,by rw[DA,List.size_toArray,hol];simpa using hlc, ?_,λo _=>hf o (.inl rfl)⟩
    ·intro o ho';exact mV.1 o (by simp[hol] at ho';simpa using ho')
    ·rw[DA,List.toList_toArray,zz (by rw[wE];omega) (by simpa using hlc)];exact hv.cJ AY
   ·simp at h
  ·simp at h
 ·simp at h
end
end Go.Abs
namespace Go.Abs
open Go
section
variable {C:cE}{f:FuncId}{nm:Nm}{H:Heap}{slots:List TV}{a:Act}{w:World}{G:Gh}{v:TV}
theorem Fv:∀{cs:List TV} {bs:List UInt8} {us:List Value},bytesOf cs=some bs->cr G cs us->∃ns:List Int,us=ns.map (Value.int .u8)/\bs=ns.map λn=>UInt8.ofNat n.toNat:=by
 intro cs;induction cs with
 |nil=>intro bs us h hv;simp[bytesOf] at h;subst h;have:=hv.1;simp at this;subst this;exact⟨[],rfl,rfl⟩
 | cons c r ih=>
   intro bs us h hv
   obtain⟨u,us',rfl,h1,h2⟩:=hv.gQ
   unfold bytesOf at h
   split at h
   · rename_i heq;simp at heq
   · rename_i n r' heq
     simp at heq
     obtain⟨rfl,rfl⟩:=heq
     cases hb:bytesOf r with
     |none=>rw[hb] at h;simp at h
     | some bs'=>
       rw[hb] at h
       simp at h
       subst h
       obtain⟨ns,e1,e2⟩:=ih hb h2
       have:=h1.int
       subst this
       exact⟨n::ns,by simp[e1],by simp[e2]⟩
   · simp at h
theorem foldl_push (ns:List Int):∀(s:ByteArray),(ns.foldl (λ(r:ByteArray) (n:Int)=>r.push (UInt8.ofNat n.toNat)) s).data.toList=s.data.toList++ns.map λn=>UInt8.ofNat n.toNat:=by
 induction ns with
 |nil=>intro s;simp
 |cons n r ih=>
  intro s
  simp only[List.foldl_cons]
  rw[ih]
  simp[ByteArray.push]
abbrev Qd (b:UInt8):Value:=Value.int .u8 (b.toNat:Int)
def bytesRow (s:List UInt8)(cap:Nat):List Value:=s.map Qd++List.replicate (cap - s.length) (Value.int .u8 0)
theorem tK {s:List UInt8}{cap:Nat}(h:s.length<=cap):(bytesRow s cap).length=cap:=by
 unfold bytesRow;simp;omega
theorem Fw (F:uh)(s:List UInt8):AQ F (s.map λb=>Tree.int .u8 (b.toNat:Int)) (s.map Qd):=by
 refine⟨by simp,λj c u h1 h2=> ?_⟩;rw[List.getElem?_map] at h1 h2;cases hj:s[j]? with
 |none=>rw[hj] at h1;simp at h1
 |some b=>rw[hj] at h1 h2;simp at h1 h2;subst h1;subst h2;exact .int _ _
theorem x8 (s:List UInt8)(elem:TypeId):
 ∃ cap,s.length<=cap/\(Conv.stringToBytes elem ⟨s.toArray⟩).run C.P w=.ok (.slice (some ⟨w.heap.size,0,none⟩) s.length cap)
  (World.cL w.drew (.cells (bytesRow s cap).toArray elem (cap,cap+1))):=by
 refine⟨(Question.appendCap s.length 0 elem).cut (w.tape w.drawn (Question.appendCap s.length 0 elem)), ?_, ?_⟩
 ·show s.length<=s.length+_;omega
 ·have hq:(Question.appendCap s.length 0 elem).forced=false:=rfl;have hsz:(ByteArray.mk s.toArray).size=s.length:=by show s.toArray.size=_;simp
  have hcap:s.length<=(Question.appendCap s.length 0 elem).cut (w.tape w.drawn (Question.appendCap s.length 0 elem)):=by
   show s.length<=s.length+_;omega
  generalize hc:(Question.appendCap s.length 0 elem).cut (w.tape w.drawn (Question.appendCap s.length 0 elem))=cap at hcap ⊢;simp only[Conv.stringToBytes,hsz,markStringish];simp only[Sem.run_bind];have h1:(choose (Question.appendCap s.length 0 elem)).run C.P w=.ok cap w.drew:=by
   rw[← hc];unfold choose;simp only[Sem.run,hq];rfl
  rw[h1];simp only[Result.andThen_ok,jx];have BS:((ByteArray.mk s.toArray).data.map λb=>Value.int .u8 (b.toNat:Int))++Array.replicate (cap - s.length) (Value.int .u8 0)=(bytesRow s cap).toArray:=by
   simp[bytesRow]
  rw[BS];have hvl:=tK hcap;generalize bytesRow s cap=vs at hvl ⊢;have hnew:({w.drew with heap:=w.drew.heap.push (.cells vs.toArray elem)}:World).heap[w.drew.heap.size]?=some (.cells vs.toArray elem):=kg w.drew _;have YO:({w.drew with heap:=w.drew.heap.push (.cells vs.toArray elem)}:World).shape? w.drew.heap.size=some (elem,vs.length):=by
   unfold World.shape?;rw[hnew];simp
  simp only[Sem.run_bind,shape,Sem.run,YO,Result.andThen_ok];have hfr:({w.drew with heap:=w.drew.heap.push (.cells vs.toArray elem)}:World).freeze {block:=w.drew.heap.size,off:=vs.length} 1=World.cL w.drew (.cells vs.toArray elem (cap,cap+1)):=by
   unfold World.freeze World.cL;rw[if_neg (by omega)];congr 1;apply Array.ext_getElem?;intro i;rw[Array.getElem?_modify];by_cases e:w.drew.heap.size=i
   ·subst e;rw[if_pos rfl,hnew,Array.getElem?_push,if_pos rfl];simp[hvl]
   ·rw[if_neg e];show(w.drew.heap.push _)[i]?=_;rw[Array.getElem?_push,Array.getElem?_push];rw[if_neg (λh=>e h.symm),if_neg (λh=>e h.symm)]
  simp only[freeze,Sem.run,hfr];rfl
theorem HU {o:Oper}{alA:Bool}{src dst:TypeId}{px:Operand}{p:TV}{u:List (Nm×aO)}(hw:WF G w)(hH:HR G w H)(hn:¬G.dom nm)(ho:o.op=.convert src dst px)(hp:VR G p (a.eval px))
 (h:rz C.P alA nm H src dst p=some (v,u)):cF C.P nm o a w G v u:=by
 have jr:∀r w',(convert src dst (a.eval px)).run C.P w=.ok r w'->(execOp a.eval o).run C.P w=.ok (.value r) w':=by
  intro r w' hr;simp[execOp,ho,hr]
 unfold rz at h
 cases hs:bh C.P src<;>cases hd:bh C.P dst<;>simp only[hs,hd,reduceCtorEq] at h
 rename_i ts td
 obtain⟨_,_,mE,_⟩:=bD hs
 obtain⟨_,_,YP,_⟩:=bD hd
 split at h
 ·rename_i s h1 h2;simp at h;obtain⟨rfl,rfl⟩:=h;rw[h1] at mE;rw[h2] at YP;have hx:=hp.str;have us:=aH mE w;have ud:=aH YP w;refine cF.quiet hw (jr (a.eval px) w ?_) hp;rw[hx];simp[convert,us,ud]
 ·rename_i e s h1 h2;rw[h1] at mE;rw[h2] at YP;have hx:=hp.str;have us:=aH mE w;have ud:=aH YP w;cases he:bh C.P e<;>simp only[he,reduceCtorEq] at h;rename_i te;obtain⟨_,_,YQ,_⟩:=bD he;split at h
  ·rename_i hde;rw[hde] at YQ;have ue:=aH YQ w;obtain⟨cap,hcap,hrun⟩:=x8 (C:=C) (w:=w) s e;have Qe:(convert src dst (a.eval px)).run C.P w=.ok (.slice (some ⟨w.heap.size,0,none⟩) s.length cap) (World.cL w.drew (.cells (bytesRow s cap).toArray e (cap,cap+1))):=by
    rw[hx];simp[convert,us,ud,ue,hrun]
   have HM:=Fw G.F s;split at h
   ·simp at h;obtain⟨rfl,rfl⟩:=h;have hpre:(List.take (s.map λb=>TV.t (Tree.int .u8 (b.toNat:Int))).length (bytesRow s cap))=s.map Qd:=by
     unfold bytesRow;rw[List.take_append_of_le_length (by simp),List.take_of_length_le (by simp)]
    have P9:=tK hcap;have AU:=HJ (nm:=nm) (b:=false) (bE:=1) (cap:=cap) (w:=w.drew) hw.drew hn (by omega) (cs:=s.map λb=>TV.t (Tree.int .u8 (b.toNat:Int))) (vs:=bytesRow s cap) (by rw[hpre];have:=HM.HA;simpa [List.map_map,Function.comp_def] using this) (by omega) (by simp;omega) e (cap,cap+1) (λo ho hh=>by rw[List.size_toArray,P9] at ho;omega) (λh=>absurd rfl h);refine cF.fF (jr _ _ Qe) (((je hw (λ_=>False) (λ_=>False)).trans (mD (w:=w.drew) hw.drew hn _ (some ((s.map λb=>TV.t (Tree.int .u8 (b.toNat:Int))).length,1,cap)) (λ_=>False))).mono (λ_ _ hh=>by simp at hh) (λ_ hh=>by simpa using hh)) ?_ ?_
    ·intro k ob hm;simp at hm;obtain⟨rfl,rfl⟩:=hm;simpa using AU
    ·exact x4 (w:=w.drew) (nm:=nm) (bE:=1) (cap:=cap) (len:=s.length) (by simp) hn
   ·simp at h;obtain⟨rfl,rfl⟩:=h;have hch:chunk false 1 s.length (s.map λb=>Tree.int .u8 (b.toNat:Int))=some (s.map λb=>Tree.int .u8 (b.toNat:Int)):=by
     clear hx hp hrun Qe HM hcap jr;induction s with
     |nil=>rfl
     |cons b r ih=>simp[chunk,ih,Tree.leaf]
    have hr:=JX (w:=w.drew) hw.drew HM hch cap hcap (bytesRow s cap) (λj u hj=>by
     unfold bytesRow;rw[List.getElem?_append_left (by exact(List.getElem?_eq_some_iff.1 hj).1)];exact hj)
    refine cF.fF (jr _ _ Qe) (((je hw (λ_=>False) (λ_=>False)).trans (row_step (w:=w.drew) hw.drew _ e (λ_=>False) (λ_=>False) (cap,cap+1))).mono (λ_ _ hh=>by simp at hh) (λ_ hh=>by simp at hh)) (λ_ _ hm=>by simp at hm) (.t _ _ hr)
  ·simp at h
 ·rename_i e h1 h2;rw[h1] at mE;rw[h2] at YP;have us:=aH mE w;have ud:=aH YP w;cases he:bh C.P e<;>simp only[he,reduceCtorEq] at h;rename_i te;obtain⟨_,_,YQ,_⟩:=bD he;split at h
  ·rename_i m cs hde hsrc;rw[hde] at YQ;have ue:=aH YQ w;cases hb:bytesOf cs<;>simp only[hb,reduceCtorEq] at h;rename_i bs;obtain⟨Eb,hcl,YK⟩:=sI (C:=C) hw hH hp hsrc;obtain⟨us',AV,AY⟩:=YK m (Nat.le_refl _);rw[List.take_of_length_le (by omega)] at AY;obtain⟨ns,e1,e2⟩:=Fv hb AY;have hns:us'=(ns.map (Value.int .u8)).toArray:=by rw[← Array.toArray_toList (xs:=us'),e1]
   split at h
   ·simp at h
   ·rename_i abo;simp at h;obtain⟨rfl,rfl⟩:=h;have wW:∃b l c,a.eval px=.slice b l c:=by
     unfold fD at hsrc;split at hsrc
     ·generalize a.eval px=xv at hp;cases hp;exact⟨_,_,_,rfl⟩
     ·have:=hp.tree;generalize a.eval px=xv at this;cases this<;>exact⟨_,_,_,rfl⟩
     ·generalize a.eval px=xv at hp;cases hp;exact⟨_,_,_,rfl⟩
     ·rename_i k off len;split at hsrc
      ·rename_i hro;obtain⟨cap,vs,ty,fr,b,_,_,_,_,_,_,_,_,hx,_,_⟩:=sH hH hro hp;exact⟨_,_,_,hx⟩
      ·simp at hsrc
     ·exact absurd rfl (abo _)
     ·simp at hsrc
    obtain⟨b,l,c,hx⟩:=wW;rw[hx] at Eb AV;have hlm:l=m:=by simp[Builtin.lenOf] at Eb;exact Eb
    subst hlm;have hout:(Conv.bytesToString (.slice b l c)).run C.P w=.ok (.string ⟨bs.toArray⟩) w:=by
     cases b with
     | none=>
       simp[Builtin.firstCells] at AV
       subst AV
       have:ns=[]:=by
         have:=congrArg Array.size hns
         simp at this
         exact List.length_eq_zero_iff.1 this.symm
       subst this
       subst e2
       rfl
     | some ad=>
       simp only[Builtin.firstCells,Nat.mul_one] at AV
       rw[hns] at AV
       rw[run_bytesToString w ad l c ns AV]
       congr 2
       apply Go.WideShapes.bytes_inj
       rw[foldl_push,e2]
       simp
    refine cF.quiet hw (jr _ w ?_) (.t _ _ (.str bs));rw[hx,run_convert_bytes_string w src dst e b l c mE YQ YP];exact hout
  ·simp at h
 ·rename_i k1 k2 k n h1 h2;cases hr:dK C.P (convert src dst (.int k n))<;>simp[hr] at h;rename_i r;obtain⟨v',h3,rfl,rfl⟩:=h;have hx:=hp.int;refine cF.quiet hw (jr r w ?_) (uq h3);rw[hx];exact nQ hr w
 ·simp at h
theorem pJ {o:Oper}{b:Builtin}{args:Array Operand}{ats:Array TypeId}{w':World}{r:Value}(ho:o.op=.call {callee:=.builtin b,args,argTypes:=ats})
 (h:∀cs,(builtin b ats o.type cs (args.map a.eval)).run C.P w=.ok (.value r) w'):(execOp a.eval o).run C.P w=.ok (.value r) w':=by
 simp only[execOp,ho,resolve]
 simp[invoke,h]
theorem Ak {k:IntKind}{g:Int->Int->Int}{s:Value->Value->Sem Value}(hg:∀x y k',s (.int k x) (.int k' y)=pure (.int k (g x y))):∀(ys:List Int) (x:Int),((ys.map (Value.int k)).foldlM s (.int k x)).run C.P w=.ok (.int k (ys.foldl g x)) w:=by
 intro ys;induction ys with
 |nil=>intro x;rfl
 |cons y r ih=>intro x;simp only[List.map_cons,List.foldlM_cons,hg,pure_bind,List.foldl_cons];exact ih _
theorem A0 {k:IntKind}:∀{xs:List TV} {ys:List Int} {vs:List Value},lp.lH k xs=some ys->cr G xs vs->vs=ys.map (Value.int k):=by
 intro xs;induction xs with
 |nil=>intro ys vs h hv;simp[lp.lH] at h;subst h;have:=hv.1;simpa using this
 | cons x r ih=>
   intro ys vs h hv
   obtain⟨u,us,rfl,h1,h2⟩:=hv.gQ
   unfold lp.lH at h
   split at h
   · rename_i heq;simp at heq
   · rename_i k' y r' heq
     simp at heq
     obtain⟨rfl,rfl⟩:=heq
     cases hm:lp.lH k r with
     |none=>rw[hm] at h;simp at h
     | some zs=>
       rw[hm] at h
       simp at h
       obtain⟨rfl,rfl⟩:=h
       rw[ih hm h2,h1.int];rfl
   · simp at h
theorem Al {mx:Bool}{args:List TV}{vs:Array Value}{ats:Array TypeId}{t:TypeId}(hv:cr G args vs.toList)(h:lp mx args=some v)(w:World):
 ∃r,(if mx then Builtin.max_ ats t vs else Builtin.min_ ats t vs).run C.P w=.ok r w/\VR G v r:=by
 unfold lp at h
 split at h
 ·rename_i k x r;cases hm:lp.lH k r<;>simp[hm] at h;rename_i ys;subst h;obtain⟨u,us,he,h1,h2⟩:=hv.gQ;have e1:=h1.int;have e2:=A0 hm h2;refine⟨_, ?_,.t _ _ (.int _ _)⟩;cases mx
  ·simp only[Bool.false_eq_true,if_false,Builtin.min_,he,e1,e2];rw[Ak (g:=λx y=>if y<x then y else x) (λx y k'=>rfl)]
  ·simp only[if_true,Builtin.max_,he,e1,e2];rw[Ak (g:=λx y=>if y>x then y else x) (λx y k'=>rfl)]
 ·simp at h
end
end Go.Abs
namespace Go.Abs
open Go
section
variable {C:cE}{f:FuncId}{nm:Nm}{H:Heap}{slots:List TV}{a:Act}{w:World}{G:Gh}{v:TV}
def FR (G:Gh)(es:List (TV×TV×Nat))(bF:List MapEntry)(u:Value)(i:Nat):Option (Nat×TV×Nat)->Option (Nat×Value)->Prop
 |none,none=>True
 |some (j,v,b),some (j',x)=>j=j'/\∃m e k',j=i+m/\bF[m]?=some e/\es[m]?=some (k',v,b)/\x=e.val/\VR G v e.val/\e.born=b/\Instr.sameBits 10000 e.key u=true
 |_,_=>False
theorem FR.succ {es:List (TV×TV×Nat)}{bF:List MapEntry}{u:Value}{i:Nat}{p:TV×TV×Nat}{e:MapEntry}{r:Option (Nat×TV×Nat)}{r':Option (Nat×Value)}(h:FR G es bF u (i+1) r r'):FR G (p::es) (e::bF) u i r r':=by
 cases r<;>cases r'<;>try exact h
 rename_i x y;obtain⟨j,v,b⟩:=x;obtain⟨j',z⟩:=y;obtain⟨h1,m,e',k',h2,h3,h4,h5⟩:=h;exact⟨h1,m+1,e',k',by omega,by simpa using h3,by simpa using h4,h5⟩
theorem sJ {kt:TypeId}{d:TypeDesc}{k k':TV}{u u':Value}{b:Bool}(hk:j5 k=some u)(hk':VR G k' u')(h:DY C.P kt d k k'=some b):
 (∀fs,d≠ .struct fs)/\Instr.sameNow d u u'=some b\/(∃fs,d=.struct fs)/\(∀w,(Op.equal kt u u').run C.P w=.ok b w)/\∃x,u=.agg x:=by
 unfold DY at h
 rw[hk] at h
 cases h2:j5 k'<;>simp only[h2,reduceCtorEq] at h
 have:=mh h2 hk'
 subst this
 split at h
 ·rename_i fs;split at h
  ·exact .inr ⟨⟨_,rfl⟩,λw=>nQ h w,_,rfl⟩
  ·simp at h
 ·rename_i hns;exact .inl ⟨λfs e=>hns fs e,h⟩
theorem Nx {kt:TypeId}{d:TypeDesc}{k:TV}{u:Value}(hk:j5 k=some u)(hd:∀fs,d≠ .struct fs):∀{es:List (TV×TV×Nat)} {bF:List MapEntry} {i:Nat} {r:Option (Nat×TV×Nat)},MR G es bF->l7 C.P kt d k es i=some r->
 ∃r',Instr.findNow d u bF i=some r'/\FR G es bF u i r r':=by
 intro es
 induction es with
 | nil=>
   intro bF i r hm h
   cases bF with
   |nil=>simp[l7] at h;subst h;exact⟨none,rfl,trivial⟩
   |cons=>simp[MR] at hm
 | cons p rs ih=>
   intro bF i r hm h
   obtain⟨k',v,b⟩:=p
   cases bF with
   |nil=>simp[MR] at hm
   | cons e es'=>
     simp only[MR] at hm
     obtain⟨h1,h2,h3,h4⟩:=hm
     simp only[l7] at h
     split at h
     · rename_i hq
       rcases sJ hk h1 hq with ⟨_,hs⟩|⟨⟨fs,e⟩,_⟩
       · rw[hk] at h
         cases h5:j5 k'<;>simp only[h5,reduceCtorEq] at h
         have:=mh h5 h1
         subst this
         split at h<;>simp at h
         rename_i hsb
         subst h
         refine⟨some (i,e.val),by simp[Instr.findNow,hs],rfl,0,e,k',rfl,rfl,rfl,rfl,h2,h3,hsb⟩
       · exact absurd e (hd fs)
     · rename_i hq
       rcases sJ hk h1 hq with ⟨_,hs⟩|⟨⟨fs,e⟩,_⟩
       · obtain⟨r',h6,h7⟩:=ih h4 h
         exact⟨r',by simp[Instr.findNow,hs,h6],h7.succ⟩
       · exact absurd e (hd fs)
     · simp at h
theorem Ny {kt:TypeId}{fs:Array Field}{k:TV}{u:Value}(hk:j5 k=some u)(w:World):∀{es:List (TV×TV×Nat)} {bF:List MapEntry} {i:Nat} {r:Option (Nat×TV×Nat)},MR G es bF->l7 C.P kt (.struct fs) k es i=some r->
 ∃r',(Instr.findAsking kt u bF i).run C.P w=.ok r' w/\FR G es bF u i r r':=by
 intro es
 induction es with
 | nil=>
   intro bF i r hm h
   cases bF with
   |nil=>simp[l7] at h;subst h;exact⟨none,rfl,trivial⟩
   |cons=>simp[MR] at hm
 | cons p rs ih=>
   intro bF i r hm h
   obtain⟨k',v,b⟩:=p
   cases bF with
   |nil=>simp[MR] at hm
   | cons e es'=>
     simp only[MR] at hm
     obtain⟨h1,h2,h3,h4⟩:=hm
     simp only[l7] at h
     split at h
     · rename_i hq
       rcases sJ hk h1 hq with ⟨hn,_⟩|⟨_,hs,_⟩
       · exact absurd rfl (hn fs)
       · rw[hk] at h
         cases h5:j5 k'<;>simp only[h5,reduceCtorEq] at h
         have:=mh h5 h1
         subst this
         split at h<;>simp at h
         rename_i hsb
         subst h
         refine⟨some (i,e.val),by simp[Instr.findAsking,hs],rfl,0,e,k',rfl,rfl,rfl,rfl,h2,h3,hsb⟩
     · rename_i hq
       rcases sJ hk h1 hq with ⟨hn,_⟩|⟨_,hs,_⟩
       · exact absurd rfl (hn fs)
       · obtain⟨r',h6,h7⟩:=ih h4 h
         exact⟨r',by simp[Instr.findAsking,hs,h6],h7.succ⟩
     · simp at h
theorem rC {kt:TypeId}{tk:TI}{k:TV}{u:Value}(ht:bh C.P kt=some tk)(hk:j5 k=some u){es:List (TV×TV×Nat)}{bF:List MapEntry}{r:Option (Nat×TV×Nat)}(hm:MR G es bF)(h:l7 C.P kt tk.desc k es 0=some r)(w:World):
 ∃r',(Instr.findKey kt u bF).run C.P w=.ok r' w/\FR G es bF u 0 r r':=by
 obtain⟨_,_,hu,_⟩:=bD ht
 have j3:=aH hu w
 by_cases hd:∃fs,tk.desc=.struct fs
 ·obtain⟨fs,hd⟩:=hd;rw[hd] at h j3;cases bF with
  | nil=>
    cases es with
    |nil=>simp[l7] at h;subst h;exact⟨none,by simp[Instr.findKey,j3,Instr.findNow],trivial⟩
    |cons=>simp[MR] at hm
  | cons e es'=>
    obtain⟨r',h1,h2⟩:=Ny hk w hm h
    refine⟨r', ?_,h2⟩
    have hnone:Instr.findNow (.struct fs) u (e::es') 0=none:=by
      simp[Instr.findNow,Instr.sameNow]
    simp[Instr.findKey,j3,hnone,h1]
 ·have hd':∀fs,tk.desc≠ .struct fs:=λfs e=>hd ⟨fs,e⟩
  obtain⟨r',h1,h2⟩:=Nx hk hd' hm h;exact⟨r',by simp[Instr.findKey,j3,h1],h2⟩
theorem zC {empty:Bool}{kt:TypeId}{k:TV}(h:uk C.P empty kt k=true)(w:World):∃u,j5 k=some u/\(Instr.checkKey empty 10000 kt u).run C.P w=.ok () w:=by
 unfold uk at h;split at h
 ·rename_i u hu;obtain⟨x,hx⟩:=Option.isSome_iff_exists.1 h;exact⟨u,hu,nQ hx w⟩
 ·simp at h
theorem MR.length {es:List (TV×TV×Nat)}{bF:List MapEntry}(h:MR G es bF):es.length=bF.length:=by
 induction es generalizing bF with
 |nil=>cases bF<;>simp_all [MR]
 |cons p r ih=>cases bF<;>simp[MR] at h ⊢;exact ih h.2.2.2
theorem ki {r:Nat}{bF:Array MapEntry}{c:Nat}(h:w.heap[r]?=some (.map bF c)):(getObj r).run C.P w=.ok (.map bF c) w:=by
 simp[getObj,Sem.run,h]
theorem p7 {r:Nat}{bF:Array MapEntry}{c:Nat}(h:w.heap[r]?=some (.map bF c))(o:Obj):(setObj r o).run C.P w=.ok () {w with heap:=w.heap.setIfInBounds r o}:=by
 simp[setObj,Sem.run,h]
theorem HV {t:TypeId}{x k:TV}{xv kv:Value}{ok:Bool}(hH:HR G w H)(hx:VR G x xv)(hk:VR G k kv)(h:sB C.P H t x k ok=some v):∃r,(Instr.lookup t xv kv ok).run C.P w=.ok r w/\VR G v r:=by
 unfold sB at h;cases ht:bh C.P t<;>simp only[ht,reduceCtorEq] at h;rename_i ti;obtain⟨_,_,hu,_⟩:=bD ht;split at h
 ·rename_i kt et hd;rw[hd] at hu;have j3:=aH hu w;split at h
  ·rename_i tk te es c Ma hte wD;split at h
   ·rename_i YR;have Qf:∀bF:Array MapEntry,MR G es bF.toList->es.isEmpty=bF.isEmpty:=by
     intro bF hmr;have hl:=hmr.length;simp only[Array.length_toList] at hl;rw[Array.isEmpty,← hl];cases es<;>simp
    obtain⟨u,U1,XN⟩:=zC YR w;have:=mh U1 hk;subst this;have core:∀bF:Array MapEntry,MR G es bF.toList->∃r,VR G v r/\(Instr.checkKey bF.isEmpty 10000 kt kv).run C.P w=.ok () w/\
     ((∃j e,(Instr.findKey kt kv bF.toList).run C.P w=.ok (some (j,e)) w/\r=if ok then .tuple #[e,.bool true] else e)\/
      (∃z,(Instr.findKey kt kv bF.toList).run C.P w=.ok none w/\(zeroValue et).run C.P w=.ok z w/\r=if ok then .tuple #[z,.bool false] else z)):=by
     intro bF hmr
     split at h
     ·rename_i j v' b hf;obtain⟨r',Ed,hr2⟩:=rC Ma U1 hmr hf w;cases r' with
      |none=>exact absurd hr2 id
      |some y=>
      obtain⟨j',y⟩:=y;obtain⟨rfl,m,e,k',_,_,_,rfl,hve,_,_⟩:=hr2;simp at h;subst h;refine⟨if ok then .tuple #[e.val,.bool true] else e.val, ?_,by rw[← Qf bF hmr];exact XN,.inl ⟨j,e.val,Ed,rfl⟩⟩;cases ok
      ·exact hve
      ·exact mg (cr.cons hve (cr.one (.t _ _ (.bool true))))
     ·rename_i z hf hz;obtain⟨r',Ed,hr2⟩:=rC Ma U1 hmr hf w;cases r' with
      |some y=>exact absurd hr2 id
      |none=>
      obtain⟨zv,hz1,HF⟩:=fu hte hz w G;simp at h;subst h;refine⟨if ok then .tuple #[zv,.bool false] else zv, ?_,by rw[← Qf bF hmr];exact XN,.inr ⟨zv,Ed,hz1,rfl⟩⟩;cases ok
      ·exact HF
      ·exact mg (cr.cons HF (cr.one (.t _ _ (.bool false))))
     ·simp at h
    split at wD
    ·simp at wD;obtain⟨rfl,_⟩:=wD;cases hx with|t _ _ hx=>
     cases hx;obtain⟨r,hr,Nz,Qg⟩:=core #[] trivial;refine⟨r, ?_,hr⟩;simp at Nz;rcases Qg with ⟨j,e,hf,rfl⟩|⟨z,hf,hz,rfl⟩
     ·simp at hf;cases ok<;>simp[Instr.lookup,j3,Nz,hf]
     ·simp at hf;cases ok<;>simp[Instr.lookup,j3,Nz,hf,hz]
    ·unfold mapOf at wD;split at wD
     ·rename_i m hnn;split at wD<;>simp at wD;rename_i es' c' hm;obtain⟨rfl,_⟩:=wD;obtain⟨hd',har,bF,hh,hmr,_⟩:=hH _ _ hm;cases hx with|map _ _ _=>
      obtain⟨r,hr,Nz,Qg⟩:=core bF hmr;refine⟨r, ?_,hr⟩;rcases Qg with ⟨j,e,hf,rfl⟩|⟨z,hf,hz,rfl⟩
      ·cases ok<;>simp[Instr.lookup,j3,ki hh,Nz,hf]
      ·cases ok<;>simp[Instr.lookup,j3,ki hh,Nz,hf,hz]
     ·simp at wD
   ·simp at h
  ·simp at h
 ·simp at h
theorem x9 (hw:WF G w){k:Nm}(hd:G.dom k)(ak:G.alive k){bF:Array MapEntry}{c:Nat}(hh:w.heap[G.mu k]?=some (.map bF c))(hF:∀o,G.F (G.mu k) o=none)(o:Obj):
 Step (λx=>x=k) (λ_=>False) G w G {w with heap:=w.heap.setIfInBounds (G.mu k) o}:=by
 refine⟨.refl G,⟨λb p u h=> ?_,hw.inj,λx d=>by simpa using hw.lt x d⟩,λ_ _ _=>⟨rfl,rfl⟩,λb hb hn=>⟨?_,λ_=>rfl⟩,λ_ d=>.inl d,λk d=>.inl ⟨k,d,rfl,.inl rfl⟩,by simp,rfl,rfl,rfl⟩
 ·obtain⟨us,ty,fr,h1,h2⟩:=hw.F b p u h;have hne:G.mu k≠b:=by intro e;subst e;rw[hF] at h;simp at h
  exact⟨us,ty,fr,by show(w.heap.setIfInBounds _ _)[b]?=_;rw[Array.getElem?_setIfInBounds,if_neg hne];exact h1,h2⟩
 ·show(w.heap.setIfInBounds _ _)[b]?=_;rw[Array.getElem?_setIfInBounds,if_neg (hn k rfl hd ak)]
theorem MR.push:∀{es:List (TV×TV×Nat)} {bF:List MapEntry} {k x:TV} {kv xv:Value} {c:Nat},MR G es bF->VR G k kv->VR G x xv->MR G (es++[(k,x,c)]) (bF++[{key:=kv,val:=xv,born:=c}]):=by
 intro es;induction es with
 |nil=>intro bF k x kv xv c h h1 h2;cases bF<;>simp_all [MR]
 |cons p r ih=>
  intro bF k x kv xv c h h1 h2
  obtain⟨k',v',b'⟩:=p
  cases bF with
  |nil=>simp[MR] at h
  |cons e es'=>simp only[MR,List.cons_append] at h ⊢;exact⟨h.1,h.2.1,h.2.2.1,ih h.2.2.2 h1 h2⟩
theorem MR.set:∀{es:List (TV×TV×Nat)} {bF:List MapEntry} {m:Nat} {k x k' v':TV} {b:Nat} {e:MapEntry} {kv xv:Value},MR G es bF->es[m]?=some (k',v',b)->bF[m]?=some e->VR G k kv->VR G x xv->
 MR G (es.set m (k,x,b)) (bF.set m {e with key:=kv,val:=xv}):=by
 intro es
 induction es with
 |nil=>intro bF m k x k' v' b e kv xv h h1;simp at h1
 | cons p r ih=>
  intro bF m k x k' v' b e kv xv h h1 h2 h3 h4
  obtain⟨k0,v0,b0⟩:=p
  cases bF with
  |nil=>simp[MR] at h
  | cons e0 es'=>
   simp only[MR] at h
   cases m with
   |zero=>
    simp at h1 h2
    obtain⟨rfl,rfl,rfl⟩:=h1
    subst h2
    simp only[List.set_cons_zero,MR]
    exact⟨h3,h4,h.2.2.1,h.2.2.2⟩
   |succ m=>
    simp only[List.set_cons_succ,MR]
    exact⟨h.1,h.2.1,h.2.2.1,ih h.2.2.2 (by simpa using h1) (by simpa using h2) h3 h4⟩
theorem wX {bF:Array MapEntry}{m:Nat}{e:MapEntry}(f:MapEntry->MapEntry)(h:bF[m]?=some e):(bF.modify m f).toList=bF.toList.set m (f e):=by
 apply List.ext_getElem?;intro i;rw[Array.getElem?_toList,Array.getElem?_modify,List.getElem?_set];have hm:m<bF.size:=(Array.getElem?_eq_some_iff.1 h).1;by_cases c:m=i
 ·subst c;rw[if_pos rfl,if_pos rfl,h];simp[hm]
 ·rw[if_neg c,if_neg c];simp
theorem Fx {k:Nm}(hw:WF G w)(hd:G.dom k)(har:G.arr k=none)(hF:∀o,G.F (G.mu k) o=none){es:List (TV×TV×Nat)}{bF:Array MapEntry}{c:Nat}(h:MR G es bF.toList):
 OR G {w with heap:=w.heap.setIfInBounds (G.mu k) (.map bF c)} k (.map es c):=by
 refine⟨har,bF, ?_,h,hF⟩
 have:=hw.lt k hd
 simp[this]
def Vl (k x:TV)(es:List (TV×TV×Nat))(c:Nat):Option (Nat×TV×Nat)->List (TV×TV×Nat)
 |some (i,_,b)=>es.set i (k,x,b)
 |none=>es++[(k,x,c)]
def YS (c:Nat):Option (Nat×TV×Nat)->Nat
 |some _=>c
 |none=>c+1
theorem DC {t kt et:TypeId}{ti tk:TI}{k x:TV}{m:Nm}{kv xv:Value}{es:List (TV×TV×Nat)}{c:Nat}{r:Option (Nat×TV×Nat)}(hw:WF G w)(hH:HR G w H)(ht:bh C.P t=some ti)(hd:ti.desc=.map kt et)(hm:H.get m=some (.map es c))
 (Ma:bh C.P kt=some tk)(YR:uk C.P false kt k=true)(hk:VR G k kv)(hx:VR G x xv)(hf:l7 C.P kt tk.desc k es 0=some r):
 ∃ HW:Array MapEntry,∃c',(Instr.mapUpdate t (.map (some (G.mu m))) kv xv).run C.P w=.ok () {w with heap:=w.heap.setIfInBounds (G.mu m) (.map HW c')}/\
  MR G (Vl k x es c r) HW.toList/\c'=YS c r:=by
 obtain⟨_,_,hu,_⟩:=bD ht
 rw[hd] at hu
 have j3:=aH hu w
 obtain⟨qv,har,bF,hh,hmr,hF⟩:=hH m _ hm
 obtain⟨u,U1,XN⟩:=zC YR w
 have:=mh U1 hk
 subst this
 obtain⟨r',Ed,hr2⟩:=rC Ma U1 hmr hf w
 cases r with
 | none=>
   cases r' with
   |some _=>exact absurd hr2 id
   |none=>
   refine⟨bF.push {key:=kv,val:=xv,born:=c},c+1, ?_,by simpa [Vl] using hmr.push hk hx,rfl⟩
   simp[Instr.mapUpdate,j3,ki hh,XN,Ed,p7 hh]
 | some y=>
   obtain⟨i,v0,b⟩:=y
   cases r' with
   |none=>exact absurd hr2 id
   |some y'=>
   obtain⟨i',x0⟩:=y'
   obtain⟨rfl,p,e,k',hip,he,wD,rfl,_,hb,hsb⟩:=hr2
   have YT:i=p:=by omega
   subst YT
   have he':bF[i]?=some e:=by simpa using he
   refine⟨bF.modify i λe=>{e with key:=kv,val:=xv},c, ?_, ?_,rfl⟩
   · have hkey:(((bF[i]?).map (·.key)).getD kv)=e.key:=by rw[he'];rfl
     have Qh:(Instr.keyThatStays e.key kv).run C.P w=.ok kv w:=by simp[Instr.keyThatStays,hsb]
     simp only[Instr.mapUpdate,Sem.run_bind,j3,Result.andThen_ok,ki hh,XN,Ed]
     rw[hkey,Qh]
     simp[p7 hh]
   · rw[wX _ he']
     exact hmr.set wD he hk hx
end
end Go.Abs
