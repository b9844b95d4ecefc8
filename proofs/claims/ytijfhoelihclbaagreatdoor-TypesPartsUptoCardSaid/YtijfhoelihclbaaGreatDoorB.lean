/- The operations are right: new objects, stores, literals. -/
import Derived.Test.YtijfhoelihclbaaGreatDoorA
import Derived.Lib.Strings
namespace Go.Abs
open Go
section
variable {C:dh}{f:FuncId}{nm:Nm}{H:Heap}{slots:List TV}{a:Act}{w:World}{G:Gh}{v:TV}
def Gh.add (G:Gh)(nm:Nm)(b:Nat)(ar:Option (Nat×Nat×Nat)):Gh:={
 F:=G.F
 mu:=fun k=>if k=nm then b else G.mu k
 arr:=fun k=>if k=nm then ar else G.arr k
 dom:=fun k=>k=nm∨G.dom k}
def World.dO (w:World)(o:Obj):World:={w with heap:=w.heap.push o}
theorem mh (w:World)(o:Obj):(World.dO w o).heap[w.heap.size]?=some o:=by show(w.heap.push o)[w.heap.size]?=_;simp
theorem mo {w:World}{o:Obj}{b:Nat}(h:b<w.heap.size):(World.dO w o).heap[b]?=w.heap[b]?:=by
 show(w.heap.push o)[b]?=_
 rw[Array.getElem?_push,if_neg (by omega)]
theorem WF.adr (hw:WF G w){b o:Nat}{u:Value}(h:G.F b o=some u):b<w.heap.size:=by
 obtain⟨vs,ty,fr,h1,_⟩:=hw.F b o u h
 exact(Array.getElem?_eq_some_iff.1 h1).1
theorem WF.Nh (hw:WF G w)(o:Nat):G.F w.heap.size o=none:=by
 cases h:G.F w.heap.size o with
 |none=>rfl
 |some u=>have:=hw.adr h;omega
theorem KW (hn:¬G.dom nm)(b:Nat)(ar:Option (Nat×Nat×Nat)):G.le (G.add nm b ar):=by
 have hne:∀k,G.dom k→k≠nm:=fun k d e=>hn (e▸d)
 refine⟨fun _ _ _ h=>h,fun k d=>.inr d,fun k d a=> ?_,fun k n e c d a=>⟨n,c, ?_,Nat.le_refl _,fun _=>⟨rfl, ?_⟩⟩⟩
 · simp[Gh.add,hne k d,a]
 · simp[Gh.add,hne k d,a]
 · simp[Gh.add,hne k d]
theorem lq (hw:WF G w)(hn:¬G.dom nm)(o:Obj)(ar:Option (Nat×Nat×Nat))(W:Nm→Prop):Step W (fun k=>k=nm) G w (G.add nm w.heap.size ar) (World.dO w o):=by
  have hne:∀k,G.dom k→k≠nm:=fun k d e=>hn (e▸d)
  refine⟨KW hn _ _,⟨fun b p u h=> ?_,fun k k' d d' e=> ?_,fun k d=> ?_⟩,fun k d _=>by simp[Gh.add,hne k d],fun b hb _=>⟨mo hb,fun _=>rfl⟩,fun k d=>d.symm.imp id id,fun k d=> ?_,by simp[World.dO],rfl,rfl,rfl⟩
  · obtain⟨vs,ty,fr,h1,h2⟩:=hw.F b p u h
    exact⟨vs,ty,fr,by rw[mo (Array.getElem?_eq_some_iff.1 h1).1];exact h1,h2⟩
  · simp only[Gh.add] at e d d'
    rcases d with rfl|d<;>rcases d' with rfl|d'
    · rfl
    · rw[if_pos rfl,if_neg (hne _ d')] at e
      have:=hw.lt _ d';omega
    · rw[if_neg (hne _ d),if_pos rfl] at e
      have:=hw.lt _ d;omega
    · rw[if_neg (hne _ d),if_neg (hne _ d')] at e
      exact hw.inj _ _ d d' e
  · simp only[Gh.add,World.dO,Array.size_push] at d ⊢
    rcases d with rfl|d
    · simp
    · rw[if_neg (hne _ d)];have:=hw.lt _ d;omega
  · rcases d with rfl|d
    · exact .inr (by simp[Gh.add])
    · exact .inl ⟨d,by simp[Gh.add,hne _ d]⟩
theorem zR (hw:WF G w)(hn:¬G.dom nm){cs:List TV}{vs:List Value}(hv:cK G cs vs)(ty:TypeId):
  (G.add nm w.heap.size none).dom nm∧OR (G.add nm w.heap.size none) (World.dO w (.cells vs.toArray ty)) nm (.cells ty cs):=by
 refine⟨.inl rfl,by simp[Gh.add],vs.toArray,ty,(0,0), ?_,⟨?_,rfl⟩, ?_, ?_⟩
 · simp[Gh.add,mh]
 · intro o _ h;omega
 · simpa using hv.mono (KW hn _ _)
 · intro o;simpa [Gh.add] using hw.Nh o
theorem ID (hw:WF G w)(hn:¬G.dom nm){b:Bool}{bR cap:Nat}{cs:List TV}{vs:List Value}(he:0<bR)(hv:cK G cs (vs.take cs.length))(hs:vs.length=cap*bR)(hl:cs.length≤vs.length)(ty:TypeId)(fr:Nat×Nat)(hfr:qz vs.toArray fr):
  (G.add nm w.heap.size (some (cs.length,bR,cap))).dom nm∧OR (G.add nm w.heap.size (some (cs.length,bR,cap))) (World.dO w (.cells vs.toArray ty fr)) nm (.arr (ty,b) bR false cs):=by
 refine⟨.inl rfl,he,cap,vs.toArray,ty,fr,by simp[Gh.add], ?_,⟨hfr,rfl⟩,by simpa using hs,by simpa using hl, ?_, ?_⟩
 · simp[Gh.add,mh]
 · simpa using hv.mono (KW hn _ _)
 · intro o _;simpa [Gh.add] using hw.Nh o
theorem BG (hw:WF G w)(hn:¬G.dom nm){b:Bool}{bR cap:Nat}{cs:List TV}{vs:List Value}(he:0<bR)(hv:cK G cs (vs.take cs.length))(hs:vs.length=cap*bR)(hl:cs.length≤vs.length)(ty:TypeId):
  (G.add nm w.heap.size (some (cs.length,bR,cap))).dom nm∧OR (G.add nm w.heap.size (some (cs.length,bR,cap))) (World.dO w (.cells vs.toArray ty)) nm (.arr (ty,b) bR false cs):=
 ID hw hn he hv hs hl ty (0,0) (fun o _ h=>by omega)
theorem xD {bR cap n len:Nat}(h:len*bR=n)(hn:¬G.dom nm):VR (G.add nm w.heap.size (some (n,bR,cap))) (.ref nm 0 len) (.slice (some ⟨w.heap.size,0,none⟩) len cap):=by
 refine .ref nm 0 len n bR cap _ (.inl rfl) (by simp[Gh.add]) (by simp[h]) ⟨_,_,rfl⟩ fun _=>⟨_,by simp;rfl,fun _=>by simp[Gh.add]⟩
theorem Rp {o:Oper}{elem:TypeId}{ti:TI}{z:TV}(hw:WF G w)(hn:¬G.dom nm)(ho:o.op=.alloc elem)(ht:bf C.P elem=some ti)(hz:ti.zero=some z):
    cW C.P nm o a w G (.ptr nm 0) [(nm,.cells elem z.cells)]:=by
  obtain⟨x,h1,h2⟩:=fI ht hz w G
  have hc:=h2.cells (rY ht hz)
  have ha:=zR hw hn hc elem
  refine cW.fM (w':=World.dO w (.cells x.cells.toList.toArray elem)) (G':=G.add nm w.heap.size none) (x:=.pointer (some ⟨w.heap.size,0,none⟩)) ?_ (lq hw hn _ _ _) ?_ ?_
  · simp[execOp,ho,Instr.alloc,h1,newVar,iX,World.dO]
  · intro k ob hm
    simp at hm
    obtain⟨rfl,rfl⟩:=hm
    exact ha
  · have:=VR.ptr (G:=G.add nm w.heap.size none) nm 0 (.inl rfl) (by simp[Gh.add])
    simpa [Gh.add] using this
theorem Z1 {o:Oper}{elem:TypeId}{x:Operand}{z:TV}(hw:WF G w)(hn:¬G.dom nm)(ho:o.op=.box elem x)(hz:VR G z (a.eval x))(hlf:z.cells.all TV.leaf=true):
    cW C.P nm o a w G (.ptr nm 0) [(nm,.cells elem z.cells)]:=by
  have hc:=hz.cells (BD hlf)
  have ha:=zR hw hn hc elem
  refine cW.fM (w':=World.dO w (.cells (a.eval x).cells.toList.toArray elem)) (G':=G.add nm w.heap.size none) (x:=.pointer (some ⟨w.heap.size,0,none⟩)) ?_ (lq hw hn _ _ _) ?_ ?_
  · simp[execOp,ho,Instr.box,newVar,iX,World.dO]
  · intro k ob hm
    simp at hm
    obtain⟨rfl,rfl⟩:=hm
    exact ha
  · have:=VR.ptr (G:=G.add nm w.heap.size none) nm 0 (.inl rfl) (by simp[Gh.add])
    simpa [Gh.add] using this
theorem cK.dM {cs xs:List TV}{vs ys:List Value}{off:Nat}(h:cK G cs vs)(hx:cK G xs ys):cK G (dM cs off xs) (over vs off ys):=by
 unfold Go.Abs.dM over
 rw[hx.1]
 exact((h.take off).append hx).append (h.drop _)
theorem EX {vs ys:List Value}{off n:Nat}(h:off+ys.length≤n)(hn:n≤vs.length):(over vs off ys).take n=over (vs.take n) off ys:=by
  unfold over
  apply List.ext_getElem?
  intro i
  simp only[List.getElem?_take,List.getElem?_append,List.length_append,List.length_take,List.getElem?_drop]
  by_cases c1:i<n
  · rw[if_pos c1]
    have e1:min off vs.length=off:=by omega
    have e2:min off (min n vs.length)=off:=by omega
    rw[e1,e2]
    by_cases c2:i<off
    · simp[c2,show i<off+ys.length by omega,c1]
    · by_cases c3:i<off+ys.length
      · simp[c2,c3]
      · simp[c3];intro hc;omega
  · rw[if_neg c1]
    have e2:min off (min n vs.length)=off:=by omega
    rw[e2,if_neg (by omega),if_neg (by omega)]
theorem nB {cs xs:List TV}{off:Nat}(h:off+xs.length≤cs.length):(dM cs off xs).length=cs.length:=by
 unfold dM;simp;omega
theorem qb {vs ys:List Value}{off:Nat}(h:off+ys.length≤vs.length):(over vs off ys).length=vs.length:=by
 unfold over;simp;omega
theorem Ca {xs:List TV}{ys:List Value}(h:cK G xs ys)(hl:xs.all TV.leaf=true):∀y∈ys,one y=true:=by
 intro y hy
 obtain⟨j,hj⟩:=List.mem_iff_getElem?.1 hy
 have hjl:j<xs.length:=by have:=(List.getElem?_eq_some_iff.1 hj).1;have:=h.1;omega
 have hx:=List.getElem?_eq_getElem hjl
 exact(h.2 j _ _ hx hj).leaf (List.all_eq_true.1 hl _ (List.getElem_mem hjl))
theorem mq (hw:WF G w){k:Nm}(hd:G.dom k){vs:List Value}{us:Array Value}{ty:TypeId}{fr:Nat×Nat}(hh:w.heap[G.mu k]?=some (.cells us ty fr))
    (hF:∀o,(∃u,G.F (G.mu k) o=some u)→vs[o]?=us[o]?):Step (fun x=>x=k) (fun _=>False) G w G (World.cF w (G.mu k) vs.toArray ty fr):=by
  refine⟨.refl G,⟨fun b o u h=> ?_,hw.inj,fun k d=>by rw[lp];exact hw.lt k d⟩,fun _ _ _=>⟨rfl,rfl⟩,fun b hb hn=>⟨ku (hn k rfl hd) _ _ _,fun _=>rfl⟩,fun _ d=>.inl d,fun _ d=>.inl ⟨d,rfl⟩,by rw[lp];exact Nat.le_refl _,rfl,rfl,rfl⟩
  obtain⟨us',ty',fr',h1,h2⟩:=hw.F b o u h
  by_cases e:G.mu k=b
  · subst e
    refine⟨vs.toArray,ty,fr,fL (hw.lt k hd) _ _ _, ?_⟩
    rw[hh] at h1
    simp at h1
    obtain⟨rfl,_,_⟩:=h1
    have:=hF o ⟨u,h⟩
    rw[h2] at this
    simpa using this
  · exact⟨us',ty',fr',by rw[ku e];exact h1,h2⟩
theorem xE {t:TypeId}{ti:TI}{x:Value}{p:TV}{b o:Nat}{vs:List Value}{ty:TypeId}{fr:Nat×Nat}(ht:bf C.P t=some ti)(hx:VR G p x)(hl:p.cells.length=ti.size)(hlf:p.cells.all TV.leaf=true)
  (hh:w.heap[b]?=some (.cells vs.toArray ty fr))(qQ:qz vs.toArray fr)(hle:o+ti.size≤vs.length):
  (storeVar t ⟨b,o,none⟩ x).run C.P w=.ok () (World.cF w b (over vs o x.cells.toList).toArray ty fr):=by
 have hc:=hx.cells (BD hlf)
 have hsz:x.cells.size=ti.size:=by have:=hc.1;simp at this;omega
 unfold storeVar
 rw[fK (dX ht w)]
 have:=oL (P:=C.P) (o:=o) x.cells.toList w 0 vs (Ca hc hlf) hh qQ (by simp[hsz];omega)
 simp only[Nat.add_zero] at this
 simp[hsz,this]
theorem Pa {o:Oper}{t:TypeId}{pa px:Operand}{p q:TV}{u:List (Nm×aQ)}(hw:WF G w)(hH:HR G w H)(ho:o.op=.store t pa px)(hp:VR G p (a.eval pa))(hq:VR G q (a.eval px))(h:storeT C.P H t p q=some u):
    cW C.P nm o a w G b8 u:=by
  unfold storeT at h
  cases ht:bf C.P t<;>simp only[ht,reduceCtorEq] at h
  rename_i ti
  split at h
  · rename_i hc
    obtain⟨hl,hlf⟩:=hc
    have hqc:=hq.cells (BD hlf)
    have hql:(a.eval px).cells.toList.length=ti.size:=by rw[hqc.1,hl]
    split at h
    · rename_i k off
      split at h
      · rename_i ei cs hk
        split at h<;>simp at h
        rename_i hle
        subst h
        obtain⟨hd,har,vs,ty,fr,hh,qQ,hv,hF⟩:=hH k _ hk
        generalize hpv:a.eval pa=pv at hp
        cases hp with|ptr _ _ _ _=>
        have hvl:vs.toList.length=cs.length:=hv.1
        have hrun:=xE (o:=off) ht hq hl hlf (by simpa using hh) (by simpa using qQ.1) (by omega)
        have hst:=mq (vs:=over vs.toList off (a.eval px).cells.toList) hw hd hh (fun o ⟨u,hu⟩=>by rw[hF] at hu;simp at hu)
        refine cW.BF (w':=World.cF w (G.mu k) (over vs.toList off (a.eval px).cells.toList).toArray ty fr) (G':=G) ?_ (hst.mono (fun x _ e=>by simp[e]) (fun _ e=>e.elim)) ?_
        · simp[execOp,ho,Instr.storeAt,hpv,Instr.sureAddr,hrun]
        · intro k' ob hm
          simp at hm
          obtain⟨rfl,rfl⟩:=hm
          refine⟨hd,har,_,ty,fr,fL (hw.lt _ hd) _ _ _,⟨?_,qQ.2⟩,by simpa using hv.dM hqc,hF⟩
          intro o ho'
          have:(over vs.toList off (a.eval px).cells.toList).length=vs.toList.length:=qb (by omega)
          exact qQ.1 o (by simp[this] at ho';simpa using ho')
      · simp at h
    · rename_i k n off
      split at h
      · rename_i g bR cs hk
        split at h<;>simp at h
        rename_i bE
        obtain⟨hn,hle⟩:=bE
        subst h
        obtain⟨hd,he,cap,vs,ty,fr,har,hh,qQ,hs,hlc,hv,hF⟩:=hH k _ hk
        generalize hpv:a.eval pa=pv at hp
        cases hp with|jY _ _ _ n' Rl cap' _ hd' ha' hle' ho' hv'=>
        rw[har] at ha'
        simp at ha'
        obtain⟨e1,e2,e3⟩:=ha'
        have hx:=hv' (by omega)
        subst hx
        have hrun:=xE (o:=off) ht hq hl hlf (by simpa using hh) (by simpa using qQ.1) (by simp;omega)
        have hst:=mq (vs:=over vs.toList off (a.eval px).cells.toList) hw hd hh (fun o ⟨u,hu⟩=>by rw[hF o (.inl rfl)] at hu;simp at hu)
        have hlen:(over vs.toList off (a.eval px).cells.toList).length=vs.toList.length:=qb (by rw[hql];simp;omega)
        refine cW.BF (w':=World.cF w (G.mu k) (over vs.toList off (a.eval px).cells.toList).toArray ty fr) (G':=G) ?_ (hst.mono (fun x _ e=>by simp[e]) (fun _ e=>e.elim)) ?_
        · simp[execOp,ho,Instr.storeAt,hpv,Instr.sureAddr,hrun]
        · intro k' ob hm
          simp at hm
          obtain⟨rfl,rfl⟩:=hm
          have Rq:(dM cs off q.cells).length=cs.length:=nB (by omega)
          refine⟨hd,he,cap,_,ty,fr,by rw[Rq];exact har,fL (hw.lt _ hd) _ _ _,⟨?_,qQ.2⟩,by simpa [hlen] using hs,by simp[hlen,Rq];omega, ?_,fun o _=>hF o (.inl rfl)⟩
          · intro o ho'
            exact qQ.1 o (by simp[hlen] at ho';simpa using ho')
          · rw[Rq]
            simp only[List.toList_toArray]
            rw[EX (by omega) (by simp;omega)]
            exact hv.dM hqc
      · simp at h
    · simp at h
  · simp at h
end
end Go.Abs

namespace Go.Abs
open Go
theorem Cb (off:Nat):∀(ys:List Value) (j0:Nat) (vs:List Value),off+j0+ys.length≤vs.length→
  (ys.zipIdx j0).foldl (fun(cs:Array Value) (p:Value×Nat)=>cs.setIfInBounds (off+p.2) p.1) vs.toArray=(over vs (off+j0) ys).toArray:=by
 intro ys
 induction ys with
 |nil=>intro j0 vs _;simp[xB]
 |cons y r ih=>
  intro j0 vs h
  simp only[List.zipIdx_cons,List.foldl_cons]
  have:vs.toArray.setIfInBounds (off+j0) y=(vs.set (off+j0) y).toArray:=by simp
  rw[this,ih (j0+1) _ (by simp at h ⊢;omega),← Nat.add_assoc,ER (by simpa [Nat.add_assoc] using h)]
theorem Cc (ys:Array Value)(off:Nat)(vs:List Value)(h:off+ys.size≤vs.length):
  ys.zipIdx.foldl (fun(cs:Array Value) (p:Value×Nat)=>cs.setIfInBounds (off+p.2) p.1) vs.toArray=(over vs off ys.toList).toArray:=by
 have:=Cb off ys.toList 0 vs (by simpa using h)
 rw[← Array.foldl_toList,Array.toList_zipIdx]
 simpa using this
section
variable {C:dh}{f:FuncId}{nm:Nm}{H:Heap}{slots:List TV}{a:Act}{w:World}{G:Gh}{v:TV}
inductive PR (G:Gh):List (Nat×TV)→List (Nat×Value)→Prop
 |nil:PR G [] []
 |cons {i x y ps qs} (h:VR G x y) (hs:PR G ps qs):PR G ((i,x)::ps) ((i,y)::qs)
theorem IE (hs:SR G slots a)(hg:jq C G){l:List (Nat×Operand)}{ps:List (Nat×TV)}(h:kA C slots l=some ps):PR G ps (l.map fun(p:Nat×Operand)=>(p.1,a.eval p.2)):=by
 induction l generalizing ps with
 |nil=>simp[kA] at h;subst h;exact .nil
 |cons p r ih=>
  obtain⟨i,x⟩:=p
  simp only[kA] at h
  cases h1:cU C slots x<;>cases h2:kA C slots r<;>simp[h1,h2] at h
  subst h
  exact .cons (bK hs hg h1) (ih h2)
theorem Ce {place:Nat→Option (Nat×Nat)}{ps:List (Nat×TV)}{qs:List (Nat×Value)}(hp:PR G ps qs):∀{cs ds:List TV} {vs:List Value},cK G cs vs→nL place cs ps=some ds→
    ∃us:List Value,Instr.fill place vs.toArray qs=some us.toArray∧cK G ds us:=by
  induction hp with
  |nil=>intro cs ds vs hv h;simp[nL] at h;subst h;exact⟨vs,by simp[Instr.fill],hv⟩
  | cons hxy h2 ih=>
    rename_i i x y ps' qs'
    intro cs ds vs hv h
    simp only[nL] at h
    cases hpl:place i with
    |none=>rw[hpl] at h;simp at h
    | some os=>
      obtain⟨off,size⟩:=os
      rw[hpl] at h
      simp only at h
      split at h
      · rename_i hc
        obtain⟨c1,c2,c3⟩:=hc
        have hxc:=hxy.cells (BD c3)
        have hsz:y.cells.size=size:=by have:=hxc.1;simp at this;omega
        have hvl:=hv.1
        obtain⟨us,h3,h4⟩:=ih (hv.dM hxc (off:=off)) h
        refine⟨us, ?_,h4⟩
        simp only[Instr.fill,hpl]
        rw[if_neg (by simp[hsz];omega)]
        rw[Cc _ _ _ (by omega)]
        exact h3
      · simp at h
theorem Bj {w:World}:∀{l:List Field} {ps:List (Nat×Nat)},iL C.P l=some ps→(l.mapM fun f=>Prod.mk f.offset<$>sizeOf f.type:Sem (List (Nat×Nat))).run C.P w=.ok ps w:=by
 intro l
 induction l with
 |nil=>intro ps h;simp[iL] at h;subst h;simp
 |cons f r ih=>
  intro ps h
  simp only[iL] at h
  cases h1:bf C.P f.type<;>cases h2:iL C.P r<;>simp[h1,h2] at h
  subst h
  simp only[List.mapM_cons]
  simp[dX h1 w,ih h2]
theorem KX {t:TypeId}{ps:List (Nat×TV)}{qs:Array (Nat×Value)}(hp:PR G ps qs.toList)(h:F3 C.P t ps=some v)(w:World):∃r,(Instr.build t qs).run C.P w=.ok r w∧VR G v r:=by
  unfold F3 at h
  cases ht:bf C.P t<;>simp only[ht,reduceCtorEq] at h
  rename_i ti
  obtain⟨_,_,hu,_⟩:=bC ht
  have lT:=aK hu w
  split at h
  · rename_i z fs hz hd
    cases hf:iL C.P fs.toList<;>simp only[hf,reduceCtorEq] at h
    rename_i pl
    cases hfl:nL (fun i=>pl[i]?) z.cells ps<;>simp only[hfl,reduceCtorEq] at h
    rename_i cs
    simp at h
    subst h
    obtain⟨zv,h1,h2⟩:=fI ht hz w G
    obtain⟨us,h3,h4⟩:=Ce hp (h2.cells (rY ht hz)) hfl
    refine⟨.agg us.toArray, ?_,tO h4⟩
    have hfun:(fun i:Nat=>(pl.toArray)[i]?)=fun i=>pl[i]?:=by funext i;simp
    have hm:=Bj (C:=C) (w:=w) hf
    simp[Instr.build,h1,lT,hd,Array.mapM_eq_mapM_toList,hm,hfun]
    simp only[Array.toArray_toList] at h3
    rw[h3]
    rfl
  · rename_i z n elem hz hd
    cases hte:bf C.P elem<;>simp only[hte,reduceCtorEq] at h
    rename_i te
    cases hfl:nL (fun i=>some (i*te.size,te.size)) z.cells ps<;>simp only[hfl,reduceCtorEq] at h
    rename_i cs
    simp at h
    subst h
    obtain⟨zv,h1,h2⟩:=fI ht hz w G
    obtain⟨us,h3,h4⟩:=Ce hp (h2.cells (rY ht hz)) hfl
    refine⟨.agg us.toArray, ?_,tO h4⟩
    simp[Instr.build,h1,lT,hd,dX hte w]
    simp only[Array.toArray_toList] at h3
    rw[h3]
    rfl
  · simp at h
theorem gA (n:Nat)(z:List TV):(qM n z).length=n*z.length:=by
 induction n with
 |zero=>simp[qM]
 |succ n ih=>simp[qM,ih,Nat.succ_mul];omega
theorem Cf {z:List TV}:∀{n j:Nat},j<n*z.length→(qM n z)[j]?=z[j % z.length]?:=by
  intro n
  induction n with
  |zero=>intro j h;simp at h
  | succ n ih=>
    intro j h
    simp only[qM]
    by_cases hj:j<z.length
    · rw[List.getElem?_append_left hj,Nat.mod_eq_of_lt hj]
    · rw[List.getElem?_append_right (by omega),ih (by rw[Nat.succ_mul] at h;omega)]
      have:j % z.length=(j - z.length) % z.length:=Nat.mod_eq_sub_mod (by omega)
      rw[this]
theorem IF {z:TV}{zv:Value}(hz:VR G z zv)(hne:z≠ .any)(n m:Nat)(hm:z.cells.length=m)(hpos:0<m):cK G (qM n z.cells) ((Array.range (n*m)).map (zv.cells[· % zv.cells.size]!)).toList:=by
 have hc:=hz.cells hne
 have hsz:zv.cells.size=m:=by have:=hc.1;simp at this;omega
 refine⟨by simp[gA,hm],fun j c u h1 h2=> ?_⟩
 have hj:j<n*m:=by have:=(List.getElem?_eq_some_iff.1 h1).1;rw[gA,hm] at this;exact this
 rw[Cf (by rw[hm];exact hj),hm] at h1
 have hmod:j % m<m:=Nat.mod_lt _ hpos
 simp[hj,hsz,hmod] at h2
 refine hc.2 (j % m) c u h1 ?_
 simp[← h2,hsz,hmod]
open Classical in
noncomputable def Gh.row (G:Gh)(b:Nat)(vs:List Value):Gh:={G with F:=fun c o=>if c=b then vs[o]? else G.F c o}
theorem Rr (hw:WF G w)(vs:List Value):G.le (G.row w.heap.size vs):=by
 refine⟨fun b o u h=> ?_,fun _ d=>d,fun _ _ a=>⟨a,rfl⟩,fun _ n _ c _ a=>⟨n,c,a,Nat.le_refl _,fun _=>⟨rfl,rfl⟩⟩⟩
 have:=hw.adr h
 simp only[Gh.row]
 rw[if_neg (by omega)];exact h
theorem Cg (hw:WF G w)(vs:List Value)(ty:TypeId)(W N:Nm→Prop)(fr:Nat×Nat:=(0,0)):Step W N G w (G.row w.heap.size vs) (World.dO w (.cells vs.toArray ty fr)):=by
  refine⟨Rr hw vs,⟨fun b o u h=> ?_,hw.inj,fun k d=> ?_⟩,fun _ _ _=>⟨rfl,rfl⟩,fun b hb _=>⟨mo hb,fun o=>by simp[Gh.row];omega⟩,fun _ d=>.inl d,fun _ d=>.inl ⟨d,rfl⟩,by simp[World.dO],rfl,rfl,rfl⟩
  · simp only[Gh.row] at h
    split at h
    · rename_i e;subst e
      exact⟨vs.toArray,ty,fr,mh _ _,by simpa using h⟩
    · obtain⟨us,ty',fr',h1,h2⟩:=hw.F b o u h
      exact⟨us,ty',fr',by rw[mo (Array.getElem?_eq_some_iff.1 h1).1];exact h1,h2⟩
  · have:=hw.lt k d
    show G.mu k<(w.heap.push _).size
    simp;omega
theorem KY (hw:WF G w){g:Bool}{bR len:Nat}{ts es:List Tree}{vs:List Value}(hv:Bh G.F ts vs)(hc:chunk g bR len ts=some es)(cap:Nat)(hcap:len≤cap)(vs':List Value)(hpre:∀(j:Nat) u,vs[j]?=some u→vs'[j]?=some u):
    VT (G.row w.heap.size vs').F (.sl es) (.slice (some ⟨w.heap.size,0,none⟩) len cap):=by
  obtain⟨c1,c2,c3⟩:=rZ hc
  subst c1
  by_cases hne:es=[]
  · subst hne;exact .vO _ _
  · refine .sl bR es _ 0 cap (fun j=>vs.getD j undef) hne hcap c3 ?_ ?_
    · intro j c hj
      rw[c2] at hj
      have hjl:j<vs.length:=by have:=(List.getElem?_eq_some_iff.1 hj).1;have:=hv.1;omega
      simp only[Gh.row,Nat.zero_add,if_true]
      rw[hpre j vs[j] (List.getElem?_eq_getElem hjl)]
      simp[List.getD,hjl]
    · intro j c hj
      rw[c2] at hj
      have hjl:j<vs.length:=by have:=(List.getElem?_eq_some_iff.1 hj).1;have:=hv.1;omega
      have:=hv.2 j c vs[j] hj (List.getElem?_eq_getElem hjl)
      have e:vs.getD j undef=vs[j]:=by simp[List.getD,hjl]
      rw[e]
      exact this.mono (Rr hw vs').F
theorem Ch {o:Oper}{alS:Bool}{t:TypeId}{len:Nat}{parts:Array (Nat×Operand)}{ps:List (Nat×TV)}{u:List (Nm×aQ)}(hw:WF G w)(hn:¬G.dom nm)(ho:o.op=.buildSlice t len parts)
    (hp:PR G ps (parts.map fun(p:Nat×Operand)=>(p.1,a.eval p.2)).toList)(h:mS C.P alS nm t len ps=some (v,u)):cW C.P nm o a w G v u:=by
  unfold mS at h
  cases ht:bf C.P t<;>simp only[ht,reduceCtorEq] at h
  rename_i ti
  obtain⟨_,_,hu,_⟩:=bC ht
  split at h
  · rename_i elem hd
    cases hte:bf C.P elem<;>simp only[hte,reduceCtorEq] at h
    rename_i te
    cases hz:te.zero<;>simp only[hz,reduceCtorEq] at h
    rename_i z
    split at h
    · rename_i hc
      obtain⟨c1,c2,c3,c4⟩:=hc
      cases hfl:nL (fun i=>some (i*te.size,te.size)) (qM len z.cells) ps<;>simp only[hfl,reduceCtorEq] at h
      rename_i cs
      obtain⟨zv,h1,h2⟩:=fI hte hz w G
      have hr:=IF h2 (rY hte hz) len te.size c3 c1
      obtain⟨us,h3,h4⟩:=Ce hp hr hfl
      have ads:cs.length=len*te.size:=by
        have:∀(ps:List (Nat×TV)) (cs ds:List TV),nL (fun i=>some (i*te.size,te.size)) cs ps=some ds→ds.length=cs.length:=by
          intro ps
          induction ps with
          |nil=>intro cs ds h;simp[nL] at h;rw[h]
          | cons p r ih=>
            intro cs ds h
            simp only[nL] at h
            split at h
            · rename_i hcc
              rw[ih _ _ h,nB (by omega)]
            · simp at h
        rw[this _ _ _ hfl,gA,c3]
      have Ep:us.length=len*te.size:=by rw[h4.1,ads]
      have hrun:(execOp a.eval o).run C.P w=.ok (.value (.slice (some ⟨w.heap.size,0,none⟩) len len)) (World.dO w (.cells us.toArray elem)):=by
        have lT:=aK hu w
        simp only[Array.toArray_toList] at h3
        simp only[execOp,ho,Instr.buildSlice]
        simp only[bind_assoc,pure_bind,Sem.run_bind,lT,hd,Result.andThen_ok,dX hte w]
        rw[if_neg (by omega)]
        simp only[bind_assoc,pure_bind,Sem.run_bind,Result.andThen_ok,Sem.run_pure]
        by_cases h0:len*te.size=0
        · rw[if_pos h0]
          have e:((Array.range (len*te.size)).map fun x=>(#[]:Array Value)[x % (#[]:Array Value).size]!)=(Array.range (len*te.size)).map (zv.cells[· % zv.cells.size]!):=by rw[h0];simp
          rw[e,h3]
          simp[iX,World.dO]
        · rw[if_neg h0]
          simp only[bind_assoc,pure_bind,Sem.run_bind,Result.andThen_ok,Sem.run_pure,h1,h3]
          simp[iX,World.dO]
      have Ci:∀g:Bool,cW C.P nm o a w G (.ref nm 0 len) [(nm,.arr (elem,g) te.size false cs)]:=by
        intro g
        have Bk:=BG (b:=g) (cap:=len) hw hn c1 (cs:=cs) (vs:=us) (by rw[List.take_of_length_le (by omega)];exact h4) Ep (by omega) elem
        refine cW.fM hrun (lq hw hn _ (some (cs.length,te.size,len)) _) ?_ ?_
        · intro k ob hm
          simp at hm
          obtain⟨rfl,rfl⟩:=hm
          exact Bk
        · exact xD (by rw[ads]) hn
      split at h
      · rename_i es hes
        simp at h
        obtain⟨rfl,rfl⟩:=h
        cases hal:allT cs<;>rw[hal] at hes<;>simp at hes
        rename_i ts
        have:=zO hal
        subst this
        have KZ:=KY hw h4.Ra hes len (Nat.le_refl _) us (fun _ _ h=>h)
        refine cW.fM hrun (Cg hw us elem _ _) (fun _ _ hm=>by simp at hm) ?_
        obtain⟨e1,_⟩:=rZ hes
        subst e1
        exact .k5 es _ KZ
      · simp at h
        obtain⟨rfl,rfl⟩:=h
        exact Ci _
    · simp at h
  · simp at h
end
end Go.Abs

namespace Go.Abs
open Go
theorem xF {n:Nat}:∀{es:List Tree} {i j:Nat} {e:Tree},(∀e∈es,e.cells.length=n)→es[i]?=some e→j<n→(flat es)[i*n+j]?=e.cells[j]?:=by
 intro es
 induction es with
 |nil=>intro i j e _ h;simp at h
 | cons x r ih=>
  intro i j e hu h hj
  have hx:x.cells.length=n:=hu x List.mem_cons_self
  cases i with
  |zero=>
   simp at h;subst h
   simp only[flat,List.flatMap_cons,Nat.zero_mul,Nat.zero_add]
   rw[List.getElem?_append_left (by omega)]
  |succ i=>
   simp only[flat,List.flatMap_cons]
   rw[List.getElem?_append_right (by rw[hx,Nat.succ_mul];omega),hx]
   have:=ih (i:=i) (j:=j) (e:=e) (fun e he=>hu e (List.mem_cons_of_mem _ he)) (by simpa using h) hj
   rw[← this]
   simp only[flat]
   congr 1
   rw[Nat.succ_mul];omega
theorem gZ {n:Nat}:∀{es:List Tree},(∀e∈es,e.cells.length=n)→(flat es).length=es.length*n:=by
 intro es
 induction es with
 |nil=>intro _;simp[flat]
 |cons x r ih=>
  intro hu
  have:=ih (fun e he=>hu e (List.mem_cons_of_mem _ he))
  simp only[flat,List.flatMap_cons,List.length_append,hu x List.mem_cons_self,List.length_cons] at this ⊢
  rw[this,Nat.succ_mul];omega
theorem Pb {n:Nat}:∀{es:List Tree} {l:Nat},(∀e∈es,e.cells.length=n)→flat (es.drop l)=(flat es).drop (l*n):=by
 intro es
 induction es with
 |nil=>intro l _;simp[flat]
 | cons x r ih=>
  intro l hu
  cases l with
  |zero=>simp
  |succ l=>
   have hx:x.cells.length=n:=hu x List.mem_cons_self
   have:=ih (l:=l) (fun e he=>hu e (List.mem_cons_of_mem _ he))
   simp only[List.drop_succ_cons,flat,List.flatMap_cons] at this ⊢
   have e1:x.cells.drop ((l+1) *n)=[]:=List.drop_eq_nil_of_le (by rw[hx,Nat.succ_mul];omega)
   have e2:(l+1) *n - x.cells.length=l*n:=by rw[hx,Nat.succ_mul];omega
   rw[this,List.drop_append,e1,List.nil_append,e2]
theorem Pc {n:Nat}:∀{es:List Tree} {l:Nat},(∀e∈es,e.cells.length=n)→flat (es.take l)=(flat es).take (l*n):=by
 intro es
 induction es with
 |nil=>intro l _;simp[flat]
 | cons x r ih=>
  intro l hu
  cases l with
  |zero=>simp[flat]
  |succ l=>
   have hx:x.cells.length=n:=hu x List.mem_cons_self
   have:=ih (l:=l) (fun e he=>hu e (List.mem_cons_of_mem _ he))
   simp only[List.take_succ_cons,flat,List.flatMap_cons] at this ⊢
   have e1:x.cells.take ((l+1) *n)=x.cells:=List.take_of_length_le (by rw[hx,Nat.succ_mul];omega)
   have e2:(l+1) *n - x.cells.length=l*n:=by rw[hx,Nat.succ_mul];omega
   rw[this,List.take_append,e1,e2]
section
variable {C:dh}{f:FuncId}{nm:Nm}{H:Heap}{slots:List TV}{a:Act}{w:World}{G:Gh}{v:TV}
theorem oV {k:Nm}{off len:Nat}{g:TypeId×Bool}{bR:Nat}{fz:Bool}{cs:List TV}(h:ow H k off len=some (g,bR,fz,cs)):H.get k=some (.arr g bR fz cs)∧0<bR∧(off+len) *bR=cs.length:=by
  unfold ow at h
  split at h
  · split at h<;>simp at h
    rename_i hc
    obtain⟨rfl,rfl,rfl,rfl⟩:=h
    exact⟨by assumption,hc.1,hc.2⟩
  · simp at h
theorem vW {k:Nm}{off len:Nat}{g:TypeId×Bool}{bR:Nat}{fz:Bool}{cs:List TV}{x:Value}(hH:HR G w H)(h:ow H k off len=some (g,bR,fz,cs))(hx:VR G (.ref k off len) x):
  ∃cap vs ty fr b,G.dom k∧G.arr k=some (cs.length,bR,cap)∧w.heap[G.mu k]?=some (.cells vs ty fr)∧(qz vs fr∧ty=g.1)∧vs.size=cap*bR∧cs.length≤vs.size∧cK G cs (vs.toList.take cs.length)∧
   (∀o,(fz=false∨cs.length≤o)→G.F (G.mu k) o=none)∧x=.slice b len (cap - off)∧off+len≤cap∧(off<cap→b=some ⟨G.mu k,off*bR,none⟩):=by
 obtain⟨hk,hpos,htip⟩:=oV h
 obtain⟨hd,he,cap,vs,ty,fr,ha,hh,ht,hs,hl,hv,hf⟩:=hH k _ hk
 cases hx with|ref _ _ _ n' Rl cap' _ hd' ha' hle ho hv'=>
  rw[ha] at ha'
  simp at ha'
  obtain⟨e1,e2,e3⟩:=ha'
  subst e2;subst e3
  obtain⟨b,rfl,hb⟩:=hv' (by rw[htip];exact e1)
  have hcap:off+len≤cap:=by
   have:(off+len) *bR≤cap*bR:=by rw[htip,← hs];exact hl
   exact Nat.le_of_mul_le_mul_right this hpos
  exact⟨cap,vs,ty,fr,b,hd,ha,hh,ht,hs,hl,hv,hf,rfl,hcap,hb⟩
theorem WA {p:TV}{x:Value}{n:Nat}(hp:VR G p x)(h:xb H p=some n):(∃s:List UInt8,p=.t (.str s)∧n=s.length)∨(∃b c,x=.slice b n c)∨(p=.t .gN)∨(∃k,p=.map k)∨(∃k o l,p=.ref k o l∧n=l):=by
  unfold xb at h
  split at h
  · simp at h;exact .inl ⟨_,rfl,h.symm⟩
  · simp at h;subst h
    cases hp with|t _ _ hp=>cases hp with
      |vO b c=>exact .inr (.inl ⟨b,c,rfl⟩)
      |sl=>exact .inr (.inl ⟨_,_,rfl⟩)
  · simp at h;subst h;cases hp;exact .inr (.inl ⟨_,_,rfl⟩)
  · simp at h;subst h;cases hp;exact .inr (.inl ⟨_,_,rfl⟩)
  · simp at h;exact .inr (.inr (.inr (.inr ⟨_,_,_,rfl,h.symm⟩)))
  · exact .inr (.inr (.inl rfl))
  · exact .inr (.inr (.inr (.inl ⟨_,rfl⟩)))
  · simp at h
theorem VT.YE {F:tL}{es:List Tree}{x:Value}{i:Nat}{e:Tree}(h:VT F (.sl es) x)(he:es[i]?=some e):
    ∃b o cap bR,∃vals:Nat→Value,x=.slice (some ⟨b,o,none⟩) es.length cap∧e.cells.length=bR∧(∀(j:Nat) c,e.cells[j]?=some c→F b (o+i*bR+j)=some (vals j))∧∀(j:Nat) c,e.cells[j]?=some c→VT F c (vals j):=by
  cases h with
  |vO b c=>simp at he
  | sl bR _ b o cap vals hne hc hu hF hv=>
    have hem:e∈es:=List.mem_of_getElem? he
    refine⟨b,o,cap,bR,fun j=>vals (i*bR+j),rfl,hu e hem,fun j c hj=> ?_,fun j c hj=> ?_⟩
    · have hjl:j<bR:=by rw[← hu e hem];exact(List.getElem?_eq_some_iff.1 hj).1
      rw[Nat.add_assoc]
      exact hF _ c (by rw[xF hu he hjl];exact hj)
    · have hjl:j<bR:=by rw[← hu e hem];exact(List.getElem?_eq_some_iff.1 hj).1
      exact hv _ c (by rw[xF hu he hjl];exact hj)
theorem nC {t elem:TypeId}{ti te:TI}{b:Option Addr}{len cap:Nat}{i:Nat}{k:IntKind}{bb oo:Nat}(ht:bf C.P t=some ti)(hd:ti.desc=.slice elem)(hte:bf C.P elem=some te)
  (hb:b=some ⟨bb,oo,none⟩)(hi:i<len):(Instr.indexAt t (.slice b len cap) (.int k (i:Int))).run C.P w=.ok (.pointer (some ⟨bb,oo+i*te.size,none⟩)) w:=by
 subst hb
 obtain⟨_,_,hu,_⟩:=bC ht
 rw[hd] at hu
 have lT:=aK hu w
 simp[Instr.indexAt,asIntOf,lT,dX hte w,hi,mW]
theorem Cj {t:TypeId}{x y:Value}{p q:TV}(hH:HR G w H)(hp:VR G p x)(hq:VR G q y)(h:eN C.P H t p q=some v):∃r,(Instr.indexAt t x y).run C.P w=.ok r w∧VR G v r:=by
  unfold eN at h
  cases ht:bf C.P t<;>cases hi:fh q<;>simp only[ht,hi,reduceCtorEq] at h
  rename_i ti i
  obtain⟨k,rfl⟩:=oP hq hi
  split at h
  · rename_i elem es hd
    cases hte:bf C.P elem<;>cases he:es[i]? <;>simp only[hte,he,reduceCtorEq] at h
    rename_i te e
    split at h<;>simp at h
    rename_i hs
    subst h
    obtain⟨b,o,cap,bR,vals,rfl,h1,h2,h3⟩:=hp.tree.YE he
    refine⟨_,nC ht hd hte rfl (List.getElem?_eq_some_iff.1 he).1, ?_⟩
    rw[← hs,h1]
    exact .jL e.cells 0 b (o+i*bR) vals h2 h3
  · rename_i elem es hd
    cases hte:bf C.P elem<;>cases he:es[i]? <;>simp only[hte,he,reduceCtorEq] at h
    rename_i te e
    split at h<;>simp at h
    rename_i hs
    subst h
    cases hp with|k5 _ ad hp=>
    obtain⟨b,o,cap,bR,vals,hx,h1,h2,h3⟩:=hp.YE he
    simp at hx
    obtain⟨hx,hx2⟩:=hx
    refine⟨_,nC ht hd hte hx (List.getElem?_eq_some_iff.1 he).1, ?_⟩
    rw[← hs,h1]
    exact .jL e.cells 0 b (o+i*bR) vals h2 h3
  · rename_i elem k' off len hd
    cases hte:bf C.P elem<;>cases hr:ow H k' off len<;>simp only[hte,hr,reduceCtorEq] at h
    rename_i te r
    obtain⟨g,bR,fz,cs⟩:=r
    simp only at h
    split at h<;>simp at h
    rename_i hc
    obtain⟨hs,hil⟩:=hc
    subst h
    obtain⟨cap,vs,ty,fr,b,tC,har,hh,qQ,hsz,hlc,hv,hf,rfl,hcap,hb⟩:=vW hH hr hp
    refine⟨_,nC ht hd hte (hb (by omega)) hil, ?_⟩
    have e:off*bR+i*te.size=(off+i) *bR:=by rw[hs,Nat.add_mul]
    rw[e]
    exact .jY k' cs.length _ cs.length bR cap _ tC har (Nat.le_refl _) ⟨_,rfl⟩ (fun _=>rfl)
  · rename_i len elem hd
    cases hte:bf C.P elem<;>simp only[hte,reduceCtorEq] at h
    rename_i te
    split at h
    · rename_i hil
      obtain⟨b,o,rfl,hv⟩:=EW hH hp h
      refine⟨_, ?_,hv⟩
      obtain⟨_,_,hu,_⟩:=bC ht
      rw[hd] at hu
      have lT:=aK hu w
      simp[Instr.indexAt,asIntOf,lT,dX hte w,hil,mW,Instr.sureAddr]
    · simp at h
  · simp at h
theorem VT.sub {F:tL}{es:List Tree}{b:Option Addr}{len cap l h m size:Nat}(hv:VT F (.sl es) (.slice b len cap))(hs:iQ size es=true)(h1:l≤h)(h2:h≤len)(h3:h≤m):
    VT F (.sl ((es.take h).drop l)) (.slice (if m=l then b else b.map (·.add (l*size))) (h - l) (m - l)):=by
  have hlen:len=es.length:=by cases hv<;>simp
  by_cases e:l=h
  · subst e
    rw[Nat.sub_self,List.drop_eq_nil_of_le (by simp;omega)]
    exact .vO _ _
  · cases hv with
    |vO=>simp at h2;omega
    | sl bR _ b' o _ vals hne hc hu hF QT=>
      have hsz:bR=size:=by
        cases es with
        |nil=>exact absurd rfl hne
        |cons x r=>simp[iQ] at hs;rw[← hs];exact(hu x List.mem_cons_self).symm
      subst hsz
      rw[if_neg (by omega)]
      simp only[Option.map_some,mW]
      have hsub:∀x∈(es.take h).drop l,x.cells.length=bR:=fun x hx=>hu x (List.mem_of_mem_take (List.mem_of_mem_drop hx))
      have Rs:((es.take h).drop l).length=h - l:=by simp;omega
      have hfl:flat ((es.take h).drop l)=((flat es).take (h*bR)).drop (l*bR):=by
        rw[Pb (fun x hx=>hu x (List.mem_of_mem_take hx)),Pc hu]
      rw[← Rs]
      refine .sl bR _ b' (o+l*bR) _ (fun j=>vals (l*bR+j)) ?_ (by omega) hsub ?_ ?_
      · intro hh;rw[hh] at Rs;simp at Rs;omega
      · intro j c hj
        rw[hfl,List.getElem?_drop,List.getElem?_take] at hj
        split at hj
        · have:=hF _ c hj
          rw[← this];congr 1;omega
        · simp at hj
      · intro j c hj
        rw[hfl,List.getElem?_drop,List.getElem?_take] at hj
        split at hj
        · exact QT _ c hj
        · simp at hj
end
end Go.Abs

namespace Go.Abs
open Go
section
variable {C:dh}{f:FuncId}{nm:Nm}{H:Heap}{slots:List TV}{a:Act}{w:World}{G:Gh}{v:TV}
def Z2 (G:Gh):Option TV→Option Value→Prop
 |none,none=>True
 |some p,some v=>VR G p v
 |_,_=>False
theorem om {p:TV}{x:Value}{n y:Nat}{code:BoundsCode}(hp:VR G p x)(h:fh p=some n)(hy:n≤y):(Instr.sliceBound x y code).run C.P w=.ok n w:=by
 obtain⟨k,rfl⟩:=oP hp h
 simp[Instr.sliceBound,asIntOf,hy]
theorem Ck {isS:Bool}{len cap:Nat}{lo hi mx:Option TV}{xl xh xm:Option Value}{l h m:Nat}(hl:Z2 G lo xl)(hh:Z2 G hi xh)(hm:Z2 G mx xm)
  (el:eO lo 0=some l)(eh:eO hi len=some h)(em:eO mx len=some m)(emx:(mx.isNone||hi.isSome)=true)(h1:l≤h)(h2:h≤m)(h3:m≤len)(h4:len≤cap):
  (Instr.sliceBounds isS len cap xl xh xm).run C.P w=.ok (l,h,if mx.isSome then m else cap) w:=by
 cases mx with
 | none=>
  cases xm with
  |some _=>exact absurd hm id
  |none=>
  simp[eO] at em;subst em
  cases hi with
  | none=>
   cases xh with
   |some _=>exact absurd hh id
   |none=>
   simp[eO] at eh;subst eh
   cases lo with
   |none=>
    cases xl with
    |some _=>exact absurd hl id
    |none=>simp[eO] at el;subst el;simp[Instr.sliceBounds]
   | some pl=>
    cases xl with
    |none=>exact absurd hl id
    |some vl=>
     simp only[Instr.sliceBounds]
     have hb:∀code,(Instr.sliceBound vl len code).run C.P w=.ok l w:=fun code=>om hl el h1
     simp[hb]
  | some ph=>
   cases xh with
   |none=>exact absurd hh id
   |some vh=>
   have hb:∀code,(Instr.sliceBound vh cap code).run C.P w=.ok h w:=fun code=>om hh eh (by omega)
   cases lo with
   |none=>
    cases xl with
    |some _=>exact absurd hl id
    |none=>simp[eO] at el;subst el;simp[Instr.sliceBounds,hb]
   | some pl=>
    cases xl with
    |none=>exact absurd hl id
    |some vl=>
     have YF:∀code,(Instr.sliceBound vl h code).run C.P w=.ok l w:=fun code=>om hl el h1
     simp[Instr.sliceBounds,hb,YF]
 | some pm=>
  cases xm with
  |none=>exact absurd hm id
  |some vm=>
  have hbm:∀code,(Instr.sliceBound vm cap code).run C.P w=.ok m w:=fun code=>om hm em (by omega)
  cases hi with
  |none=>simp at emx
  | some ph=>
   cases xh with
   |none=>exact absurd hh id
   |some vh=>
   have hb:∀code,(Instr.sliceBound vh m code).run C.P w=.ok h w:=fun code=>om hh eh (by omega)
   cases lo with
   |none=>
    cases xl with
    |some _=>exact absurd hl id
    |none=>simp[eO] at el;subst el;simp[Instr.sliceBounds,hb,hbm]
   | some pl=>
    cases xl with
    |none=>exact absurd hl id
    |some vl=>
     have YF:∀code,(Instr.sliceBound vl h code).run C.P w=.ok l w:=fun code=>om hl el h1
     simp[Instr.sliceBounds,hb,YF,hbm]
theorem Pd {t elem:TypeId}{ti te:TI}{b:Option Addr}{len cap l h m:Nat}{xl xh xm:Option Value}(ht:bf C.P t=some ti)(hd:ti.desc=.slice elem)(hte:bf C.P elem=some te)
  (hb:(Instr.sliceBounds true len cap xl xh xm).run C.P w=.ok (l,h,m) w):
  (Instr.sliceAt t (.slice b len cap) xl xh xm).run C.P w=.ok (.slice (if m=l then b else b.map (·.add (l*te.size))) (h - l) (m - l)) w:=by
 obtain⟨_,_,hu,_⟩:=bC ht
 rw[hd] at hu
 have lT:=aK hu w
 simp[Instr.sliceAt,Instr.slice,lT,hb,dX hte w]
theorem Gb {tight:Bool}{es:List Tree}{b:Option Addr}{len cap l h m size:Nat}(hv:VT G.F (.sl es) (.slice b len cap))(hs:iQ size es=true)(h1:l≤h)(h2:h≤len)(h3:h≤m)(ht:tight=true→m=h):
    VR G (O3 tight es l h) (.slice (if m=l then b else b.map (·.add (l*size))) (h - l) (m - l)):=by
  have hsub:=VT.sub hv hs h1 h2 h3
  unfold O3
  split
  · have hm:=ht (by assumption)
    subst hm
    have hlen:((es.take m).drop l).length=m - l:=by
      have:len=es.length:=by cases hv<;>simp
      simp;omega
    rw[← hlen] at hsub ⊢
    exact .k5 _ _ hsub
  · exact .t _ _ hsub
theorem Pe        {o:Oper}{t:TypeId}{px:Operand}{plo phi pmx:Option Operand}{p:TV}{lo hi mx:Option TV}{ks:List Nm}(hw:WF G w)(hH:HR G w H)(ho:o.op=.slice t px plo phi pmx)
    (hp:VR G p (a.eval px))(hl:Z2 G lo (plo.map a.eval))(hh:Z2 G hi (phi.map a.eval))(hm:Z2 G mx (pmx.map a.eval))(h:B1 C.P H t p lo hi mx=some (v,ks)):cW C.P nm o a w G v (cZ H ks):=by
  unfold B1 at h
  cases ht:bf C.P t<;>simp only[ht,reduceCtorEq] at h
  rename_i ti
  obtain⟨_,_,hu,_⟩:=bC ht
  have jW:∀r w',(Instr.sliceAt t (a.eval px) (plo.map a.eval) (phi.map a.eval) (pmx.map a.eval)).run C.P w=.ok r w'→(execOp a.eval o).run C.P w=.ok (.value r) w':=by
    intro r w' hr
    simp[execOp,ho,hr]
  split at h
  · rename_i hd
    rw[hd] at hu
    have lT:=aK hu w
    split at h
    · rename_i s
      split at h
      · rename_i l Ii el eh
        split at h<;>simp at h
        rename_i hc
        obtain⟨hc1,bE⟩:=hc
        obtain⟨rfl,rfl⟩:=h
        have hx:=hp.str
        cases hmx:pmx.map a.eval with
        |some _=>rw[hmx] at hm;exact absurd hm id
        |none=>
        have hb:=Ck (C:=C) (w:=w) (isS:=false) (len:=s.length) (cap:=s.length) hl hh (mx:=none) (xm:=none) trivial el eh rfl rfl hc1 bE (Nat.le_refl _) (Nat.le_refl _)
        refine cW.quiet hw (x:=.string ((ByteArray.mk s.toArray).extract l Ii)) (jW _ _ ?_) ?_
        · rw[hx,hmx]
          simp only[Option.isSome_none,Bool.false_eq_true,if_false] at hb
          have hb':(Instr.sliceBounds false (ByteArray.mk s.toArray).size (ByteArray.mk s.toArray).size (plo.map a.eval) (phi.map a.eval) none).run C.P w=.ok (l,Ii,s.length) w:=hb
          simp[Instr.sliceAt,Instr.slice,lT,hb']
        · have e:(ByteArray.mk s.toArray).extract l Ii=⟨((s.take Ii).drop l).toArray⟩:=by
            apply Go.WideShapes.bytes_inj
            rw[Go.Lib.extract_data]
            simp
            rw[List.drop_take]
          rw[e];exact .t _ _ (.str _)
      · simp at h
    · simp at h
  · rename_i elem hd
    split at h
    · rename_i te n hte hn
      split at h
      · rename_i l Ii m el eh em emx
        split at h
        · rename_i hc
          obtain⟨hc1,bE,bF⟩:=hc
          have main:∀(b:Option Addr) (cap:Nat),n≤cap→a.eval px=.slice b n cap→
              (Instr.sliceAt t (a.eval px) (plo.map a.eval) (phi.map a.eval) (pmx.map a.eval)).run C.P w=.ok (.slice (if(if mx.isSome then m else cap)=l then b else b.map (·.add (l*te.size))) (Ii - l) ((if mx.isSome then m else cap) - l)) w:=by
            intro b cap hcap hx
            rw[hx]
            exact Pd ht hd hte (Ck hl hh hm el eh em emx hc1 bE bF hcap)
          split at h
          · simp at h
            obtain⟨rfl,rfl⟩:=h
            generalize hpx:a.eval px=xv at hp main
            cases hp
            simp[xb] at hn;subst hn
            have:=main none 0 (by omega) rfl
            have e:m=0∧Ii=0∧l=0:=by omega
            obtain⟨rfl,rfl,rfl⟩:=e
            simp at this
            exact cW.quiet hw (jW _ _ (by rw[hpx];exact this)) .bl
          · rename_i es
            split at h<;>simp at h
            rename_i hs
            obtain⟨rfl,rfl⟩:=h
            simp[xb] at hn;subst hn
            generalize hpx:a.eval px=xv at hp main
            have hpt:=hp.tree
            have vX:∃b cap,xv=.slice b es.length cap∧es.length≤cap:=by
              cases hpt with
              |vO b c=>exact⟨b,c,rfl,by simp⟩
              |sl e es b o cap vals hne hcp _ _ _=>exact⟨_,cap,rfl,hcp⟩
            obtain⟨b,cap,rfl,hcap⟩:=vX
            refine cW.quiet hw (jW _ _ (by rw[hpx];exact main b cap hcap rfl)) (Gb hpt hs hc1 (by omega) ?_ ?_)
            · cases mx<;>simp<;>omega
            · intro Ro;cases mx<;>simp at Ro ⊢;exact Ro
          · rename_i es
            split at h<;>simp at h
            rename_i hs
            obtain⟨rfl,rfl⟩:=h
            simp[xb] at hn;subst hn
            generalize hpx:a.eval px=xv at hp main
            cases hp with|k5 _ b hpt=>
            refine cW.quiet hw (jW _ _ (by rw[hpx];exact main b es.length (Nat.le_refl _) rfl)) (Gb hpt hs hc1 (by omega) ?_ ?_)
            · cases mx<;>simp<;>omega
            · intro Ro;cases mx<;>simp at Ro ⊢<;>omega
          · rename_i k off len
            simp[xb] at hn;subst hn
            split at h
            · rename_i hcc
              obtain⟨ais,alj⟩:=hcc
              subst ais
              split at h
              · rename_i g bR fz cs hro
                split at h<;>simp at h
                rename_i hes
                subst hes
                obtain⟨rfl,rfl⟩:=h
                generalize hpx:a.eval px=xv at hp main
                obtain⟨cap,vs,ty,fr,b,tC,har,Ru,qQ,hsz,hlc,hv,hf,rfl,hcap,hb⟩:=vW hH hro hp
                obtain⟨hk,hpos,htip⟩:=oV hro
                refine cW.quiet hw (jW _ _ (by rw[hpx];exact main b (cap - off) (by omega) rfl)) ?_
                have hmx:mx=none:=by cases mx<;>simp_all
                subst hmx
                simp only[Option.isSome_none,Bool.false_eq_true,if_false]
                have e1:(off+l+(Ii - l)) *te.size=cs.length:=by rw[show off+l+(Ii - l)=off+Ii by omega];exact htip
                refine .ref k (off+l) (Ii - l) cs.length te.size cap _ tC har (by omega) ⟨_,_,rfl⟩ fun _=>⟨_,by rw[show cap - (off+l)=cap - off - l by omega],fun hlt=> ?_⟩
                rw[if_neg (by omega),hb (by omega)]
                simp only[Option.map_some,mW]
                rw[Nat.add_mul]
              · simp at h
            · split at h
              · rename_i es ks' hfz
                split at h<;>simp at h
                rename_i hs
                obtain⟨rfl,rfl⟩:=h
                have KZ:=zQ hw hH ks' iO _ _ _ _ hfz (fun _ hk=>hk) hp
                have hst:=gY hw hH ks'
                generalize hpx:a.eval px=xv at hp main KZ
                have vX:∃b cap,xv=.slice b es.length cap∧es.length≤cap:=by
                  cases KZ with
                  |vO b c=>exact⟨b,c,rfl,by simp⟩
                  |sl e es b o cap vals hne hcp _ _ _=>exact⟨_,cap,rfl,hcp⟩
                obtain⟨b,cap,rfl,hcap⟩:=vX
                have hlen :es.length=len:=by
                  simp only[iO,og] at hfz
                  split at hfz
                  · split at hfz
                    · split at hfz
                      · split at hfz
                        · rename_i hch
                          simp at hfz
                          rw[← hfz.1]
                          exact(rZ hch).1
                        · simp at hfz
                      · simp at hfz
                    · simp at hfz
                  · simp at hfz
                rw[← hlen] at main
                refine cW.fM (G':=G.frozen w H ks') (jW _ _ (by rw[hpx];exact main b cap hcap rfl)) (hst.mono (fun k _ hk=>jN hk.1 hk.2) (fun _ e=>e.elim)) (fun k ob hm'=>oh hw hH hm') (Gb KZ hs hc1 (by omega) ?_ ?_)
                · cases mx<;>simp<;>omega
                · intro Ro;cases mx<;>simp at Ro ⊢;exact Ro
              · simp at h
          · simp at h
        · simp at h
      · simp at h
    · simp at h
  · simp at h
end
end Go.Abs

namespace Go.Abs
open Go
theorem Pf (n:Nat):∀(r c:Nat),Builtin.growBy n r c≤max c (n+(n+768)/ 4):=by
  intro r
  induction r with
  |zero=>intro c;simp only[Builtin.growBy];omega
  | succ r ih=>
    intro c
    simp only[Builtin.growBy]
    split
    · omega
    · have:=ih (c+(c+768)/ 4)
      omega
theorem nextslicecap_le {n c:Nat}(h:c<n):Builtin.nextslicecap n c≤2*n:=by
  unfold Builtin.nextslicecap
  split
  · omega
  · split
    · omega
    · have:=Pf n 4 c;omega
section
variable {C:dh}{f:FuncId}{nm:Nm}{H:Heap}{slots:List TV}{a:Act}{w:World}{G:Gh}{v:TV}
theorem WF.drew (hw:WF G w):WF G w.drew:=⟨hw.F,hw.inj,hw.lt⟩
theorem mz (hw:WF G w)(W N:Nm→Prop):Step W N G w G w.drew:=
 ⟨.refl G,hw.drew,fun _ _ _=>⟨rfl,rfl⟩,fun _ _ _=>⟨rfl,fun _=>rfl⟩,fun _ h=>.inl h,fun _ h=>.inl ⟨h,rfl⟩,Nat.le_refl _,rfl,rfl,rfl⟩
theorem HR.drew (hH:HR G w H):HR G w.drew H:=by
 intro k o hk
 obtain⟨d,ho⟩:=hH k o hk
 refine⟨d, ?_⟩
 cases o<;>exact ho
theorem VT.EY {es:List Tree}{b:Option Addr}{len cap size:Nat}(hw:WF G w)(hv:VT G.F (.sl es) (.slice b len cap))(hs:iQ size es=true){n:Nat}(hn:n≤len):
    ∃us:Array Value,(Builtin.firstCells size n (.slice b len cap)).run C.P w=.ok us w∧cK G (((flat es).map .t).take (n*size)) us.toList:=by
  cases hv with
  | vO b c=>
    have:n=0:=by omega
    subst this
    refine⟨#[], ?_,by simp[flat];exact cK.nil G⟩
    cases b with
    |none=>simp[Builtin.firstCells]
    | some b=>
      have:=mN (P:=C.P) (w:=w) (b:=b.block) (o:=b.off) [] (by simp)
      simp[Builtin.firstCells,loadCells,loadCellsFrom]
  | sl bR _ b o _ vals hne hc hu hF QT=>
    have hsz:bR=size:=by
      cases es with
      |nil=>exact absurd rfl hne
      |cons x r=>simp[iQ] at hs;rw[← hs];exact(hu x List.mem_cons_self).symm
    subst hsz
    have hfl:(flat es).length=es.length*bR:=gZ hu
    have hle:n*bR≤(flat es).length:=by rw[hfl];exact Nat.mul_le_mul_right _ hn
    refine⟨((List.range (n*bR)).map vals).toArray, ?_, ?_⟩
    · have:=mN (P:=C.P) (w:=w) (b:=b) (o:=o) ((List.range (n*bR)).map vals) (fun j u hj=>by
        have hjl:j<n*bR:=by have:=(List.getElem?_eq_some_iff.1 hj).1;simpa using this
        simp[hjl] at hj
        subst hj
        obtain⟨vs,ty,fr,h1,h2⟩:=hw.F _ _ _ (hF j _ (List.getElem?_eq_getElem (by omega)))
        rw[cell_of h1];exact h2)
      simp only[List.length_map,List.length_range] at this
      exact this
    · refine⟨by simp only[List.length_map,List.length_range,List.length_take,List.toList_toArray];omega,fun j c u h1 h2=> ?_⟩
      have hjl:j<n*bR:=by have:=(List.getElem?_eq_some_iff.1 h2).1;simpa using this
      simp[hjl] at h2
      subst h2
      rw[List.getElem?_take,if_pos hjl,List.getElem?_map,List.getElem?_eq_getElem (by omega)] at h1
      simp at h1
      subst h1
      exact .t _ _ (QT j _ (List.getElem?_eq_getElem (by omega)))
theorem r5 {g:Bool}{size m:Nat}{x:Value}{p:TV}{cs:List TV}(hw:WF G w)(hH:HR G w H)(hp:VR G p x)(h:eP H g size p=some (m,cs)):
    (Builtin.lenOf x).run C.P w=.ok m w∧cs.length=m*size∧∀n,n≤m→∃us:Array Value,(Builtin.firstCells size n x).run C.P w=.ok us w∧cK G (cs.take (n*size)) us.toList:=by
  unfold eP at h
  split at h
  · simp at h
    obtain⟨rfl,rfl⟩:=h
    cases hp
    exact⟨rfl,by simp,fun n hn=>⟨#[],rfl,by simp;exact cK.nil G⟩⟩
  · rename_i es
    split at h<;>simp at h
    rename_i hs
    obtain⟨rfl,rfl⟩:=h
    have hpt:=hp.tree
    have hlen:(flat es).length=es.length*size:=by
      cases hpt with
      |vO=>simp[flat]
      | sl bR _ b o _ vals hne hc hu hF QT=>
        have hsz:bR=size:=by
          cases es with
          |nil=>exact absurd rfl hne
          |cons x r=>simp[iQ] at hs;rw[← hs];exact(hu x List.mem_cons_self).symm
        subst hsz
        exact gZ hu
    have hx:∃b cap,x=.slice b es.length cap:=by cases hpt<;>exact⟨_,_,rfl⟩
    obtain⟨b,cap,rfl⟩:=hx
    exact⟨rfl,by simpa using hlen,fun n hn=>hpt.EY hw hs hn⟩
  · rename_i es
    split at h<;>simp at h
    rename_i hs
    obtain⟨rfl,rfl⟩:=h
    cases hp with|k5 _ b hpt=>
    have hlen:(flat es).length=es.length*size:=by
      cases hpt with
      |vO=>simp[flat]
      | sl bR _ b o _ vals hne hc hu hF QT=>
        have hsz:bR=size:=by
          cases es with
          |nil=>exact absurd rfl hne
          |cons x r=>simp[iQ] at hs;rw[← hs];exact(hu x List.mem_cons_self).symm
        subst hsz
        exact gZ hu
    exact⟨rfl,by simpa using hlen,fun n hn=>hpt.EY hw hs hn⟩
  · rename_i k off len
    split at h
    · rename_i g' e fz cs' hro
      split at h<;>simp at h
      rename_i hes
      subst hes
      obtain⟨rfl,rfl⟩:=h
      obtain⟨cap,vs,ty,fr,b,tC,har,Ru,qQ,hsz,hlc,hv,hf,rfl,hcap,hb⟩:=vW hH hro hp
      obtain⟨hk,hpos,htip⟩:=oV hro
      have hmul:(off+len) *e=off*e+len*e:=Nat.add_mul _ _ _
      refine⟨rfl,by simp;omega,fun n hn=> ?_⟩
      have hne:n*e≤len*e:=Nat.mul_le_mul_right _ hn
      refine⟨((vs.toList.drop (off*e)).take (n*e)).toArray, ?_, ?_⟩
      · by_cases h0:n=0
        · subst h0
          cases b with
          |none=>simp[Builtin.firstCells]
          |some b=>simp[Builtin.firstCells,loadCells,loadCellsFrom]
        · rw[ hb (by omega)]
          have:=mN (P:=C.P) (w:=w) (b:=G.mu k) (o:=off*e) ((vs.toList.drop (off*e)).take (n*e)) (fun j u hj=>by
            rw[List.getElem?_take] at hj
            split at hj
            · rw[List.getElem?_drop] at hj
              rw[cell_of Ru];simpa using hj
            · simp at hj)
          have hl:((vs.toList.drop (off*e)).take (n*e)).length=n*e:=by simp;omega
          rw[hl] at this
          exact this
      · have h1:=(hv.drop (off*e)).take (n*e)
        have e1:((vs.toList.take cs'.length).drop (off*e)).take (n*e)=(vs.toList.drop (off*e)).take (n*e):=by
          apply List.ext_getElem?
          intro i
          simp only[List.getElem?_take,List.getElem?_drop]
          by_cases c:i<n*e
          · rw[if_pos c,if_pos c,if_pos (by omega)]
          · rw[if_neg c,if_neg c]
        rw[e1] at h1
        exact h1
    · simp at h
  · rename_i s
    split at h<;>simp at h
    rename_i hc
    obtain⟨hc1,bE⟩:=hc
    subst hc1
    obtain⟨rfl,rfl⟩:=h
    have:=hp.str
    subst this
    refine⟨by simp[Builtin.lenOf,ByteArray.size],by simp,fun n hn=>⟨_,rfl, ?_⟩⟩
    have e:((ByteArray.mk s.toArray).extract 0 n).data.toList=s.take n:=by
      rw[Go.Lib.extract_data];simp
    rw[Nat.mul_one]
    have e2:((((ByteArray.mk s.toArray).extract 0 n).data.map fun b=>Value.int .u8 (b.toNat:Int)).toList)=(s.take n).map fun b=>Value.int .u8 (b.toNat:Int):=by
      rw[Array.toList_map,e]
    rw[e2]
    refine⟨by simp,fun j c u h1 h2=> ?_⟩
    rw[← List.map_take,List.getElem?_map] at h1
    rw[List.getElem?_map] at h2
    cases hj:(s.take n)[j]? with
    |none=>rw[hj] at h1;simp at h1
    | some b=>
      rw[hj] at h1 h2
      simp at h1 h2
      subst h1;subst h2
      exact .t _ _ (.int _ _)
  · simp at h
def Gh.grow (G:Gh)(k:Nm)(b:Nat)(ar:Nat×Nat×Nat):Gh:=
 {G with mu:=fun x=>if x=k then b else G.mu x,arr:=fun x=>if x=k then some ar else G.arr x}
theorem BH {k:Nm}{n e c n' c':Nat}(b:Nat)(ha:G.arr k=some (n,e,c))(hlt:n<n'):G.le (G.grow k b (n',e,c')):=by
  refine⟨fun _ _ _ h=>h,fun _ d=>d,fun x d a=> ?_,fun x m e' c0 d a=> ?_⟩
  · have:x≠k:=by intro e;subst e;rw[ha] at a;simp at a
    simp[Gh.grow,this,a]
  · by_cases hx:x=k
    · subst hx
      rw[ha] at a
      simp at a
      obtain⟨rfl,rfl,rfl⟩:=a
      exact⟨n',c',by simp[Gh.grow],Nat.le_of_lt hlt,fun e=>by omega⟩
    · exact⟨m,c0,by simp[Gh.grow,hx,a],Nat.le_refl _,fun _=>⟨rfl,by simp[Gh.grow,hx]⟩⟩
theorem grow_step (hw:WF G w){k:Nm}{n e c n':Nat}(ha:G.arr k=some (n,e,c))(hlt:n<n')(N:Nm→Prop):Step (fun x=>x=k) N G w (G.grow k (G.mu k) (n',e,c)) w:=by
 have KU:∀x,(G.grow k (G.mu k) (n',e,c)).mu x=G.mu x:=by intro x;simp only[Gh.grow];split<;>simp_all
 refine⟨BH _ ha hlt,⟨hw.F,fun x y dx dy e=>hw.inj x y dx dy (by rw[KU,KU] at e;exact e),fun x d=>by rw[KU];exact hw.lt x d⟩,fun x d hn=>⟨KU x,by simp[Gh.grow,hn]⟩,fun _ _ _=>⟨rfl,fun _=>rfl⟩,fun _ d=>.inl d,fun x d=>.inl ⟨d,KU x⟩,Nat.le_refl _,rfl,rfl,rfl⟩
theorem Pg (hw:WF G w){k:Nm}{n e c n' c':Nat}(ha:G.arr k=some (n,e,c))(hlt:n<n')(o:Obj)(N:Nm→Prop):Step (fun x=>x=k) N G w (G.grow k w.heap.size (n',e,c')) (World.dO w o):=by
  refine⟨BH _ ha hlt,⟨fun b p u h=> ?_,fun x y dx dy he=> ?_,fun x d=> ?_⟩,fun x d hn=>by simp[Gh.grow,hn],fun b hb _=>⟨mo hb,fun _=>rfl⟩,fun _ d=>.inl d,fun x d=> ?_,by simp[World.dO],rfl,rfl,rfl⟩
  · obtain⟨vs,ty,fr,h1,h2⟩:=hw.F b p u h
    exact⟨vs,ty,fr,by rw[mo (Array.getElem?_eq_some_iff.1 h1).1];exact h1,h2⟩
  · simp only[Gh.grow] at he dx dy
    by_cases hx:x=k<;>by_cases hy:y=k
    · rw[hx,hy]
    · rw[if_pos hx,if_neg hy] at he;have:=hw.lt y dy;omega
    · rw[if_neg hx,if_pos hy] at he;have:=hw.lt x dx;omega
    · rw[if_neg hx,if_neg hy] at he;exact hw.inj x y dx dy he
  · simp only[Gh.grow] at d ⊢
    show _<(w.heap.push o).size
    rw[Array.size_push]
    split
    · omega
    · have:=hw.lt x d;omega
  · simp only[Gh.grow] at d ⊢
    by_cases hx:x=k
    · exact .inr (by rw[if_pos hx];exact Nat.le_refl _)
    · exact .inl ⟨d,by rw[if_neg hx]⟩
theorem nD {elem st xt:TypeId}{ti tx te:TI}{z:TV}{b:Option Addr}{sLen sCap m:Nat}{r:TypeId}{x:Value}{olds news:Array Value}(Ge:bf C.P st=some ti)(hd:ti.desc=.slice elem)(Wj:bf C.P xt=some tx)
    (Ij:(∃e,tx.desc=.slice e)∨tx.desc=.string)(hte:bf C.P elem=some te)(hz:te.zero=some z)(hzl:z.cells.length=te.size)(hb0:te.bytes≠0)
    (hlen:(Builtin.lenOf x).run C.P w=.ok m w)(hnew:(Builtin.firstCells te.size m x).run C.P w.drew=.ok news w.drew)
    (hold:(Builtin.firstCells te.size sLen (.slice b sLen sCap)).run C.P w.drew=.ok olds w.drew)(hgt:sCap<sLen+m)(K0:(sLen+m) *te.bytes≤eu):
    ∃ fe,sLen+m≤fe∧∃rest:Array Value,rest.size=(fe - (sLen+m)) *te.size∧
      (Builtin.append_ #[st,xt] r #[.slice b sLen sCap,x]).run C.P w=.ok (.slice (some ⟨w.heap.size,0,none⟩) (sLen+m) fe) (World.dO w.drew (.cells (olds++news++rest) elem)):=by
  obtain⟨_,_,hu,_⟩:=bC Ge
  rw[hd] at hu
  obtain⟨_,_,hux,_⟩:=bC Wj
  obtain⟨i,hi,_,_,hbytes,_⟩:=bC hte
  obtain⟨zv,hz1,QS⟩:=fI hte hz w.drew ⟨fun _ _=>none,fun _=>0,fun _=>none,fun _=>False⟩
  have hzs:zv.cells.size=te.size:=by have:=(QS.cells (rY hte hz)).1;simp at this;omega
  refine⟨(Question.appendCap (sLen+m) sCap elem).cut (w.tape w.drawn (Question.appendCap (sLen+m) sCap elem)), ?_,Builtin.zeroCells zv.cells ((Question.appendCap (sLen+m) sCap elem).cut (w.tape w.drawn (Question.appendCap (sLen+m) sCap elem)) - (sLen+m)), ?_, ?_⟩
  · show sLen+m≤sLen+m+_
    omega
  · simp[Builtin.zeroCells,hzs]
  · have lT:∀w,(underlying st).run C.P w=.ok (.slice elem) w:=fun w=>aK hu w
    have K1:∀w,(underlying xt).run C.P w=.ok tx.desc w:=fun w=>aK hux w
    have hsz:∀w,(sizeOf elem).run C.P w=.ok te.size w:=fun w=>dX hte w
    have Rv:∀w,(typeInfo elem).run C.P w=.ok i w:=fun w=>nP hi w
    have hnc:=nextslicecap_le hgt
    have adt:¬(281474976710656<Builtin.nextslicecap (sLen+m) sCap*i.bytes):=by
      rw[hbytes]
      have h1:Builtin.nextslicecap (sLen+m) sCap*te.bytes≤2* (sLen+m) *te.bytes:=Nat.mul_le_mul_right _ hnc
      have h2:2* (sLen+m) *te.bytes=2* ((sLen+m) *te.bytes):=Nat.mul_assoc _ _ _
      unfold eu at K0
      omega
    have hb1:¬i.bytes=0:=by rw[hbytes];exact hb0
    have hq:(Question.appendCap (sLen+m) sCap elem).forced=false:=rfl
    have adu:¬sLen+m≤sCap:=by omega
    rcases Ij with ⟨e,Ij⟩|Ij<;>rw[Ij] at K1
    · simp[Builtin.append_,lT,K1,hsz,hlen,Rv,adu,hb1,adt,hq,hold,hnew,hz1,iX,World.dO]
      rfl
    · simp[Builtin.append_,lT,K1,hsz,hlen,Rv,adu,hb1,adt,hq,hold,hnew,hz1,iX,World.dO]
      rfl
theorem tU {elem st xt:TypeId}{ti tx te:TI}{b:Option Addr}{sLen sCap m:Nat}{r:TypeId}{x:Value}{news:Array Value}{w':World}(Ge:bf C.P st=some ti)(hd:ti.desc=.slice elem)(Wj:bf C.P xt=some tx)
  (Ij:(∃e,tx.desc=.slice e)∨tx.desc=.string)(hte:bf C.P elem=some te)
  (hlen:(Builtin.lenOf x).run C.P w=.ok m w)(hnew:(Builtin.firstCells te.size m x).run C.P w=.ok news w)(hle:sLen+m≤sCap)
  (hst:∀ad,b=some ad→(storeCells (ad.add (sLen*te.size)) news.toList).run C.P w=.ok () w')(hnn:b=none→w'=w):
  (Builtin.append_ #[st,xt] r #[.slice b sLen sCap,x]).run C.P w=.ok (.slice b (sLen+m) sCap) w':=by
 obtain⟨_,_,hu,_⟩:=bC Ge
 rw[hd] at hu
 obtain⟨_,_,hux,_⟩:=bC Wj
 have lT:=aK hu w
 have K1:=aK hux w
 have hsz:=dX hte w
 rcases Ij with ⟨e,Ij⟩|Ij<;>rw[Ij] at K1<;>cases b with
 |none=>have:=hnn rfl;subst this;simp[Builtin.append_,lT,K1,hsz,hlen,hnew,hle]
 |some ad=>simp[Builtin.append_,lT,K1,hsz,hlen,hnew,hle,hst ad rfl]
theorem IG {o:Oper}{b:Builtin}{args:Array Operand}{ats:Array TypeId}{r:Value}{w':World}(ho:o.op=.call {callee:=.builtin .append,args,argTypes:=ats})
  (h:(Builtin.append_ ats o.type (args.map a.eval)).run C.P w=.ok r w'):(execOp a.eval o).run C.P w=.ok (.value r) w':=by
 simp[execOp,ho,resolve,invoke,builtin,h]
theorem K2 {o         : Oper}{args:Array Operand}{ats:Array TypeId}{st xt:TypeId}{s x:TV}{u:List (Nm×aQ)}(hw:WF G w)(hH:HR G w H)(hn:¬G.dom nm)(ho:o.op=.call {callee:=.builtin .append,args,argTypes:=ats})
    (hat:ats.toList=[st,xt])(hargs:cK G [s,x] (args.map a.eval).toList)(h:kq C.P nm H st xt s x=some (v,u)):cW C.P nm o a w G v u:=by
  have Rw:ats= #[st,xt]:=by rw[← Array.toArray_toList (xs:=ats),hat]
  obtain⟨sv,rest,Rx,hs,qR⟩:=hargs.iN
  obtain⟨xv,Ry,he2,hx,Cm⟩:=qR.iN
  have hr2:Ry=[]:=by have:=Cm.1;simpa using this
  subst hr2
  subst he2
  have Z3:args.map a.eval= #[sv,xv]:=by rw[← Array.toArray_toList (xs:=args.map a.eval),Rx]
  have jW:∀r w',(Builtin.append_ #[st,xt] o.type #[sv,xv]).run C.P w=.ok r w'→(execOp a.eval o).run C.P w=.ok (.value r) w':=fun r w' hr=>IG (b:=.append) ho (by rw[Rw,Z3];exact hr)
  clear Cm qR Rx Z3 hat
  unfold kq at h
  cases Ge:bf C.P st<;>cases Wj:bf C.P xt<;>simp only[Ge,Wj,reduceCtorEq] at h
  rename_i ti tx
  split at h
  · rename_i elem hd adv
    have Ij:(∃e,tx.desc=.slice e)∨tx.desc=.string:=by
      split at adv
      · rename_i e hh;exact .inl ⟨e,hh⟩
      · rename_i hh;exact .inr hh
      · simp at adv
    cases hte:bf C.P elem<;>simp only[hte,reduceCtorEq] at h
    rename_i te
    cases hz:te.zero<;>simp only[hz,reduceCtorEq] at h
    rename_i z
    split at h
    · simp at h
    · rename_i Rz
      simp only[not_or,Decidable.not_not] at Rz
      obtain⟨hs0,hzl,hb0⟩:=Rz
      have hpos:0<te.size:=by omega
      split at h
      · rename_i m cs hsrc
        obtain⟨Ik,hcl,Z4⟩:=r5 (C:=C) hw hH hx hsrc
        obtain⟨news,Er,II⟩:=Z4 m (Nat.le_refl _)
        obtain⟨alk,_,ait⟩:=r5 (C:=C) hw.drew hH.drew hx hsrc
        rw[List.take_of_length_le (by omega)] at II
        split at h
        · rename_i hm0
          subst hm0
          have Cn:news= #[]:=by
            have h1:=II.1
            have:cs=[]:=List.length_eq_zero_iff.1 (by omega)
            subst this
            simp at h1
            exact h1
          subst Cn
          have fit:∀(b:Option Addr) (sLen sCap:Nat),sLen≤sCap→sv=.slice b sLen sCap→(execOp a.eval o).run C.P w=.ok (.value (.slice b sLen sCap)) w:=by
            intro b sLen sCap hle hsv
            subst hsv
            exact jW _ _ (tU Ge hd Wj Ij hte Ik Er (by omega) (fun ad _=>by simp[storeCells]) (fun _=>rfl))
          split at h
          · simp at h;obtain⟨rfl,rfl⟩:=h
            cases hs
            exact cW.quiet hw (fit none 0 0 (Nat.le_refl _) rfl) .bl
          · rename_i es
            simp at h;obtain⟨rfl,rfl⟩:=h
            have hst:=hs.tree
            cases hst with
            |vO b c=>exact cW.quiet hw (fit b 0 c (by omega) rfl) (.t _ _ (.vO b c))
            |sl e es b o cap vals h1 h2 h3 h4 h5=>exact cW.quiet hw (fit _ _ cap h2 rfl) (.t _ _ (.sl e es b o cap vals h1 h2 h3 h4 h5))
          · rename_i es
            simp at h;obtain⟨rfl,rfl⟩:=h
            cases hs with|k5 _ b hst=>exact cW.quiet hw (fit b _ _ (Nat.le_refl _) rfl) (.k5 es b hst)
          · rename_i k off len
            split at h<;>simp at h
            rename_i hro
            obtain⟨rfl,rfl⟩:=h
            obtain⟨⟨g,bR,fz,cs'⟩,hro⟩:=Option.isSome_iff_exists.1 hro
            obtain⟨cap,vs,ty,fr,b,tC,har,Ru,qQ,hsz,hlc,hv,hf,rfl,hcap,hb⟩:=vW hH hro hs
            exact cW.quiet hw (fit b len (cap - off) (by omega) rfl) hs
          · simp at h
        · rename_i hm0
          split at h
          · rename_i hlf
            have RA:=Ca II hlf
            obtain⟨o8,Z5,IJ⟩:=ait m (Nat.le_refl _)
            rw[List.take_of_length_le (by omega)] at IJ
            split at h
            · split at h<;>simp at h
              rename_i K0
              obtain⟨rfl,rfl⟩:=h
              cases hs
              obtain⟨fe,hnc,rest,qR,hrun⟩:=nD (sLen:=0) (sCap:=0) (b:=none) (r:=o.type) (olds:= #[]) Ge hd Wj Ij hte hz hzl hb0 Ik Z5 (by simp[Builtin.firstCells]) (by omega) (by simpa using K0)
              have hvl:(o8.toList++rest.toList).length=fe*te.size:=by
                have h1:=IJ.1
                have h2:fe*te.size=m*te.size+(fe - m) *te.size:=by rw[← Nat.add_mul];congr 1;omega
                have h3:rest.toList.length=(fe - m) *te.size:=by simpa using qR
                rw[List.length_append,h3,h1,hcl,h2]
              have Bk:=BG (nm:=nm) (b:=te.agg) (cap:=fe) (w:=w.drew) hw.drew hn hpos (cs:=cs) (vs:=o8.toList++rest.toList) (by rw[List.take_append_of_le_length (by rw[IJ.1];exact Nat.le_refl _),List.take_of_length_le (by rw[IJ.1];exact Nat.le_refl _)];exact IJ) hvl (by have h9:=IJ.1;simp only[List.length_append] at h9 ⊢;omega) elem
              have Ci:(o8.toList++rest.toList).toArray= #[]++o8++rest:=by simp
              rw[Ci] at Bk
              refine cW.fM (jW _ _ hrun) (((mz hw (fun _=>False) (fun _=>False)).trans (lq (w:=w.drew) hw.drew hn _ (some (cs.length,te.size,fe)) (fun _=>False))).mono (fun _ _ hh=>by simp at hh) (fun _ hh=>by simpa using hh)) ?_ ?_
              · intro k ob hm
                simp at hm
                obtain⟨rfl,rfl⟩:=hm
                exact Bk
              · have:=xD (w:=w.drew) (nm:=nm) (bR:=te.size) (cap:=fe) (n:=cs.length) (len:=m) (by rw[hcl]) hn
                simpa using this
            · rename_i es
              split at h
              · rename_i n old hold
                split at h<;>simp at h
                rename_i K0
                obtain⟨rfl,rfl⟩:=h
                obtain⟨hlo,hol,hfo⟩:=r5 (C:=C) hw.drew hH.drew hs hold
                cases hs with|k5 _ b hst=>
                have aiu:n=es.length:=by
                  simp only[eP] at hold
                  split at hold<;>simp at hold
                  exact hold.1.symm
                subst aiu
                obtain⟨xG,RB,zH⟩:=hfo es.length (Nat.le_refl _)
                rw[List.take_of_length_le (by omega)] at zH
                obtain⟨fe,hnc,rest,qR,hrun⟩:=nD (sLen:=es.length) (sCap:=es.length) (b:=b) (r:=o.type) (olds:=xG) Ge hd Wj Ij hte hz hzl hb0 Ik Z5 RB (by omega) K0
                have tV:=zH.append IJ
                have hbl:(xG.toList++o8.toList).length=(es.length+m) *te.size:=by rw[tV.1,List.length_append,hol,hcl,Nat.add_mul]
                have hvl:(xG.toList++o8.toList++rest.toList).length=fe*te.size:=by
                  have h2:fe*te.size=(es.length+m) *te.size+(fe - (es.length+m)) *te.size:=by rw[← Nat.add_mul];congr 1;omega
                  have h3:rest.toList.length=(fe - (es.length+m)) *te.size:=by simpa using qR
                  rw[List.length_append,h3,hbl,h2]
                have Bk:=BG (nm:=nm) (b:=te.agg) (cap:=fe) (w:=w.drew) hw.drew hn hpos (cs:=old++cs) (vs:=xG.toList++o8.toList++rest.toList) (by rw[List.take_append_of_le_length (by rw[tV.1];exact Nat.le_refl _),List.take_of_length_le (by rw[tV.1];exact Nat.le_refl _)];exact tV) hvl (by have h9:=tV.1;simp only[List.length_append] at h9 ⊢;omega) elem
                have Ci:(xG.toList++o8.toList++rest.toList).toArray=xG++o8++rest:=by simp
                rw[Ci] at Bk
                refine cW.fM (jW _ _ hrun) (((mz hw (fun _=>False) (fun _=>False)).trans (lq (w:=w.drew) hw.drew hn _ (some ((old++cs).length,te.size,fe)) (fun _=>False))).mono (fun _ _ hh=>by simp at hh) (fun _ hh=>by simpa using hh)) ?_ ?_
                · intro k ob hm
                  simp at hm
                  obtain⟨rfl,rfl⟩:=hm
                  exact Bk
                · exact xD (w:=w.drew) (nm:=nm) (bR:=te.size) (cap:=fe) (n:=(old++cs).length) (len:=es.length+m) (by rw[List.length_append,hol,hcl,Nat.add_mul]) hn
              · simp at h
            · rename_i k len
              split at h
              · rename_i g e fz old hro
                split at h<;>simp at h
                rename_i hc
                obtain⟨he,hg1,K0⟩:=hc
                subst he
                obtain⟨rfl,rfl⟩:=h
                obtain⟨hk,_,htip⟩:=oV hro
                obtain⟨cap,vs,ty,fr,b,tC,har,Ru,qQ,hsz,hlc,hv,hf,rfl,hcap,hb⟩:=vW hH hro hs
                simp only[Nat.zero_add,Nat.sub_zero,Nat.zero_mul] at*
                have hml:old.length<(old++cs).length:=by
                  rw[List.length_append,hcl]
                  have:0<m*te.size:=Nat.mul_pos (by omega) hpos
                  omega
                have hnl:(old++cs).length=(len+m) *te.size:=by rw[List.length_append,hcl,← htip,Nat.add_mul]
                by_cases hfit:len+m≤cap
                ·
                  have hb':=hb (by omega)
                  subst hb'
                  have hle2:(len+m) *te.size≤cap*te.size:=Nat.mul_le_mul_right _ hfit
                  have hov:old.length+news.toList.length≤vs.toList.length:=by
                    rw[II.1]
                    have:(old++cs).length≤vs.size:=by rw[hnl,hsz];exact hle2
                    simpa using this
                  have hst:=oL (P:=C.P) (b:=G.mu k) (o:=len*te.size) (ty:=ty) (fr:=fr) news.toList w 0 vs.toList RA (by simpa using Ru) (by simpa using qQ.1) (by simpa [htip] using hov)
                  simp only[Nat.add_zero,htip] at hst
                  have hrun:=tU (r:=o.type) (b:=some ⟨G.mu k,0,none⟩) Ge hd Wj Ij hte Ik Er hfit (fun ad had=>by simp at had;subst had;rw[mW,Nat.zero_add,htip];exact hst) (fun hh=>by simp at hh)
                  have s1:=mq (vs:=over vs.toList old.length news.toList) hw tC Ru (fun q ⟨uu,hq⟩=>by
                    have hql:q<old.length:=by
                      rcases Nat.lt_or_ge q old.length with h|h
                      · exact h
                      · rw[hf q (.inr h)] at hq;simp at hq
                    unfold over
                    rw[List.append_assoc,List.getElem?_append_left (by simp;omega),List.getElem?_take,if_pos hql]
                    simp)
                  have aiv:G.arr k=some (old.length,te.size,cap):=har
                  have s2:=grow_step (n':=(old++cs).length) s1.wf aiv hml (fun _=>False)
                  refine cW.fM (jW _ _ hrun) ((s1.trans s2).mono (fun q _ hq=>by simpa using hq) (fun _ hq=>by simp at hq)) ?_ ?_
                  · intro k' ob hm
                    simp at hm
                    obtain⟨rfl,rfl⟩:=hm
                    have KU:(G.grow k' (G.mu k') ((old++cs).length,te.size,cap)).mu k'=G.mu k':=by simp[Gh.grow]
                    have hol:(over vs.toList old.length news.toList).length=vs.toList.length:=qb hov
                    refine⟨tC,hpos,cap,(over vs.toList old.length news.toList).toArray,ty,fr,by simp[Gh.grow],by rw[KU];exact fL (hw.lt _ tC) _ _ _,⟨?_,qQ.2⟩,by simpa [hol] using hsz, ?_, ?_, ?_⟩
                    · intro q hq;exact qQ.1 q (by simp[hol] at hq;simpa using hq)
                    · rw[List.size_toArray,hol]
                      have:=hov
                      rw[II.1] at this
                      simpa using this
                    · have e1:((over vs.toList old.length news.toList).toArray.toList).take (old++cs).length=vs.toList.take old.length++news.toList:=by
                        unfold over
                        rw[List.toList_toArray,List.take_append_of_le_length (by simp[II.1.symm];omega),List.take_of_length_le (by simp[II.1.symm];omega)]
                      rw[e1]
                      exact(hv.append II).mono (BH _ har hml)
                    · intro q hq
                      rw[KU]
                      refine hf q (hq.imp id (fun hh=>by omega))
                  · refine .ref k 0 (len+m) (old++cs).length te.size cap _ tC (by simp[Gh.grow]) (by rw[Nat.zero_add,hnl];exact Nat.le_refl _) ⟨_,_,rfl⟩ fun _=>⟨_,by simp;rfl,fun _=>by simp[Gh.grow]⟩
                ·
                  have adw:VR G (.ref k 0 len) (.slice b len cap):=hs
                  obtain⟨hlo,_,hfo⟩:=r5 (C:=C) (g:=g.2) hw.drew hH.drew (p:=.ref k 0 len) (size:=te.size) (m:=len) (cs:=old) adw (by simp[eP,hro])
                  obtain⟨xG,RB,zH⟩:=hfo len (Nat.le_refl _)
                  rw[List.take_of_length_le (by omega)] at zH
                  obtain⟨fe,hnc,rest,qR,hrun⟩:=nD (sLen:=len) (sCap:=cap) (b:=b) (r:=o.type) (olds:=xG) Ge hd Wj Ij hte hz hzl hb0 Ik Z5 RB (by omega) K0
                  have tV:=zH.append IJ
                  have hbl:(xG.toList++o8.toList).length=(len+m) *te.size:=by rw[tV.1,hnl]
                  have hvl:(xG.toList++o8.toList++rest.toList).length=fe*te.size:=by
                    have h2:fe*te.size=(len+m) *te.size+(fe - (len+m)) *te.size:=by rw[← Nat.add_mul];congr 1;omega
                    have h3:rest.toList.length=(fe - (len+m)) *te.size:=by simpa using qR
                    rw[List.length_append,h3,hbl,h2]
                  have hst:=Pg (w:=w.drew) (c':=fe) hw.drew har hml (.cells (xG++o8++rest) elem) (fun _=>False)
                  refine cW.fM (jW _ _ hrun) (((mz hw (fun _=>False) (fun _=>False)).trans hst).mono (fun q _ hq=>by simpa using hq) (fun _ hq=>by simp at hq)) ?_ ?_
                  · intro k' ob hm
                    simp at hm
                    obtain⟨rfl,rfl⟩:=hm
                    have KU:(G.grow k' w.drew.heap.size ((old++cs).length,te.size,fe)).mu k'=w.drew.heap.size:=by simp[Gh.grow]
                    have Ci:(xG++o8++rest).toList=xG.toList++o8.toList++rest.toList:=by simp
                    refine⟨tC,hpos,fe,xG++o8++rest,elem,(0,0),by simp[Gh.grow],by rw[KU];exact mh _ _,⟨fun q _ hq=>by omega,hg1.symm⟩,by rw[← Array.length_toList,Ci];exact hvl,by have h9:=tV.1;rw[← Array.length_toList,Ci];simp only[List.length_append] at h9 ⊢;omega, ?_, ?_⟩
                    · rw[Ci,List.take_append_of_le_length (by rw[tV.1];exact Nat.le_refl _),List.take_of_length_le (by rw[tV.1];exact Nat.le_refl _)]
                      exact tV.mono (BH _ har hml)
                    · intro q _
                      rw[KU]
                      exact hw.drew.Nh q
                  · refine .ref k 0 (len+m) (old++cs).length te.size fe _ tC (by simp[Gh.grow]) (by rw[Nat.zero_add,hnl];exact Nat.le_refl _) ⟨_,_,rfl⟩ fun _=>⟨_,by simp;rfl,fun _=>by simp[Gh.grow]⟩
              · simp at h
            · simp at h
          · simp at h
      · simp at h
  · simp at h
end
end Go.Abs

namespace Go.Abs
open Go
section
variable {C:dh}{f:FuncId}{nm:Nm}{H:Heap}{slots:List TV}{a:Act}{w:World}{G:Gh}{v:TV}
theorem Es {o:Oper}{t:TypeId}{pl pc:Operand}{l c:TV}{u:List (Nm×aQ)}(hw:WF G w)(hn:¬G.dom nm)(ho:o.op=.makeSlice t pl pc)(hl:VR G l (a.eval pl))(hc:VR G c (a.eval pc))
    (h:vP C.P nm t l c=some (v,u)):cW C.P nm o a w G v u:=by
  unfold vP at h
  cases ht:bf C.P t<;>cases hli:fh l<;>cases hci:fh c<;>simp only[ht,hli,hci,reduceCtorEq] at h
  rename_i ti ln cn
  obtain⟨kl,hlv⟩:=oP hl hli
  obtain⟨kc,hcv⟩:=oP hc hci
  obtain⟨_,_,hu,_⟩:=bC ht
  split at h
  · rename_i elem hd
    rw[hd] at hu
    have lT:=aK hu w
    cases hte:bf C.P elem<;>simp only[hte,reduceCtorEq] at h
    rename_i te
    obtain⟨i,hi,_,_,hbytes,_⟩:=bC hte
    have Rv:=nP hi w
    cases hz:te.zero<;>simp only[hz,reduceCtorEq] at h
    rename_i z
    split at h
    · rename_i hg
      obtain⟨h1,h2,h3,h4,h5,h6⟩:=hg
      simp at h
      obtain⟨rfl,rfl⟩:=h
      obtain⟨zv,hz1,QS⟩:=fI hte hz w G
      have hr:=IF QS (rY hte hz) cn te.size h5 h4
      have hsz:zv.cells.size=te.size:=by have:=(QS.cells (rY hte hz)).1;simp at this;omega
      have hwrap:∀n:Nat,n≤eu→IntKind.i64.wrap (n:Int)=n:=by
        intro n hn
        unfold eu at hn
        exact Go.IntWalk.i64_in _ (by omega)
      have hcb:((cn:Int) * (te.bytes:Int):Int)≤70368744177664:=by
        have:((cn*te.bytes:Nat):Int)≤70368744177664:=by unfold eu at h2;omega
        simpa using this
      let cells:=((Array.range (cn*te.size)).map (zv.cells[· % zv.cells.size]!))
      have hrun:(execOp a.eval o).run C.P w=.ok (.value (.slice (some ⟨w.heap.size,0,none⟩) ln cn)) (World.dO w (.cells cells elem)):=by
        have hb:¬((te.bytes:Int) * (cn:Int)>281474976710656):=by rw[Int.mul_comm];omega
        have hroom:¬(cn*te.bytes>140737488355328):=by unfold eu at h2;omega
        have e1:IntKind.i64.wrap (ln:Int)=ln:=hwrap ln (by omega)
        have e2:IntKind.i64.wrap (cn:Int)=cn:=hwrap cn h3
        have hb':¬(281474976710656<(i.bytes:Int) * (cn:Int)):=by rw[hbytes];exact hb
        have hc1:¬((cn:Int)<0):=by omega
        have bE:¬((ln:Int)<0):=by omega
        have bF:¬(cn<ln):=by omega
        have RD:¬(cn*i.bytes>2 ^ 47):=by rw[hbytes];exact hroom
        simp only[execOp,ho,hlv,hcv,Instr.makeSlice]
        by_cases h0:cn*te.size=0
        · have e:((Array.range (cn*te.size)).map fun _=>(default:Value))=cells:=by simp only[cells];rw[h0];simp
          simp[lT,asInt,asIntOf,Rv,e1,e2,dX hte w,iX,askRoom,roomBytes,hb',hc1,bE,bF,RD,h0]
          rw[← e,h0]
          rfl
        · simp[lT,asInt,asIntOf,Rv,e1,e2,dX hte w,iX,askRoom,roomBytes,hb',hc1,bE,bF,RD,h0,hz1]
          rfl
      have Bk:=BG (nm:=nm) (b:=te.agg) (cap:=cn) (cs:=qM ln z.cells) hw hn h4 (vs:=cells.toList) (by
        have hlen:(qM ln z.cells).length=ln*te.size:=by rw[gA,h5]
        refine⟨?_,fun j x y hx hy=> ?_⟩
        · have:=hr.1
          rw[List.length_take,this,gA,gA,h5]
          have:ln*te.size≤cn*te.size:=Nat.mul_le_mul_right _ h1
          omega
        · have hjl:j<ln*te.size:=by have:=(List.getElem?_eq_some_iff.1 hx).1;omega
          have hjc:j<cn*te.size:=Nat.lt_of_lt_of_le hjl (Nat.mul_le_mul_right _ h1)
          rw[List.getElem?_take,if_pos (by omega)] at hy
          refine hr.2 j x y ?_ hy
          rw[Cf (by rw[h5];exact hjc),← Cf (n:=ln) (by rw[h5];exact hjl)]
          exact hx) (by have:=hr.1;rw[this,gA,h5]) (by
            have:=hr.1
            rw[this,gA,gA]
            exact Nat.mul_le_mul_right _ h1) elem
      rw[Array.toArray_toList] at Bk
      refine cW.fM hrun (lq hw hn _ (some ((qM ln z.cells).length,te.size,cn)) _) ?_ ?_
      · intro k ob hm
        simp at hm
        obtain⟨rfl,rfl⟩:=hm
        exact Bk
      · exact xD (by rw[gA,h5]) hn
    · simp at h
  · simp at h
theorem RE {o:Oper}{args:Array Operand}{ats:Array TypeId}{dt xt:TypeId}{d x:TV}{u:List (Nm×aQ)}(hw:WF G w)(hH:HR G w H)(ho:o.op=.call {callee:=.builtin .copy,args,argTypes:=ats})
    (hat:ats.toList=[dt,xt])(hargs:cK G [d,x] (args.map a.eval).toList)(h:Q7 C.P H dt d x=some (v,u)):cW C.P nm o a w G v u:=by
  have Rw:ats= #[dt,xt]:=by rw[← Array.toArray_toList (xs:=ats),hat]
  obtain⟨dv,rest,Rx,hd',qR⟩:=hargs.iN
  obtain⟨xv,Ry,he2,hx,Cm⟩:=qR.iN
  have hr2:Ry=[]:=by have:=Cm.1;simpa using this
  subst hr2
  subst he2
  have Z3:args.map a.eval= #[dv,xv]:=by rw[← Array.toArray_toList (xs:=args.map a.eval),Rx]
  have jW:∀r w',(Builtin.copy_ #[dt,xt] o.type #[dv,xv]).run C.P w=.ok r w'→(execOp a.eval o).run C.P w=.ok (.value r) w':=fun r w' hr=>by
    rw[← Rw,← Z3] at hr
    simp[execOp,ho,resolve,invoke,builtin,hr]
  clear Cm qR Rx Z3 hat
  unfold Q7 at h
  cases Ge:bf C.P dt<;>simp only[Ge,reduceCtorEq] at h
  rename_i ti
  obtain⟨_,_,hu,_⟩:=bC Ge
  split at h
  · rename_i elem hd
    rw[hd] at hu
    have lT:=aK hu w
    cases hte:bf C.P elem<;>simp only[hte,reduceCtorEq] at h
    rename_i te
    have hsz:=dX hte w
    split at h
    · rename_i r hsrc
      simp at h
      obtain⟨rfl,rfl⟩:=h
      obtain⟨m,cs⟩:=r
      obtain⟨Ik,hcl,Z4⟩:=r5 (C:=C) hw hH hx hsrc
      obtain⟨us,Er,_⟩:=Z4 0 (by omega)
      cases hd'
      refine cW.quiet hw (jW (.int .i64 0) w ?_) (.t _ _ (.int _ _))
      simp[Builtin.copy_,lT,Ik,hsz,Er,goInt]
    · rename_i k off len m cs hsrc
      split at h
      · rename_i g e old hro
        split at h<;>simp at h
        rename_i hc
        obtain⟨hes,hlf⟩:=hc
        subst hes
        obtain⟨rfl,rfl⟩:=h
        obtain⟨Ik,hcl,Z4⟩:=r5 (C:=C) hw hH hx hsrc
        obtain⟨us,Er,II⟩:=Z4 (min m len) (Nat.min_le_left _ _)
        obtain⟨hk,hpos,htip⟩:=oV hro
        obtain⟨cap,vs,ty,fr,b,tC,har,Ru,qQ,aiw,hlc,hv,hf,rfl,hcap,hb⟩:=vW hH hro hd'
        have hml:(off+len) *te.size=off*te.size+len*te.size:=Nat.add_mul _ _ _
        have hmin:min m len*te.size≤len*te.size:=Nat.mul_le_mul_right _ (Nat.min_le_right _ _)
        have akX:min m len*te.size≤cs.length:=by rw[hcl];exact Nat.mul_le_mul_right _ (Nat.min_le_left _ _)
        have hul:us.toList.length=min m len*te.size:=by rw[II.1,List.length_take];omega
        have hov:off*te.size+us.toList.length≤vs.toList.length:=by rw[hul];simp;omega
        have RA:=Ca II (List.all_eq_true.2 fun y hy=>List.all_eq_true.1 hlf y (List.mem_of_mem_take hy))
        have hst:=oL (P:=C.P) (b:=G.mu k) (o:=off*te.size) (ty:=ty) (fr:=fr) us.toList w 0 vs.toList RA (by simpa using Ru) (by simpa using qQ.1) (by simpa using hov)
        simp only[Nat.add_zero] at hst
        have s1:=mq (vs:=over vs.toList (off*te.size) us.toList) hw tC Ru (fun q ⟨uu,hq⟩=>by rw[hf q (.inl rfl)] at hq;simp at hq)
        have hol:(over vs.toList (off*te.size) us.toList).length=vs.toList.length:=qb hov
        have hrun:(Builtin.copy_ #[dt,xt] o.type #[.slice b len (cap - off),xv]).run C.P w=.ok (.int .i64 ((min m len:Nat):Int)) (World.cF w (G.mu k) (over vs.toList (off*te.size) us.toList).toArray ty fr):=by
          have hmn:Nat.min m len=min m len:=rfl
          have aix:(Builtin.firstCells te.size (Nat.min m len) xv).run C.P w=.ok us w:=Er
          cases b with
          | none=>
            have h0:off=cap:=by
              rcases Nat.lt_or_ge off cap with h|h
              · have:=hb h;simp at this
              · omega
            have Ng:len=0:=by omega
            subst Ng
            have Ep:us.toList=[]:=by apply List.length_eq_zero_iff.1;rw[hul];simp
            rw[Ep,xB,Array.toArray_toList,oJ Ru]
            have hf0:(Builtin.firstCells te.size 0 xv).run C.P w=.ok us w:=by simpa using Er
            simp[Builtin.copy_,lT,Ik,hsz,hf0,goInt]
          | some ad=>
            by_cases hlt:off<cap
            · have:=hb hlt
              simp at this
              subst this
              simp[Builtin.copy_,lT,Ik,hsz,aix,hst,goInt]
            · have Ng:len=0:=by omega
              subst Ng
              have Ep:us.toList=[]:=by apply List.length_eq_zero_iff.1;rw[hul];simp
              have aiy:us= #[]:=by rw[← Array.toArray_toList (xs:=us),Ep]
              rw[Ep,xB,Array.toArray_toList,oJ Ru]
              have hf0:(Builtin.firstCells te.size 0 xv).run C.P w=.ok #[] w:=by rw[← aiy];simpa using Er
              simp[Builtin.copy_,lT,Ik,hsz,hf0,storeCells,goInt]
        refine cW.fM (jW _ _ hrun) (s1.mono (fun x _ e=>by simp[e]) (fun _ e=>e.elim)) ?_ (.t _ _ (.int _ _))
        intro k' ob hm
        simp at hm
        obtain⟨rfl,rfl⟩:=hm
        have htl:(cs.take (min m len*te.size)).length=min m len*te.size:=by rw[List.length_take];omega
        have Rq:(dM old (off*te.size) (cs.take (min m len*te.size))).length=old.length:=nB (by rw[htl];omega)
        refine⟨tC,hpos,cap,(over vs.toList (off*te.size) us.toList).toArray,ty,fr,by rw[Rq];exact har,fL (hw.lt _ tC) _ _ _,⟨?_,qQ.2⟩,by simpa [hol] using aiw,by rw[Rq,List.size_toArray,hol];simpa using hlc, ?_,fun o _=>hf o (.inl rfl)⟩
        · intro o ho'
          exact qQ.1 o (by simp[hol] at ho';simpa using ho')
        · rw[Rq,List.toList_toArray,EX (by rw[hul];omega) (by simpa using hlc)]
          exact hv.dM II
      · simp at h
    · simp at h
  · simp at h
end
end Go.Abs

namespace Go.Abs
open Go
section
variable {C:dh}{f:FuncId}{nm:Nm}{H:Heap}{slots:List TV}{a:Act}{w:World}{G:Gh}{v:TV}
theorem Gf:∀{cs:List TV} {bs:List UInt8} {us:List Value},bytesOf cs=some bs→cK G cs us→∃ns:List Int,us=ns.map (Value.int .u8)∧bs=ns.map fun n=>UInt8.ofNat n.toNat:=by
  intro cs
  induction cs with
  |nil=>intro bs us h hv;simp[bytesOf] at h;subst h;have:=hv.1;simp at this;subst this;exact⟨[],rfl,rfl⟩
  | cons c r ih=>
    intro bs us h hv
    obtain⟨u,us',rfl,h1,h2⟩:=hv.iN
    unfold bytesOf at h
    split at h
    · rename_i heq;simp at heq
    · rename_i n r' heq
      simp at heq
      obtain⟨rfl,rfl⟩:=heq
      cases hb:bytesOf r with
      |none=>rw[hb] at h;simp at h
      | some bs'=>
        rw[hb] at h
        simp at h
        subst h
        obtain⟨ns,e1,e2⟩:=ih hb h2
        have:=h1.int
        subst this
        exact⟨n::ns,by simp[e1],by simp[e2]⟩
    · simp at h
theorem foldl_push (ns:List Int):∀(s:ByteArray),(ns.foldl (fun(r:ByteArray) (n:Int)=>r.push (UInt8.ofNat n.toNat)) s).data.toList=s.data.toList++ns.map fun n=>UInt8.ofNat n.toNat:=by
 induction ns with
 |nil=>intro s;simp
 |cons n r ih=>
  intro s
  simp only[List.foldl_cons]
  rw[ih]
  simp[ByteArray.push]
abbrev RF (b:UInt8):Value:=Value.int .u8 (b.toNat:Int)
def bytesRow (s:List UInt8)(cap:Nat):List Value:=s.map RF++List.replicate (cap - s.length) (Value.int .u8 0)
theorem s9 {s:List UInt8}{cap:Nat}(h:s.length≤cap):(bytesRow s cap).length=cap:=by
 unfold bytesRow;simp;omega
theorem Gg (F:tL)(s:List UInt8):Bh F (s.map fun b=>Tree.int .u8 (b.toNat:Int)) (s.map RF):=by
 refine⟨by simp,fun j c u h1 h2=> ?_⟩
 rw[List.getElem?_map] at h1 h2
 cases hj:s[j]? with
 |none=>rw[hj] at h1;simp at h1
 |some b=>rw[hj] at h1 h2;simp at h1 h2;subst h1;subst h2;exact .int _ _
theorem xH (s:List UInt8)(elem:TypeId):
    ∃ cap,s.length≤cap∧(Conv.stringToBytes elem ⟨s.toArray⟩).run C.P w=.ok (.slice (some ⟨w.heap.size,0,none⟩) s.length cap)
      (World.dO w.drew (.cells (bytesRow s cap).toArray elem (cap,cap+1))):=by
  refine⟨(Question.appendCap s.length 0 elem).cut (w.tape w.drawn (Question.appendCap s.length 0 elem)), ?_, ?_⟩
  · show s.length≤s.length+_
    omega
  · have hq:(Question.appendCap s.length 0 elem).forced=false:=rfl
    have hsz:(ByteArray.mk s.toArray).size=s.length:=by show s.toArray.size=_;simp
    have hcap:s.length≤(Question.appendCap s.length 0 elem).cut (w.tape w.drawn (Question.appendCap s.length 0 elem)):=by
      show s.length≤s.length+_
      omega
    generalize hc:(Question.appendCap s.length 0 elem).cut (w.tape w.drawn (Question.appendCap s.length 0 elem))=cap at hcap ⊢
    simp only[Conv.stringToBytes,hsz,markStringish]
    simp only[Sem.run_bind]
    have h1:(choose (Question.appendCap s.length 0 elem)).run C.P w=.ok cap w.drew:=by
      rw[← hc]
      unfold choose
      simp only[Sem.run,hq]
      rfl
    rw[h1]
    simp only[Result.andThen_ok,iX]
    have Ci:((ByteArray.mk s.toArray).data.map fun b=>Value.int .u8 (b.toNat:Int))++Array.replicate (cap - s.length) (Value.int .u8 0)=(bytesRow s cap).toArray:=by
      simp[bytesRow]
    rw[Ci]
    have hvl:=s9 hcap
    generalize bytesRow s cap=vs at hvl ⊢
    have hnew:({w.drew with heap:=w.drew.heap.push (.cells vs.toArray elem)}:World).heap[w.drew.heap.size]?=some (.cells vs.toArray elem):=mh w.drew _
    have Z6:({w.drew with heap:=w.drew.heap.push (.cells vs.toArray elem)}:World).shape? w.drew.heap.size=some (elem,vs.length):=by
      unfold World.shape?
      rw[hnew]
      simp
    simp only[Sem.run_bind,shape,Sem.run,Z6,Result.andThen_ok]
    have hfr:({w.drew with heap:=w.drew.heap.push (.cells vs.toArray elem)}:World).freeze {block:=w.drew.heap.size,off:=vs.length} 1=World.dO w.drew (.cells vs.toArray elem (cap,cap+1)):=by
      unfold World.freeze World.dO
      rw[if_neg (by omega)]
      congr 1
      apply Array.ext_getElem?
      intro i
      rw[Array.getElem?_modify]
      by_cases e:w.drew.heap.size=i
      · subst e
        rw[if_pos rfl,hnew,Array.getElem?_push,if_pos rfl]
        simp[hvl]
      · rw[if_neg e]
        show(w.drew.heap.push _)[i]?=_
        rw[Array.getElem?_push,Array.getElem?_push]
        rw[if_neg (fun h=>e h.symm),if_neg (fun h=>e h.symm)]
    simp only[freeze,Sem.run,hfr]
    rfl
theorem IK {o:Oper}{alS:Bool}{src dst:TypeId}{px:Operand}{p:TV}{u:List (Nm×aQ)}(hw:WF G w)(hH:HR G w H)(hn:¬G.dom nm)(ho:o.op=.convert src dst px)(hp:VR G p (a.eval px))
    (h:qN C.P alS nm H src dst p=some (v,u)):cW C.P nm o a w G v u:=by
  have jW:∀r w',(convert src dst (a.eval px)).run C.P w=.ok r w'→(execOp a.eval o).run C.P w=.ok (.value r) w':=by
    intro r w' hr
    simp[execOp,ho,hr]
  unfold qN at h
  cases hs:bf C.P src<;>cases hd:bf C.P dst<;>simp only[hs,hd,reduceCtorEq] at h
  rename_i ts td
  obtain⟨_,_,Ep,_⟩:=bC hs
  obtain⟨_,_,Z7,_⟩:=bC hd
  split at h
  · rename_i s h1 h2
    simp at h
    obtain⟨rfl,rfl⟩:=h
    rw[h1] at Ep;rw[h2] at Z7
    have hx:=hp.str
    have us:=aK Ep w
    have ud:=aK Z7 w
    refine cW.quiet hw (jW (a.eval px) w ?_) hp
    rw[hx]
    simp[convert,us,ud]
  · rename_i e s h1 h2
    rw[h1] at Ep;rw[h2] at Z7
    have hx:=hp.str
    have us:=aK Ep w
    have ud:=aK Z7 w
    cases he:bf C.P e<;>simp only[he,reduceCtorEq] at h
    rename_i te
    obtain⟨_,_,hue,_⟩:=bC he
    split at h
    · rename_i hde
      rw[hde] at hue
      have ue:=aK hue w
      obtain⟨cap,hcap,hrun⟩:=xH (C:=C) (w:=w) s e
      have RG:(convert src dst (a.eval px)).run C.P w=.ok (.slice (some ⟨w.heap.size,0,none⟩) s.length cap) (World.dO w.drew (.cells (bytesRow s cap).toArray e (cap,cap+1))):=by
        rw[hx]
        simp[convert,us,ud,ue,hrun]
      have KZ:=Gg G.F s
      split at h
      · simp at h
        obtain⟨rfl,rfl⟩:=h
        have hpre:(List.take (s.map fun b=>TV.t (Tree.int .u8 (b.toNat:Int))).length (bytesRow s cap))=s.map RF:=by
          unfold bytesRow
          rw[List.take_append_of_le_length (by simp),List.take_of_length_le (by simp)]
        have hbl:=s9 hcap
        have Bk:=ID (nm:=nm) (b:=false) (bR:=1) (cap:=cap) (w:=w.drew) hw.drew hn (by omega) (cs:=s.map fun b=>TV.t (Tree.int .u8 (b.toNat:Int))) (vs:=bytesRow s cap) (by rw[hpre];have:=KZ.Iv;simpa [List.map_map,Function.comp_def] using this) (by omega) (by simp;omega) e (cap,cap+1) (fun o ho hh=>by rw[List.size_toArray,hbl] at ho;omega)
        refine cW.fM (jW _ _ RG) (((mz hw (fun _=>False) (fun _=>False)).trans (lq (w:=w.drew) hw.drew hn _ (some ((s.map fun b=>TV.t (Tree.int .u8 (b.toNat:Int))).length,1,cap)) (fun _=>False))).mono (fun _ _ hh=>by simp at hh) (fun _ hh=>by simpa using hh)) ?_ ?_
        · intro k ob hm
          simp at hm
          obtain⟨rfl,rfl⟩:=hm
          simpa using Bk
        · exact xD (w:=w.drew) (nm:=nm) (bR:=1) (cap:=cap) (len:=s.length) (by simp) hn
      · simp at h
        obtain⟨rfl,rfl⟩:=h
        have hch:chunk false 1 s.length (s.map fun b=>Tree.int .u8 (b.toNat:Int))=some (s.map fun b=>Tree.int .u8 (b.toNat:Int)):=by
          clear hx hp hrun RG KZ hcap jW
          induction s with
          |nil=>rfl
          |cons b r ih=>simp[chunk,ih,Tree.leaf]
        have hr:=KY (w:=w.drew) hw.drew KZ hch cap hcap (bytesRow s cap) (fun j u hj=>by
          unfold bytesRow;rw[List.getElem?_append_left (by exact(List.getElem?_eq_some_iff.1 hj).1)];exact hj)
        refine cW.fM (jW _ _ RG) (((mz hw (fun _=>False) (fun _=>False)).trans (Cg (w:=w.drew) hw.drew _ e (fun _=>False) (fun _=>False) (cap,cap+1))).mono (fun _ _ hh=>by simp at hh) (fun _ hh=>by simp at hh)) (fun _ _ hm=>by simp at hm) (.t _ _ hr)
    · simp at h
  · rename_i e h1 h2
    rw[h1] at Ep;rw[h2] at Z7
    have us:=aK Ep w
    have ud:=aK Z7 w
    cases he:bf C.P e<;>simp only[he,reduceCtorEq] at h
    rename_i te
    obtain⟨_,_,hue,_⟩:=bC he
    split at h
    · rename_i m cs hde hsrc
      rw[hde] at hue
      have ue:=aK hue w
      cases hb:bytesOf cs<;>simp only[hb,reduceCtorEq] at h
      rename_i bs
      obtain⟨Ik,hcl,Z4⟩:=r5 (C:=C) hw hH hp hsrc
      obtain⟨us',Er,II⟩:=Z4 m (Nat.le_refl _)
      rw[List.take_of_length_le (by omega)] at II
      obtain⟨ns,e1,e2⟩:=Gf hb II
      have Il:us'=(ns.map (Value.int .u8)).toArray:=by rw[← Array.toArray_toList (xs:=us'),e1]
      split at h
      · simp at h
      · rename_i adx
        simp at h
        obtain⟨rfl,rfl⟩:=h
        have vX:∃b l c,a.eval px=.slice b l c:=by
          unfold eP at hsrc
          split at hsrc
          · generalize a.eval px=xv at hp;cases hp;exact⟨_,_,_,rfl⟩
          · have:=hp.tree;generalize a.eval px=xv at this;cases this<;>exact⟨_,_,_,rfl⟩
          · generalize a.eval px=xv at hp;cases hp;exact⟨_,_,_,rfl⟩
          · rename_i k off len
            split at hsrc
            · rename_i hro
              obtain⟨cap,vs,ty,fr,b,_,_,_,_,_,_,_,_,hx,_,_⟩:=vW hH hro hp
              exact⟨_,_,_,hx⟩
            · simp at hsrc
          · exact absurd rfl (adx _)
          · simp at hsrc
        obtain⟨b,l,c,hx⟩:=vX
        rw[hx] at Ik Er
        have hlm:l=m:=by simp[Builtin.lenOf] at Ik;exact Ik
        subst hlm
        have hout:(Conv.bytesToString (.slice b l c)).run C.P w=.ok (.string ⟨bs.toArray⟩) w:=by
          cases b with
          | none=>
            simp[Builtin.firstCells] at Er
            subst Er
            have:ns=[]:=by
              have:=congrArg Array.size Il
              simp at this
              exact List.length_eq_zero_iff.1 this.symm
            subst this
            subst e2
            rfl
          | some ad=>
            simp only[Builtin.firstCells,Nat.mul_one] at Er
            rw[Il] at Er
            rw[run_bytesToString w ad l c ns Er]
            congr 2
            apply Go.WideShapes.bytes_inj
            rw[foldl_push,e2]
            simp
        refine cW.quiet hw (jW _ w ?_) (.t _ _ (.str bs))
        rw[hx,run_convert_bytes_string w src dst e b l c Ep hue Z7]
        exact hout
    · simp at h
  · rename_i k1 k2 k n h1 h2
    cases hr:jM C.P (convert src dst (.int k n))<;>simp[hr] at h
    rename_i r
    obtain⟨v',h3,rfl,rfl⟩:=h
    have hx:=hp.int
    refine cW.quiet hw (jW r w ?_) (tP h3)
    rw[hx]
    exact mV hr w
  · simp at h
theorem r6 {o:Oper}{b:Builtin}{args:Array Operand}{ats:Array TypeId}{w':World}{r:Value}(ho:o.op=.call {callee:=.builtin b,args,argTypes:=ats})
  (h:∀cs,(builtin b ats o.type cs (args.map a.eval)).run C.P w=.ok (.value r) w'):(execOp a.eval o).run C.P w=.ok (.value r) w':=by
 simp only[execOp,ho,resolve]
 simp[invoke,h]
theorem AG {k:IntKind}{g:Int→Int→Int}{s:Value→Value→Sem Value}(hg:∀x y k',s (.int k x) (.int k' y)=pure (.int k (g x y))):∀(ys:List Int) (x:Int),((ys.map (Value.int k)).foldlM s (.int k x)).run C.P w=.ok (.int k (ys.foldl g x)) w:=by
 intro ys
 induction ys with
 |nil=>intro x;rfl
 |cons y r ih=>intro x;simp only[List.map_cons,List.foldlM_cons,hg,pure_bind,List.foldl_cons];exact ih _
theorem Bl {k:IntKind}:∀{xs:List TV} {ys:List Int} {vs:List Value},iU.jy k xs=some ys→cK G xs vs→vs=ys.map (Value.int k):=by
  intro xs
  induction xs with
  |nil=>intro ys vs h hv;simp[iU.jy] at h;subst h;have:=hv.1;simpa using this
  | cons x r ih=>
    intro ys vs h hv
    obtain⟨u,us,rfl,h1,h2⟩:=hv.iN
    unfold iU.jy at h
    split at h
    · rename_i heq;simp at heq
    · rename_i k' y r' heq
      simp at heq
      obtain⟨rfl,rfl⟩:=heq
      cases hm:iU.jy k r with
      |none=>rw[hm] at h;simp at h
      | some zs=>
        rw[hm] at h
        simp at h
        obtain⟨rfl,rfl⟩:=h
        rw[ih hm h2,h1.int];rfl
    · simp at h
theorem AH {mx:Bool}{args:List TV}{vs:Array Value}{ats:Array TypeId}{t:TypeId}(hv:cK G args vs.toList)(h:iU mx args=some v)(w:World):
    ∃r,(if mx then Builtin.max_ ats t vs else Builtin.min_ ats t vs).run C.P w=.ok r w∧VR G v r:=by
  unfold iU at h
  split at h
  · rename_i k x r
    cases hm:iU.jy k r<;>simp[hm] at h
    rename_i ys
    subst h
    obtain⟨u,us,he,h1,h2⟩:=hv.iN
    have e1:=h1.int
    have e2:=Bl hm h2
    refine⟨_, ?_,.t _ _ (.int _ _)⟩
    cases mx
    · simp only[Bool.false_eq_true,if_false,Builtin.min_,he,e1,e2]
      rw[AG (g:=fun x y=>if y<x then y else x) (fun x y k'=>rfl)]
    · simp only[if_true,Builtin.max_,he,e1,e2]
      rw[AG (g:=fun x y=>if y>x then y else x) (fun x y k'=>rfl)]
  · simp at h
end
end Go.Abs

namespace Go.Abs
open Go
section
variable {C:dh}{f:FuncId}{nm:Nm}{H:Heap}{slots:List TV}{a:Act}{w:World}{G:Gh}{v:TV}
def FR (G:Gh)(es:List (TV×TV×Nat))(bz:List MapEntry)(u:Value)(i:Nat):Option (Nat×TV×Nat)→Option (Nat×Value)→Prop
 |none,none=>True
 |some (j,v,b),some (j',x)=>j=j'∧∃m e k',j=i+m∧bz[m]?=some e∧es[m]?=some (k',v,b)∧x=e.val∧VR G v e.val∧e.born=b∧Instr.sameBits 10000 e.key u=true
 |_,_=>False
theorem FR.succ {es:List (TV×TV×Nat)}{bz:List MapEntry}{u:Value}{i:Nat}{p:TV×TV×Nat}{e:MapEntry}{r:Option (Nat×TV×Nat)}{r':Option (Nat×Value)}(h:FR G es bz u (i+1) r r'):FR G (p::es) (e::bz) u i r r':=by
 cases r<;>cases r'<;>try exact h
 rename_i x y
 obtain⟨j,v,b⟩:=x
 obtain⟨j',z⟩:=y
 obtain⟨h1,m,e',k',h2,h3,h4,h5⟩:=h
 exact⟨h1,m+1,e',k',by omega,by simpa using h3,by simpa using h4,h5⟩
theorem r7 {kt:TypeId}{d:TypeDesc}{k k':TV}{u u':Value}{b:Bool}(hk:j4 k=some u)(hk':VR G k' u')(h:Is C.P kt d k k'=some b):
    (∀fs,d≠ .struct fs)∧Instr.sameNow d u u'=some b∨(∃fs,d=.struct fs)∧(∀w,(Op.equal kt u u').run C.P w=.ok b w)∧∃x,u=.agg x:=by
  unfold Is at h
  rw[hk] at h
  cases h2:j4 k'<;>simp only[h2,reduceCtorEq] at h
  have:=k9 h2 hk'
  subst this
  split at h
  · rename_i fs
    split at h
    · exact .inr ⟨⟨_,rfl⟩,fun w=>mV h w,_,rfl⟩
    · simp at h
  · rename_i Il
    exact .inl ⟨fun fs e=>Il fs e,h⟩
theorem Ph {kt:TypeId}{d:TypeDesc}{k:TV}{u:Value}(hk:j4 k=some u)(hd:∀fs,d≠ .struct fs):∀{es:List (TV×TV×Nat)} {bz:List MapEntry} {i:Nat} {r:Option (Nat×TV×Nat)},MR G es bz→j5 C.P kt d k es i=some r→
    ∃r',Instr.findNow d u bz i=some r'∧FR G es bz u i r r':=by
  intro es
  induction es with
  | nil=>
    intro bz i r hm h
    cases bz with
    |nil=>simp[j5] at h;subst h;exact⟨none,rfl,trivial⟩
    |cons=>simp[MR] at hm
  | cons p rs ih=>
    intro bz i r hm h
    obtain⟨k',v,b⟩:=p
    cases bz with
    |nil=>simp[MR] at hm
    | cons e es'=>
      simp only[MR] at hm
      obtain⟨h1,h2,h3,h4⟩:=hm
      simp only[j5] at h
      split at h
      · rename_i hq
        rcases r7 hk h1 hq with ⟨_,hs⟩|⟨⟨fs,e⟩,_⟩
        · rw[hk] at h
          cases h5:j4 k'<;>simp only[h5,reduceCtorEq] at h
          have:=k9 h5 h1
          subst this
          split at h<;>simp at h
          rename_i Z8
          subst h
          refine⟨some (i,e.val),by simp[Instr.findNow,hs],rfl,0,e,k',rfl,rfl,rfl,rfl,h2,h3,Z8⟩
        · exact absurd e (hd fs)
      · rename_i hq
        rcases r7 hk h1 hq with ⟨_,hs⟩|⟨⟨fs,e⟩,_⟩
        · obtain⟨r',h6,h7⟩:=ih h4 h
          exact⟨r',by simp[Instr.findNow,hs,h6],h7.succ⟩
        · exact absurd e (hd fs)
      · simp at h
theorem Pj {kt:TypeId}{fs:Array Field}{k:TV}{u:Value}(hk:j4 k=some u)(w:World):∀{es:List (TV×TV×Nat)} {bz:List MapEntry} {i:Nat} {r:Option (Nat×TV×Nat)},MR G es bz→j5 C.P kt (.struct fs) k es i=some r→
    ∃r',(Instr.findAsking kt u bz i).run C.P w=.ok r' w∧FR G es bz u i r r':=by
  intro es
  induction es with
  | nil=>
    intro bz i r hm h
    cases bz with
    |nil=>simp[j5] at h;subst h;exact⟨none,rfl,trivial⟩
    |cons=>simp[MR] at hm
  | cons p rs ih=>
    intro bz i r hm h
    obtain⟨k',v,b⟩:=p
    cases bz with
    |nil=>simp[MR] at hm
    | cons e es'=>
      simp only[MR] at hm
      obtain⟨h1,h2,h3,h4⟩:=hm
      simp only[j5] at h
      split at h
      · rename_i hq
        rcases r7 hk h1 hq with ⟨hn,_⟩|⟨_,hs,_⟩
        · exact absurd rfl (hn fs)
        · rw[hk] at h
          cases h5:j4 k'<;>simp only[h5,reduceCtorEq] at h
          have:=k9 h5 h1
          subst this
          split at h<;>simp at h
          rename_i Z8
          subst h
          refine⟨some (i,e.val),by simp[Instr.findAsking,hs],rfl,0,e,k',rfl,rfl,rfl,rfl,h2,h3,Z8⟩
      · rename_i hq
        rcases r7 hk h1 hq with ⟨hn,_⟩|⟨_,hs,_⟩
        · exact absurd rfl (hn fs)
        · obtain⟨r',h6,h7⟩:=ih h4 h
          exact⟨r',by simp[Instr.findAsking,hs,h6],h7.succ⟩
      · simp at h
theorem qT {kt:TypeId}{tk:TI}{k:TV}{u:Value}(ht:bf C.P kt=some tk)(hk:j4 k=some u){es:List (TV×TV×Nat)}{bz:List MapEntry}{r:Option (Nat×TV×Nat)}(hm:MR G es bz)(h:j5 C.P kt tk.desc k es 0=some r)(w:World):
    ∃r',(Instr.findKey kt u bz).run C.P w=.ok r' w∧FR G es bz u 0 r r':=by
  obtain⟨_,_,hu,_⟩:=bC ht
  have lT:=aK hu w
  by_cases hd:∃fs,tk.desc=.struct fs
  · obtain⟨fs,hd⟩:=hd
    rw[hd] at h lT
    cases bz with
    | nil=>
      cases es with
      |nil=>simp[j5] at h;subst h;exact⟨none,by simp[Instr.findKey,lT,Instr.findNow],trivial⟩
      |cons=>simp[MR] at hm
    | cons e es'=>
      obtain⟨r',h1,h2⟩:=Pj hk w hm h
      refine⟨r', ?_,h2⟩
      have hnone:Instr.findNow (.struct fs) u (e::es') 0=none:=by
        simp[Instr.findNow,Instr.sameNow]
      simp[Instr.findKey,lT,hnone,h1]
  · have hd':∀fs,tk.desc≠ .struct fs:=fun fs e=>hd ⟨fs,e⟩
    obtain⟨r',h1,h2⟩:=Ph hk hd' hm h
    exact⟨r',by simp[Instr.findKey,lT,h1],h2⟩
theorem zS {empty:Bool}{kt:TypeId}{k:TV}(h:s8 C.P empty kt k=true)(w:World):∃u,j4 k=some u∧(Instr.checkKey empty 10000 kt u).run C.P w=.ok () w:=by
  unfold s8 at h
  split at h
  · rename_i u hu
    obtain⟨x,hx⟩:=Option.isSome_iff_exists.1 h
    exact⟨u,hu,mV hx w⟩
  · simp at h
theorem MR.length {es:List (TV×TV×Nat)}{bz:List MapEntry}(h:MR G es bz):es.length=bz.length:=by
 induction es generalizing bz with
 |nil=>cases bz<;>simp_all [MR]
 |cons p r ih=>cases bz<;>simp[MR] at h ⊢;exact ih h.2.2.2
theorem jB {r:Nat}{bz:Array MapEntry}{c:Nat}(h:w.heap[r]?=some (.map bz c)):(getObj r).run C.P w=.ok (.map bz c) w:=by
 simp[getObj,Sem.run,h]
theorem o9 {r:Nat}{bz:Array MapEntry}{c:Nat}(h:w.heap[r]?=some (.map bz c))(o:Obj):(setObj r o).run C.P w=.ok () {w with heap:=w.heap.setIfInBounds r o}:=by
 simp[setObj,Sem.run,h]
theorem IL {t:TypeId}{x k:TV}{xv kv:Value}{ok:Bool}(hH:HR G w H)(hx:VR G x xv)(hk:VR G k kv)(h:nO C.P H t x k ok=some v):∃r,(Instr.lookup t xv kv ok).run C.P w=.ok r w∧VR G v r:=by
  unfold nO at h
  cases ht:bf C.P t<;>simp only[ht,reduceCtorEq] at h
  rename_i ti
  obtain⟨_,_,hu,_⟩:=bC ht
  split at h
  · rename_i kt et hd
    rw[hd] at hu
    have lT:=aK hu w
    split at h
    · rename_i tk te es c QU hte hes
      split at h
      · rename_i Pk
        have RH:∀bz:Array MapEntry,MR G es bz.toList→es.isEmpty=bz.isEmpty:=by
          intro bz hmr
          have hl:=hmr.length
          simp only[Array.length_toList] at hl
          rw[Array.isEmpty,← hl]
          cases es<;>simp
        obtain⟨u,Wk,Pm⟩:=zS Pk w
        have:=k9 Wk hk
        subst this
        have core:∀bz:Array MapEntry,MR G es bz.toList→∃r,VR G v r∧(Instr.checkKey bz.isEmpty 10000 kt kv).run C.P w=.ok () w∧
            ((∃j e,(Instr.findKey kt kv bz.toList).run C.P w=.ok (some (j,e)) w∧r=if ok then .tuple #[e,.bool true] else e)∨
             (∃z,(Instr.findKey kt kv bz.toList).run C.P w=.ok none w∧(zeroValue et).run C.P w=.ok z w∧r=if ok then .tuple #[z,.bool false] else z)):=by
          intro bz hmr
          split at h
          · rename_i j v' b hf
            obtain⟨r',Pn,hr2⟩:=qT QU Wk hmr hf w
            cases r' with
            |none=>exact absurd hr2 id
            |some y=>
            obtain⟨j',y⟩:=y
            obtain⟨rfl,m,e,k',_,_,_,rfl,hve,_,_⟩:=hr2
            simp at h
            subst h
            refine⟨if ok then .tuple #[e.val,.bool true] else e.val, ?_,by rw[← RH bz hmr];exact Pm,.inl ⟨j,e.val,Pn,rfl⟩⟩
            cases ok
            · exact hve
            · exact k8 (cK.cons hve (cK.one (.t _ _ (.bool true))))
          · rename_i z hf hz
            obtain⟨r',Pn,hr2⟩:=qT QU Wk hmr hf w
            cases r' with
            |some y=>exact absurd hr2 id
            |none=>
            obtain⟨zv,hz1,QS⟩:=fI hte hz w G
            simp at h
            subst h
            refine⟨if ok then .tuple #[zv,.bool false] else zv, ?_,by rw[← RH bz hmr];exact Pm,.inr ⟨zv,Pn,hz1,rfl⟩⟩
            cases ok
            · exact QS
            · exact k8 (cK.cons QS (cK.one (.t _ _ (.bool false))))
          · simp at h
        split at hes
        · simp at hes
          obtain⟨rfl,_⟩:=hes
          cases hx with|t _ _ hx=>
          cases hx
          obtain⟨r,hr,Po,RI⟩:=core #[] trivial
          refine⟨r, ?_,hr⟩
          simp at Po
          rcases RI with ⟨j,e,hf,rfl⟩|⟨z,hf,hz,rfl⟩
          · simp at hf
            cases ok<;>simp[Instr.lookup,lT,Po,hf]
          · simp at hf
            cases ok<;>simp[Instr.lookup,lT,Po,hf,hz]
        · unfold mapOf at hes
          split at hes
          · rename_i m hnn
            split at hes<;>simp at hes
            rename_i es' c' hm
            obtain⟨rfl,_⟩:=hes
            obtain⟨hd',har,bz,hh,hmr,_⟩:=hH _ _ hm
            cases hx with|map _ _ _=>
            obtain⟨r,hr,Po,RI⟩:=core bz hmr
            refine⟨r, ?_,hr⟩
            rcases RI with ⟨j,e,hf,rfl⟩|⟨z,hf,hz,rfl⟩
            · cases ok<;>simp[Instr.lookup,lT,jB hh,Po,hf]
            · cases ok<;>simp[Instr.lookup,lT,jB hh,Po,hf,hz]
          · simp at hes
      · simp at h
    · simp at h
  · simp at h
theorem xI (hw:WF G w){k:Nm}(hd:G.dom k){bz:Array MapEntry}{c:Nat}(hh:w.heap[G.mu k]?=some (.map bz c))(hF:∀o,G.F (G.mu k) o=none)(o:Obj):
    Step (fun x=>x=k) (fun _=>False) G w G {w with heap:=w.heap.setIfInBounds (G.mu k) o}:=by
  refine⟨.refl G,⟨fun b p u h=> ?_,hw.inj,fun x d=>by simpa using hw.lt x d⟩,fun _ _ _=>⟨rfl,rfl⟩,fun b hb hn=>⟨?_,fun _=>rfl⟩,fun _ d=>.inl d,fun _ d=>.inl ⟨d,rfl⟩,by simp,rfl,rfl,rfl⟩
  · obtain⟨us,ty,fr,h1,h2⟩:=hw.F b p u h
    have hne:G.mu k≠b:=by intro e;subst e;rw[hF] at h;simp at h
    exact⟨us,ty,fr,by show(w.heap.setIfInBounds _ _)[b]?=_;rw[Array.getElem?_setIfInBounds,if_neg hne];exact h1,h2⟩
  · show(w.heap.setIfInBounds _ _)[b]?=_
    rw[Array.getElem?_setIfInBounds,if_neg (hn k rfl hd)]
theorem MR.push:∀{es:List (TV×TV×Nat)} {bz:List MapEntry} {k x:TV} {kv xv:Value} {c:Nat},MR G es bz→VR G k kv→VR G x xv→MR G (es++[(k,x,c)]) (bz++[{key:=kv,val:=xv,born:=c}]):=by
 intro es
 induction es with
 |nil=>intro bz k x kv xv c h h1 h2;cases bz<;>simp_all [MR]
 |cons p r ih=>
  intro bz k x kv xv c h h1 h2
  obtain⟨k',v',b'⟩:=p
  cases bz with
  |nil=>simp[MR] at h
  |cons e es'=>simp only[MR,List.cons_append] at h ⊢;exact⟨h.1,h.2.1,h.2.2.1,ih h.2.2.2 h1 h2⟩
theorem MR.set:∀{es:List (TV×TV×Nat)} {bz:List MapEntry} {m:Nat} {k x k' v':TV} {b:Nat} {e:MapEntry} {kv xv:Value},MR G es bz→es[m]?=some (k',v',b)→bz[m]?=some e→VR G k kv→VR G x xv→
  MR G (es.set m (k,x,b)) (bz.set m {e with key:=kv,val:=xv}):=by
 intro es
 induction es with
 |nil=>intro bz m k x k' v' b e kv xv h h1;simp at h1
 | cons p r ih=>
  intro bz m k x k' v' b e kv xv h h1 h2 h3 h4
  obtain⟨k0,v0,b0⟩:=p
  cases bz with
  |nil=>simp[MR] at h
  | cons e0 es'=>
   simp only[MR] at h
   cases m with
   |zero=>
    simp at h1 h2
    obtain⟨rfl,rfl,rfl⟩:=h1
    subst h2
    simp only[List.set_cons_zero,MR]
    exact⟨h3,h4,h.2.2.1,h.2.2.2⟩
   |succ m=>
    simp only[List.set_cons_succ,MR]
    exact⟨h.1,h.2.1,h.2.2.1,ih h.2.2.2 (by simpa using h1) (by simpa using h2) h3 h4⟩
theorem vY {bz:Array MapEntry}{m:Nat}{e:MapEntry}(f:MapEntry→MapEntry)(h:bz[m]?=some e):(bz.modify m f).toList=bz.toList.set m (f e):=by
  apply List.ext_getElem?
  intro i
  rw[Array.getElem?_toList,Array.getElem?_modify,List.getElem?_set]
  have hm:m<bz.size:=(Array.getElem?_eq_some_iff.1 h).1
  by_cases c:m=i
  · subst c
    rw[if_pos rfl,if_pos rfl,h]
    simp[hm]
  · rw[if_neg c,if_neg c]
    simp
theorem Gi {k:Nm}(hw:WF G w)(hd:G.dom k)(har:G.arr k=none)(hF:∀o,G.F (G.mu k) o=none){es:List (TV×TV×Nat)}{bz:Array MapEntry}{c:Nat}(h:MR G es bz.toList):
  OR G {w with heap:=w.heap.setIfInBounds (G.mu k) (.map bz c)} k (.map es c):=by
 refine⟨har,bz, ?_,h,hF⟩
 have:=hw.lt k hd
 simp[this]
def WB (k x:TV)(es:List (TV×TV×Nat))(c:Nat):Option (Nat×TV×Nat)→List (TV×TV×Nat)
 |some (i,_,b)=>es.set i (k,x,b)
 |none=>es++[(k,x,c)]
def Z9 (c:Nat):Option (Nat×TV×Nat)→Nat
 |some _=>c
 |none=>c+1
theorem Et {t kt et:TypeId}{ti tk:TI}{k x:TV}{m:Nm}{kv xv:Value}{es:List (TV×TV×Nat)}{c:Nat}{r:Option (Nat×TV×Nat)}(hw:WF G w)(hH:HR G w H)(ht:bf C.P t=some ti)(hd:ti.desc=.map kt et)(hm:H.get m=some (.map es c))
    (QU:bf C.P kt=some tk)(Pk:s8 C.P false kt k=true)(hk:VR G k kv)(hx:VR G x xv)(hf:j5 C.P kt tk.desc k es 0=some r):
    ∃ IM:Array MapEntry,∃c',(Instr.mapUpdate t (.map (some (G.mu m))) kv xv).run C.P w=.ok () {w with heap:=w.heap.setIfInBounds (G.mu m) (.map IM c')}∧
      MR G (WB k x es c r) IM.toList∧c'=Z9 c r:=by
  obtain⟨_,_,hu,_⟩:=bC ht
  rw[hd] at hu
  have lT:=aK hu w
  obtain⟨tC,har,bz,hh,hmr,hF⟩:=hH m _ hm
  obtain⟨u,Wk,Pm⟩:=zS Pk w
  have:=k9 Wk hk
  subst this
  obtain⟨r',Pn,hr2⟩:=qT QU Wk hmr hf w
  cases r with
  | none=>
    cases r' with
    |some _=>exact absurd hr2 id
    |none=>
    refine⟨bz.push {key:=kv,val:=xv,born:=c},c+1, ?_,by simpa [WB] using hmr.push hk hx,rfl⟩
    simp[Instr.mapUpdate,lT,jB hh,Pm,Pn,o9 hh]
  | some y=>
    obtain⟨i,v0,b⟩:=y
    cases r' with
    |none=>exact absurd hr2 id
    |some y'=>
    obtain⟨i',x0⟩:=y'
    obtain⟨rfl,p,e,k',hip,he,hes,rfl,_,hb,Z8⟩:=hr2
    have aac:i=p:=by omega
    subst aac
    have he':bz[i]?=some e:=by simpa using he
    refine⟨bz.modify i fun e=>{e with key:=kv,val:=xv},c, ?_, ?_,rfl⟩
    · have hkey:(((bz[i]?).map (·.key)).getD kv)=e.key:=by rw[he'];rfl
      have RJ:(Instr.keyThatStays e.key kv).run C.P w=.ok kv w:=by simp[Instr.keyThatStays,Z8]
      simp only[Instr.mapUpdate,Sem.run_bind,lT,Result.andThen_ok,jB hh,Pm,Pn]
      rw[hkey,RJ]
      simp[o9 hh]
    · rw[vY _ he']
      exact hmr.set hes he hk hx
end
end Go.Abs
