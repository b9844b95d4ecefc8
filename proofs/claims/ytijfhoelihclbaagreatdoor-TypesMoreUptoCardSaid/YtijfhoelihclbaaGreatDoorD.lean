/- Regions that draw their order are right. -/
import Derived.Test.YtijfhoelihclbaaGreatDoorC
import Derived.LoopN
namespace Go.Abs
open Go
section
variable {C:dI}{ev:aW}{f:FuncId}{ops:Array Oper}{st:St}{recs:List Rec}
structure vp (C:dI)(ev:aW)(f:FuncId)(ops:Array Oper)(st:St)(recs:List Rec):Prop where
 len:recs.length=ops.size
 at':∀(j:Nat) (o:Oper),ops.toList[j]?=some o→∃r,recs[j]?=some r∧RT C ev f ops (qW ops.toList []) st.tick j o (jK ops.toList recs {slots:=st.slots,H:=st.H} (fun _=>true) j) (AZ recs j)=some r
 free:lJ ops ops.toList recs (qW ops.toList []) ops.toList recs 0=true
 back:uV 0 ops.toList=true
abbrev s0 (st:St):wQ:={slots:=st.slots,H:=st.H}
theorem vp.Cq (h:vp C ev f ops st recs){i j:Nat}{x y:Oper}{rx ry:Rec}(hij:i<j)(hx:ops.toList[i]?=some x)(hy:ops.toList[j]?=some y)(FJ:recs[i]?=some rx)(hry:recs[j]?=some ry):
  jg (qW ops.toList []) i j=true∨xA ops x y rx ry=true:=by
 obtain⟨hl,_,_⟩:=FE ops.toList []
 have hjl:j<(qW ops.toList []).length:=by rw[hl];have:=(List.getElem?_eq_some_iff.1 hy).1;simpa using this
 have h1:=G7 h.free j _ y ry (List.getElem?_eq_getElem hjl) hy hry
 have h2:=Md h1 i x rx (by rw[Nat.zero_add,List.getElem?_take,if_pos hij];exact hx) (by rw[Nat.zero_add,List.getElem?_take,if_pos hij];exact FJ)
 rw[Nat.zero_add] at h2
 refine h2.imp (fun h=> ?_) id
 unfold jg
 rw[List.getD,List.getElem?_eq_getElem hjl]
 exact h
def Mg (ops:Array Oper)(D:Nat→Bool):Prop:=∀(j:Nat) o,D j=true→ops.toList[j]?=some o→∀e∈o.after.toList,Region.binds .any e=true→D e.on=true
theorem Mg.before {D:Nat→Bool}(h:Mg ops D):∀(n i j:Nat) (o:Oper),j<n→ops.toList[j]?=some o→(∀e∈o.after.toList,Region.binds .any e=true→D e.on=true)→jg (qW ops.toList []) i j=true→D i=true:=by
  intro n
  induction n with
  |zero=>intro i j o hl;omega
  | succ n ih=>
    intro i j o hl ho he hb
    obtain⟨_,_,h3⟩:=FE ops.toList []
    obtain⟨e,h4,h5,h6⟩:=h3 j o i ho (by simpa using hb)
    have hd:=he e h4 h5
    rcases h6 with rfl|⟨h6,h7⟩
    · exact hd
    · simp at h6
      cases ho':ops.toList[e.on]? with
      | none=>
        have:=List.getElem?_eq_none_iff.1 ho'
        have:=(List.getElem?_eq_some_iff.1 ho).1
        omega
      |some o'=>exact ih i e.on o' (by omega) ho' (h e.on o' hd ho') h7
theorem tA {a b:List Nm}(h:GR a b=true){k:Nm}(ha:k∈a):k∉b:=by
 have:=List.all_eq_true.1 h k ha
 simpa using this
theorem uy {x y:Oper}(h:xy ops x y=true):(∀d,x.dst=some d→d∉y.looksAt ops)∧(∀d,x.dst=some d→y.dst≠some d)∧(∀d,y.dst=some d→d∉x.looksAt ops):=
 Oper.apart_spec (by unfold xy at h;unfold Oper.apart;cases hx:x.dst<;>cases hy:y.dst<;>simp only[hx,hy] at h ⊢<;>exact h)
structure uJ (C:dI)(ops:Array Oper)(st:St)(recs:List Rec)(G0:Gh)(w0:World)(a0:Act)(D:Nat→Bool)(G:Gh)(w:World)(a:Act):Prop where
 step:dS G0 w0 G w
 jA:jV C G
 defers:a.defers=a0.defers
 slots:SR G (jK ops.toList recs (s0 st) D ops.size).slots a
 heap:HR G w (jK ops.toList recs (s0 st) D ops.size).H
 fresh:∀p,G.dom (.loc p)→∃n q,p=n::q∧(n<st.tick∨∃j,D j=true∧j<ops.size∧n=st.tick+j)
 closed:Mg ops D
 calm:∀j r v u l,D j=true→recs[j]?=some r→r.res≠ .panic v u l
def lu (D:Nat→Bool)(i:Nat):Nat→Bool:=fun j=>if j=i then true else D j
section step
variable {G0 G:Gh}{w0 w:World}{a0 a:Act}{D:Nat→Bool}{i:Nat}{o:Oper}{r:Rec}
theorem uJ.SC (hd:vp C ev f ops st recs)(hi:uJ C ops st recs G0 w0 a0 D G w a)(hni:D i=false)(ho:ops.toList[i]?=some o)(hr:recs[i]?=some r)(he:∀e∈o.after.toList,Region.binds .any e=true→D e.on=true)
    {t:Nat}(ht:t∈o.looksAt ops∨o.dst=some t)(hw:∀j,i≤j→j<ops.size→D j=true→True):
    ∀j x,j<ops.size→ops.toList[j]?=some x→x.dst=some t→(D j=true→j<i)∧(j<i→(t∈o.looksAt ops→D j=true)):=by
  intro j x hj hx Jy
  obtain⟨rx,FJ⟩:∃rx,recs[j]?=some rx:=⟨_,List.getElem?_eq_getElem (by rw[hd.len];exact hj)⟩
  refine⟨fun hD=> ?_,fun hlt hlk=> ?_⟩
  · rcases Nat.lt_trichotomy j i with h|h|h
    · exact h
    · subst h;rw[hni] at hD;cases hD
    · rcases hd.Cq h ho hx hr FJ with hb|hb
      · have:=hi.closed.before (j+1) i j x (by omega) hx (hi.closed j x hD hx) hb
        rw[hni] at this;cases this
      · simp only[xA,Bool.and_eq_true] at hb
        obtain⟨⟨⟨hs,_⟩,_⟩,_⟩:=hb
        obtain⟨s1,s2,s3⟩:=uy hs
        rcases ht with ht|ht
        · exact absurd ht (s3 t Jy)
        · exact absurd Jy (s2 t ht)
  · rcases hd.Cq hlt hx ho FJ hr with hb|hb
    · exact hi.closed.before (i+1) j i o (by omega) ho he hb
    · simp only[xA,Bool.and_eq_true] at hb
      obtain⟨⟨⟨hs,_⟩,_⟩,_⟩:=hb
      obtain⟨s1,s2,s3⟩:=uy hs
      exact absurd hlk (s1 t Jy)
theorem uJ.SE (hd:vp C ev f ops st recs)(hi:uJ C ops st recs G0 w0 a0 D G w a)(hni:D i=false)(ho:ops.toList[i]?=some o)(hr:recs[i]?=some r)(he:∀e∈o.after.toList,Region.binds .any e=true→D e.on=true)
    {k:Nm}(hk:k∈r.fp∨k∈r.res.keys):
    ∀j x rx,j<ops.size→ops.toList[j]?=some x→recs[j]?=some rx→k∈rx.res.keys→(D j=true→j<i)∧(j<i→D j=true):=by
  intro j x rx hj hx FJ hkx
  refine⟨fun hD=> ?_,fun hlt=> ?_⟩
  · rcases Nat.lt_trichotomy j i with h|h|h
    · exact h
    · subst h;rw[hni] at hD;cases hD
    · rcases hd.Cq h ho hx hr FJ with hb|hb
      · have:=hi.closed.before (j+1) i j x (by omega) hx (hi.closed j x hD hx) hb
        rw[hni] at this;cases this
      · simp only[xA,Bool.and_eq_true] at hb
        obtain⟨⟨⟨_,h1⟩,h2⟩,h3⟩:=hb
        rcases hk with hk|hk
        · exact absurd hk (tA h3 hkx)
        · exact absurd hkx (tA h2 hk)
  · rcases hd.Cq hlt hx ho FJ hr with hb|hb
    · exact hi.closed.before (i+1) j i o (by omega) ho he hb
    · simp only[xA,Bool.and_eq_true] at hb
      obtain⟨⟨⟨_,h1⟩,h2⟩,h3⟩:=hb
      rcases hk with hk|hk
      · exact absurd hk (tA h1 hkx)
      · exact absurd hk (tA h2 hkx)
theorem Jz {l:List Oper}{s:wQ}{n:Nat}(hin:i≤n):jK l recs s (fun _=>true) i=jK l recs s (fun j=>decide (j<i)) n:=by
 rw[sx (D:=fun j=>decide (j<i)) hin (fun j h1 h2=>by simp;omega)]
 exact wu fun j hj=>by simp[hj]
theorem uJ.look (hd:vp C ev f ops st recs)(hi:uJ C ops st recs G0 w0 a0 D G w a)(hni:D i=false)(ho:ops.toList[i]?=some o)(hr:recs[i]?=some r)(he:∀e∈o.after.toList,Region.binds .any e=true→D e.on=true):
    kX (o.looksAt ops) 0 (jK ops.toList recs (s0 st) (fun _=>true) i).slots=kX (o.looksAt ops) 0 (jK ops.toList recs (s0 st) D ops.size).slots:=by
  have hin:i≤ops.size:=by have:=(List.getElem?_eq_some_iff.1 ho).1;simp at this;omega
  refine Jx (by rw[Dd,Dd]) fun t ht=> ?_
  rw[Jz hin]
  refine yO fun j x hj hx Jy=> ?_
  obtain⟨h1,h2⟩:=hi.SC hd hni ho hr he (.inl ht) (fun _ _ _ _=>trivial) j x hj hx Jy
  by_cases hlt:j<i
  · simp[hlt,h2 hlt ht]
  · have:D j=false:=by
      cases hD:D j with
      |false=>rfl
      |true=>exact absurd (h1 hD) hlt
    simp[hlt,this]
theorem uJ.sees (hd:vp C ev f ops st recs)(hi:uJ C ops st recs G0 w0 a0 D G w a)(hni:D i=false)(ho:ops.toList[i]?=some o)(hr:recs[i]?=some r)(he:∀e∈o.after.toList,Region.binds .any e=true→D e.on=true)
    {k:Nm}(hk:k∈r.fp):(jK ops.toList recs (s0 st) (fun _=>true) i).H.get k=(jK ops.toList recs (s0 st) D ops.size).H.get k:=by
  have hin:i≤ops.size:=by have:=(List.getElem?_eq_some_iff.1 ho).1;simp at this;omega
  rw[Jz hin]
  refine yP fun j rx hj FJ hkx=> ?_
  obtain⟨x,hx⟩:∃x,ops.toList[j]?=some x:=⟨_,List.getElem?_eq_getElem (by simpa using hj)⟩
  obtain⟨h1,h2⟩:=hi.SE hd hni ho hr he (.inl hk) j x rx hj hx FJ hkx
  by_cases hlt:j<i
  · simp[hlt,h2 hlt]
  · have:D j=false:=by
      cases hD:D j with
      |false=>rfl
      |true=>exact absurd (h1 hD) hlt
    simp[hlt,this]
theorem uJ.Qp (hd:vp C ev f ops st recs)(hi:uJ C ops st recs G0 w0 a0 D G w a)(hni:D i=false)(ho:ops.toList[i]?=some o)(hr:recs[i]?=some r)(he:∀e∈o.after.toList,Region.binds .any e=true→D e.on=true)
    (t:Nat):(jK ops.toList recs (s0 st) (lu D i) ops.size).slots[t]?=((jK ops.toList recs (s0 st) D ops.size).after o r.res).slots[t]?:=by
  have hin:i<ops.size:=by have:=(List.getElem?_eq_some_iff.1 ho).1;simpa using this
  by_cases abf:o.dst=some t
  · have key:∀j x,j<ops.size→ops.toList[j]?=some x→x.dst=some t→D j=true→j<i:=fun j x hj hx Jy=>(hi.SC hd hni ho hr he (.inr abf) (fun _ _ _ _=>trivial) j x hj hx Jy).1
    have e1:(jK ops.toList recs (s0 st) (lu D i) ops.size).slots[t]?=(jK ops.toList recs (s0 st) (fun j=>decide (j<i+1)&&lu D i j) ops.size).slots[t]?:=by
      refine yO fun j x hj hx Jy=> ?_
      by_cases hlt:j<i+1
      · simp[hlt]
      · have hD:D j=false:=by
          cases hD:D j with
          |false=>rfl
          |true=>exact absurd (key j x hj hx Jy hD) (by omega)
        have:j≠i:=by omega
        simp[hlt,lu,this,hD]
    have e2:(jK ops.toList recs (s0 st) D ops.size).slots[t]?=(jK ops.toList recs (s0 st) (fun j=>decide (j<i)&&D j) ops.size).slots[t]?:=by
      refine yO fun j x hj hx Jy=> ?_
      by_cases hlt:j<i
      · simp[hlt]
      · have hD:D j=false:=by
          cases hD:D j with
          |false=>rfl
          |true=>exact absurd (key j x hj hx Jy hD) (by omega)
        simp[hlt,hD]
    have e3:jK ops.toList recs (s0 st) (fun j=>decide (j<i+1)&&lu D i j) ops.size=jK ops.toList recs (s0 st) (fun j=>decide (j<i+1)&&lu D i j) (i+1):=
      sx (by omega) fun j h1 h2=>by
        have:¬j<i+1:=by omega
        simp[this]
    have e4:jK ops.toList recs (s0 st) (fun j=>decide (j<i)&&D j) ops.size=jK ops.toList recs (s0 st) (fun j=>decide (j<i)&&D j) i:=
      sx (by omega) fun j h1 h2=>by
        have:¬j<i:=by omega
        simp[this]
    have e5:jK ops.toList recs (s0 st) (fun j=>decide (j<i+1)&&lu D i j) i=jK ops.toList recs (s0 st) (fun j=>decide (j<i)&&D j) i:=
      wu fun j hj=>by
        have h1:j<i+1:=by omega
        have h2:j≠i:=by omega
        simp[h1,hj,lu,h2]
    rw[e1,e3]
    rw[nB (e2.trans (by rw[e4]))]
    simp only[jK,ho,hr]
    rw[e5]
    simp[lu]
  · rw[Da abf]
    refine yO fun j x hj hx Jy=> ?_
    have:j≠i:=fun e=>by
      subst e
      rw[ho] at hx
      simp at hx
      subst hx
      exact abf Jy
    simp[lu,this]
theorem uJ.SF (hd:vp C ev f ops st recs)(hi:uJ C ops st recs G0 w0 a0 D G w a)(hni:D i=false)(ho:ops.toList[i]?=some o)(hr:recs[i]?=some r)(he:∀e∈o.after.toList,Region.binds .any e=true→D e.on=true)
    (k:Nm):(jK ops.toList recs (s0 st) (lu D i) ops.size).H.get k=((jK ops.toList recs (s0 st) D ops.size).after o r.res).H.get k:=by
  have hin:i<ops.size:=by have:=(List.getElem?_eq_some_iff.1 ho).1;simpa using this
  by_cases hk:k∈r.res.keys
  · have key:∀j rx,j<ops.size→recs[j]?=some rx→k∈rx.res.keys→D j=true→j<i:=fun j rx hj FJ hkx=>by
      obtain⟨x,hx⟩:∃x,ops.toList[j]?=some x:=⟨_,List.getElem?_eq_getElem (by simpa using hj)⟩
      exact(hi.SE hd hni ho hr he (.inr hk) j x rx hj hx FJ hkx).1
    have e1:(jK ops.toList recs (s0 st) (lu D i) ops.size).H.get k=(jK ops.toList recs (s0 st) (fun j=>decide (j<i+1)&&lu D i j) ops.size).H.get k:=by
      refine yP fun j x hj hx Jy=> ?_
      by_cases hlt:j<i+1
      · simp[hlt]
      · have hD:D j=false:=by
          cases hD:D j with
          |false=>rfl
          |true=>exact absurd (key j x hj hx Jy hD) (by omega)
        have:j≠i:=by omega
        simp[hlt,lu,this,hD]
    have e2:(jK ops.toList recs (s0 st) D ops.size).H.get k=(jK ops.toList recs (s0 st) (fun j=>decide (j<i)&&D j) ops.size).H.get k:=by
      refine yP fun j x hj hx Jy=> ?_
      by_cases hlt:j<i
      · simp[hlt]
      · have hD:D j=false:=by
          cases hD:D j with
          |false=>rfl
          |true=>exact absurd (key j x hj hx Jy hD) (by omega)
        simp[hlt,hD]
    have e3:jK ops.toList recs (s0 st) (fun j=>decide (j<i+1)&&lu D i j) ops.size=jK ops.toList recs (s0 st) (fun j=>decide (j<i+1)&&lu D i j) (i+1):=
      sx (by omega) fun j h1 h2=>by
        have:¬j<i+1:=by omega
        simp[this]
    have e4:jK ops.toList recs (s0 st) (fun j=>decide (j<i)&&D j) ops.size=jK ops.toList recs (s0 st) (fun j=>decide (j<i)&&D j) i:=
      sx (by omega) fun j h1 h2=>by
        have:¬j<i:=by omega
        simp[this]
    have e5:jK ops.toList recs (s0 st) (fun j=>decide (j<i+1)&&lu D i j) i=jK ops.toList recs (s0 st) (fun j=>decide (j<i)&&D j) i:=
      wu fun j hj=>by
        have h1:j<i+1:=by omega
        have h2:j≠i:=by omega
        simp[h1,hj,lu,h2]
    rw[e1,e3]
    rw[oV (e2.trans (by rw[e4]))]
    simp only[jK,ho,hr]
    rw[e5]
    simp[lu]
  · rw[FH hk]
    refine yP fun j rx hj FJ hkx=> ?_
    have:j≠i:=fun e=>by
      subst e
      rw[hr] at FJ
      simp at FJ
      subst FJ
      exact hk hkx
    simp[lu,this]
theorem uJ.next (hd:vp C ev f ops st recs)(hi:uJ C ops st recs G0 w0 a0 D G w a)(hni:D i=false)(ho:ops.toList[i]?=some o)(hr:recs[i]?=some r)(he:∀e∈o.after.toList,Region.binds .any e=true→D e.on=true)
    (aeJ:∀v u l,r.res≠ .panic v u l){G':Gh}{w':World}{a':Act}(hs:dS G w G' w')(hde:a'.defers=a.defers)(hg:jV C G')
    (Sc:SR G' ((jK ops.toList recs (s0 st) D ops.size).after o r.res).slots a')(hh:HR G' w' ((jK ops.toList recs (s0 st) D ops.size).after o r.res).H)
    (hfr:∀p,G'.dom (.loc p)→G.dom (.loc p)∨∃q,p=(st.tick+i)::q):uJ C ops st recs G0 w0 a0 (lu D i) G' w' a':=by
  have hin:i<ops.size:=by have:=(List.getElem?_eq_some_iff.1 ho).1;simpa using this
  refine⟨hi.step.comp hs,hg,hde.trans hi.defers, ?_,fun k ob hk=>hh k ob (by rw[← hi.SF hd hni ho hr he];exact hk),fun p hp=> ?_,fun j x hD hx e he' hb=> ?_,fun j rx v u l hD FJ=> ?_⟩
  · have:(jK ops.toList recs (s0 st) (lu D i) ops.size).slots=((jK ops.toList recs (s0 st) D ops.size).after o r.res).slots:=List.ext_getElem? (hi.Qp hd hni ho hr he)
    rw[this]
    exact Sc
  · rcases hfr p hp with h|⟨q,e⟩
    · obtain⟨n,q,e,h1⟩:=hi.fresh p h
      refine⟨n,q,e,h1.imp id fun⟨j,h2,h3,h4⟩=>⟨j, ?_,h3,h4⟩⟩
      simp only[lu];split<;>simp_all
    · exact⟨_,q,e,.inr ⟨i,by simp[lu],hin,rfl⟩⟩
  · by_cases e1:e.on=i
    · simp[lu,e1]
    · simp only[lu,if_neg e1]
      by_cases e2:j=i
      · subst e2
        rw[ho] at hx;simp at hx;subst hx
        exact he e he' hb
      · simp only[lu,if_neg e2] at hD
        exact hi.closed j x hD hx e he' hb
  · by_cases e2:j=i
    · subst e2
      rw[hr] at FJ;simp at FJ;subst FJ
      exact aeJ v u l
    · simp only[lu,if_neg e2] at hD
      exact hi.calm j rx v u l hD FJ
end step
theorem Mh {bs:List Nat}{t0 i:Nat}{o:Oper}{s:wQ}{qV:Option Nat}{r:Rec}(h:RT C ev f ops bs t0 i o s qV=some r):
    (∃j,qV=some j∧jg bs j i=true∧r.res=.yu)∨
    (dR ops (kX (o.looksAt ops) 0 s.slots) o=some false∧r.res=.unwanted)∨
    (dR ops (kX (o.looksAt ops) 0 s.slots) o=some true∧∃v u,bk C ev f (ni s.H r.fp) (kX (o.looksAt ops) 0 s.slots) (t0+i) o=some (.val v u)∧r.res=.val v u∧(qV.isSome=true→u=[]))∨
    (dR ops (kX (o.looksAt ops) 0 s.slots) o=some true∧∃v u l,bk C ev f (ni s.H r.fp) (kX (o.looksAt ops) 0 s.slots) (t0+i) o=some (.panic v u l)∧r.res=.panic v u l∧qV=none):=by
  unfold RT at h
  split at h
  · rename_i hp
    simp at h;subst h
    split at hp
    · rename_i j;exact .inl ⟨j,rfl,hp,rfl⟩
    · simp at hp
  · split at h
    · simp at h
    · rename_i hw
      simp at h;subst h
      exact .inr (.inl ⟨hw,rfl⟩)
    · rename_i hw
      split at h
      · simp at h
      · rename_i fp N4
        split at h
        · simp at h
        · rename_i v u hx
          split at h
          · simp at h
          · rename_i hc
            simp at h;subst h
            refine .inr (.inr (.inl ⟨hw,v,u,hx,rfl,fun hp=> ?_⟩))
            simp[hp] at hc
            exact hc
        · rename_i v u l hx
          split at h
          · simp at h
          · simp at h;subst h
            exact .inr (.inr (.inr ⟨hw,v,u,l,hx,rfl,rfl⟩))
theorem w5 {H:Heap}{slots:List TV}{t:Nat}{o:Oper}{r:xw}(h:bk C ev f H slots t o=some r):∀cs b,o.op≠ .select cs b:=by
 intro cs b e
 unfold bk at h
 rw[e] at h
 simp[evalOp,e] at h
theorem SG (ai:aF C ev)(hd:vp C ev f ops st recs){G0:Gh}{w0:World}{a0:Act}(hst:yf C G0 w0 st a0){e:aP}{st':St}{Q:Exit→Act→World→Prop}
    (hQ:∀ex a' w',Good C G0 w0 a0 e st' ex a' w'→Q ex a' w')
    (hend:jU 0 recs=none→e=.normal∧st'={slots:=(jK ops.toList recs (s0 st) (fun _=>true) ops.size).slots,H:=(jK ops.toList recs (s0 st) (fun _=>true) ops.size).H,tick:=st.tick+ops.size})
    (ajw:∀j v u l,jU 0 recs=some (j,v,u,l)→e=.panic v∧st'={slots:=st.slots,H:=((jK ops.toList recs (s0 st) (fun _=>true) ops.size).H.uH (l++AK ((qW ops.toList []).getD j 0) 0 (recs.take j))).ei u,tick:=st.tick+ops.size}):
    ∀(fuel:Nat) (listed:Array Bool) (G:Gh) (w:World) (a:Act),listed.size=ops.size→listed.toList.countP (· ==false)≤fuel→uJ C ops st recs G0 w0 a0 (fun j=>listed.getD j false) G w a→wpAny C.P .any ops Q fuel listed a w:=by
  have hat:∀(i:Nat) (o:Oper),ops[i]?=some o↔ops.toList[i]?=some o:=fun i o=>by simp
  have hall :∀(listed:Array Bool),listed.size=ops.size→Region.ready .any ops listed=[]→∀j,j<ops.size→listed.getD j false=true:=by
    intro listed hsz hr j
    induction j using Nat.strongRecOn with
    | _ j ih=>
      intro hj
      cases hD:listed.getD j false with
      |true=>rfl
      | false=>
        have:j∈Region.ready .any ops listed:=by
          rw[mem_ready]
          refine⟨?_,ops[j],Array.getElem?_eq_getElem hj,fun e he hb=> ?_⟩
          · rw[Array.getD_eq_getD_getElem?] at hD ⊢
            rw[Array.getElem?_eq_getElem (by omega)] at hD ⊢
            exact hD
          · have:=Qk hd.back j ops[j] (by simp[hj]) e (by simpa using he) hb
            exact ih e.on (by omega) (by omega)
        rw[hr] at this
        simp at this
  have hdone:∀(listed:Array Bool) (G:Gh) (w:World) (a:Act),listed.size=ops.size→uJ C ops st recs G0 w0 a0 (fun j=>listed.getD j false) G w a→Region.ready .any ops listed=[]→Q .normal a w:=by
    intro listed G w a hsz hi hr
    have hl:=hall listed hsz hr
    cases hp:jU 0 recs with
    | some q=>
      obtain⟨j,v,u,l⟩:=q
      obtain⟨k,r,h1,h2,h3⟩:=yQ hp
      have hk:k<ops.size:=by rw[← hd.len];exact(List.getElem?_eq_some_iff.1 h2).1
      exact absurd h3 (hi.calm k r v u l (hl k hk) h2)
    | none=>
      obtain⟨rfl,rfl⟩:=hend hp
      have hsame:jK ops.toList recs (s0 st) (fun j=>listed.getD j false) ops.size=jK ops.toList recs (s0 st) (fun _=>true) ops.size:=wu fun j hj=>hl j hj
      refine hQ _ _ _ ⟨G,hi.step,hi.defers,rfl,hi.step.wf,hi.jA, ?_, ?_,fun p hp=> ?_⟩
      · have:=hi.slots;rw[hsame] at this;exact this
      · have:=hi.heap;rw[hsame] at this;exact this
      · obtain⟨n,q,e,h⟩:=hi.fresh p hp
        refine⟨n,q,e, ?_⟩
        rcases h with h|⟨j,_,h,rfl⟩
        · simp only;omega
        · simp only;omega
  intro fuel
  induction fuel with
  | zero=>
    intro listed G w a hsz hc hi
    have hcz:listed.toList.countP (· ==false)=0:=by omega
    have hl:∀j,j<ops.size→listed.getD j true=true:=by
      intro j hj
      rw[List.countP_eq_zero] at hcz
      have:=hcz listed[j] (by simp)
      rw[Array.getD_eq_getD_getElem?,Array.getElem?_eq_getElem (by omega)]
      simpa using this
    have hr:Region.ready .any ops listed=[]:=by
      refine List.eq_nil_iff_forall_not_mem.2 fun j hj=> ?_
      rw[mem_ready] at hj
      obtain⟨h1,o,h2,_⟩:=hj
      have:=hl j (Array.getElem?_eq_some_iff.1 h2).1
      rw[this] at h1;cases h1
    exact⟨hr,hdone listed G w a hsz hi hr⟩
  | succ fuel ih=>
    intro listed G w a hsz hc hi
    refine⟨hdone listed G w a hsz hi,fun i hmem=> ?_⟩
    rw[mem_ready] at hmem
    obtain⟨abg,o,ho',abh⟩:=hmem
    have hin:i<ops.size:=(Array.getElem?_eq_some_iff.1 ho').1
    have hni:listed.getD i false=false:=by
      rw[Array.getD_eq_getD_getElem?] at abg ⊢
      rw[Array.getElem?_eq_getElem (by omega)] at abg ⊢
      exact abg
    have ho:=(hat i o).1 ho'
    have he:∀e∈o.after.toList,Region.binds .any e=true→listed.getD e.on false=true:=fun e h1 h2=>abh e (by simpa using h1) h2
    obtain⟨r,hr,hop⟩:=hd.at' i o ho
    have aeK:=hi.look hd hni ho hr he
    have FK:=XN hi.slots (o.looksAt ops)
    rw[← aeK] at FK
    have hheap:HR G w (ni (jK ops.toList recs (s0 st) (fun _=>true) i).H r.fp):=by
      intro k ob hk
      obtain⟨h1,h2⟩:=Qo hk
      rw[hi.sees hd hni ho hr he h1] at h2
      exact hi.heap k ob h2
    have hfresh:∀p,¬G.dom (.loc ((st.tick+i)::p)):=by
      intro p uI
      obtain⟨n,q,e1,h⟩:=hi.fresh _ uI
      simp at e1
      rcases h with h|⟨j,h1,h2,h3⟩
      · omega
      · have:j=i:=by omega
        subst this
        rw[hni] at h1;cases h1
    have ajx:(listed.setIfInBounds i true).toList.countP (· ==false)≤fuel:=by
      rw[Array.toList_setIfInBounds,List.countP_set (by simp;omega)]
      have h1:(listed.toList[i]'(by simp;omega)==false)=true:=by
        rw[Array.getD_eq_getD_getElem?,Array.getElem?_eq_getElem (by omega)] at hni
        simpa using hni
      rw[if_pos h1]
      have h2:(if((true:Bool)==false)=true then 1 else 0)=0:=rfl
      rw[h2]
      omega
    have aeL:(fun j=>(listed.setIfInBounds i true).getD j false)=lu (fun j=>listed.getD j false) i:=by
      funext j
      simp only[lu]
      by_cases e1:j=i
      · subst e1
        rw[Array.getD_eq_getD_getElem?,Array.getElem?_setIfInBounds_self_of_lt (by omega)]
        simp
      · rw[if_neg e1,getD_set_ne false (fun h=>e1 h.symm)]
    have hnext:∀{G':Gh} {w':World} {a':Act},uJ C ops st recs G0 w0 a0 (lu (fun j=>listed.getD j false) i) G' w' a'→wpAny C.P .any ops Q fuel (listed.setIfInBounds i true) a' w':=by
      intro G' w' a' hi'
      rw[← aeL] at hi'
      exact ih _ G' w' a' (by simpa using hsz) ajx hi'
    unfold wpOp
    rw[ho']
    simp only
    rcases Mh hop with ⟨j,hp,hb,hres⟩|⟨hw,hres⟩|⟨hw,v,u,hx,hres,hq⟩|⟨hw,v,u,l,hx,hres,hp⟩
    ·
      obtain⟨_,rj,vj,uj,lj,h1,h2⟩:=Qm hp
      have hD:=hi.closed.before (i+1) j i o (by omega) ho he hb
      exact absurd h2 (hi.calm j rj vj uj lj hD h1)
    · have:=ja hw FK
      rw[vo] at this
      rw[this]
      refine hnext (hi.next hd hni ho hr he (by rw[hres];simp) (Step.refl hi.step.wf _ _) (put_defers _ _ _) hi.jA ?_ ?_ (fun p h=>.inl h))
      · rw[hres];exact hi.slots.put o.dst (oh G)
      · rw[hres];exact hi.heap
    · have:=ja hw FK
      rw[vo] at this
      rw[this]
      refine .inl ?_
      have hex:=sw ai hx hi.step.wf hi.jA FK hheap hfresh
      unfold j9 at hex
      rw[FI (w5 hx)] at hex
      refine j9.wp (R:=lK (st.tick+i) G w (.val v u)) hex lK.no (fun x w' hR=> ?_) (fun ch w' hR=> ?_)
      · obtain⟨x',G',e1,hs,hu,hv⟩:=hR
        simp at e1;subst e1
        refine hnext (hi.next hd hni ho hr he (by rw[hres];simp) hs.any (put_defers _ _ _) (hi.jA.mono hs.le) ?_ ?_ (fun p h=> ?_))
        · rw[hres];exact(hi.slots.mono hs.le).put o.dst hv
        · rw[hres];exact HR.ei hs hi.step.wf hi.heap hu (fun k _ hk=>hk)
        · rcases hs.news _ h with h|⟨q,e2⟩
          · exact .inl h
          · simp at e2;exact .inr ⟨q,e2⟩
      · obtain⟨x',G',e1,_⟩:=hR
        simp at e1
    · have:=  ja hw FK
      rw[vo] at this
      rw[this]
      refine .inl ?_
      have hex:=sw ai hx hi.step.wf hi.jA FK hheap hfresh
      unfold j9 at hex
      rw[FI (w5 hx)] at hex
      refine j9.wp (R:=lK (st.tick+i) G w (.panic v u l)) hex lK.no (fun x w' hR=> ?_) (fun ch w' hR=> ?_)
      · obtain⟨x',G',e1,_⟩:=hR
        simp at e1
      · obtain⟨x',G',e1,hs,hu,hv⟩:=hR
        simp at e1;subst e1
        have hpa:jU 0 recs=some (i,v,u,l):=by
          cases hpa:jU 0 recs with
          |none=>exact absurd hres (He hpa r (List.mem_of_getElem? hr) v u l)
          | some q=>
            obtain⟨j,v',u',l'⟩:=q
            obtain⟨k,rk,h1,h2,h3⟩:=yQ hpa
            rcases Nat.lt_trichotomy k i with h|h|h
            · have:=vn h h2 h3
              rw[hp] at this;simp at this
            · subst h
              rw[hr] at h2;simp at h2;subst h2
              rw[hres] at h3
              simp at h3
              obtain⟨rfl,rfl,rfl⟩:=h3
              simp at h1;subst h1;rfl
            · obtain⟨ok,hok⟩:∃ok,ops.toList[k]?=some ok:=⟨_,List.getElem?_eq_getElem (by have:=(List.getElem?_eq_some_iff.1 h2).1;rw[hd.len] at this;simpa using this)⟩
              obtain⟨rk',hrk,ajy⟩:=hd.at' k ok hok
              rw[h2] at hrk;simp at hrk;subst hrk
              have hsome:=vn h hr hres
              rcases Mh ajy with ⟨_,_,_,q⟩|⟨_,q⟩|⟨_,_,_,_,q,_⟩|⟨_,_,_,_,_,_,q⟩
              · rw[h3] at q;simp at q
              · rw[h3] at q;simp at q
              · rw[h3] at q;simp at q
              · rw[q] at hsome;simp at hsome
        obtain⟨rfl,rfl⟩:=ajw i v u l hpa
        refine hQ _ _ _ ⟨G',hi.step.comp hs.any,hi.defers,x',rfl,hv, ?_⟩
        intro k ob hk
        rcases Heap.sg _ u k ob hk with h1|⟨h1,hn⟩
        · exact hu k ob h1
        · rw[ Heap.uY] at h1
          split at h1
          · simp at h1
          rename_i hl
          simp only[List.mem_append,not_or] at hl
          have hsame:(jK ops.toList recs (s0 st) (fun _=>true) ops.size).H.get k=(jK ops.toList recs (s0 st) (fun j=>listed.getD j false) ops.size).H.get k:=by
            refine yP fun j rj hj hrj hkj=> ?_
            have hji:j≠i:=fun e1=>by
              subst e1
              rw[hr] at hrj;simp at hrj;subst hrj
              rw[hres] at hkj
              simp only[yq.keys,List.mem_append] at hkj
              exact hkj.elim hn hl.1
            rcases Nat.lt_or_gt_of_ne hji with h|h
            · have:=Mf hl.2 j rj (by rw[List.getElem?_take,if_pos h];exact hrj) hkj
              rw[Nat.zero_add] at this
              exact(hi.closed.before (i+1) j i o (by omega) ho he this).symm
            · exfalso
              obtain⟨oj,hoj⟩:∃oj,ops.toList[j]?=some oj:=⟨_,List.getElem?_eq_getElem (by simpa using hj)⟩
              obtain⟨rj',abi,ajz⟩:=hd.at' j oj hoj
              rw[hrj] at abi;simp at abi;subst abi
              have hsome:=vn h hr hres
              rcases Mh ajz with ⟨_,_,_,q⟩|⟨_,q⟩|⟨_,_,_,_,q,q2⟩|⟨_,_,_,_,_,_,q⟩
              · rw[q] at hkj;simp[yq.keys] at hkj
              · rw[q] at hkj;simp[yq.keys] at hkj
              · rw[q,q2 hsome] at hkj;simp[yq.keys] at hkj
              · rw[q] at hsome;simp at hsome
          rw[hsame] at h1
          obtain⟨d,hob⟩:=hi.heap k ob h1
          exact⟨hs.le.dom _ d,hs.keeps hi.step.wf d (fun hx=>by rcases List.mem_append.1 hx with hx|hx;exact hn hx;exact hl.1 hx) hob⟩
theorem De (hm:C.P.prog.follows .mixedOrders=true)(ai:aF C ev){e:aP}{st':St}(h:q9 C ev f ops st=some (e,st')){G:Gh}{w:World}{a:Act}(hst:yf C G w st a){id:Nat}
    {Q:Exit→Act→World→Prop}(hQ:∀ex a' w',Good C G w a e st' ex a' w'→Q ex a' w'):(Code.region id ops true).wp C.P Q a w:=by
  unfold q9 at h
  simp only at h
  split at h
  · simp at h
  rename_i recs aeM
  split at h
  case isFalse=>simp at h
  rename_i hfree
  obtain⟨h1,h2⟩:=XL (l:=ops.toList) (recs:=recs) (s0:=s0 st) (D:=fun _=>true) (fun _=>rfl) (i:=0) aeM (by simp) (by simp)
  have hd:vp C ev f ops st recs:=⟨by simpa using h1,fun j o ho=>by have:=h2 j o ho;simpa using this,hfree.1,hfree.2⟩
  have ZQ:yx ops.toList recs {slots:=st.slots,H:=st.H}=jK ops.toList recs (s0 st) (fun _=>true) ops.size:=by
    have:=Ql (l:=ops.toList) (recs:=recs) (s0:=s0 st) (D:=fun _=>true) (fun _=>rfl) (os:=ops.toList) (rs:=recs) (i:=0) h1.symm (by simp) (by simp)
    simpa [jK] using this
  refine wp_region_any hm ?_
  have hw':World:={w with drawn:=w.drawn+1}
  have hstep:dS G w G {w with drawn:=w.drawn+1}:=⟨.refl G,⟨hst.wf.F,hst.wf.inj,hst.wf.lt⟩,fun _ _ _=>⟨rfl,rfl⟩,fun _ _ _=>⟨rfl,fun _=>rfl⟩,fun _ h=>.inl h,fun _ h=>.inl ⟨h,rfl⟩,Nat.le_refl _,rfl,rfl,rfl⟩
  have o8:yf C G {w with drawn:=w.drawn+1} st a:=⟨hstep.wf,hst.jA,hst.slots,hst.heap,hst.fresh⟩
  refine SG ai hd o8 (Q:=Q) (e:=e) (st':=st') (fun ex a' w' hg=>hQ ex a' w' (Good.comp hstep rfl hg)) (fun hp=> ?_) (fun j v u l hp=> ?_) ops.size _ G _ a (by simp) ?_ ?_
  · simp only[hp,ZQ] at h
    simp at h
    exact⟨h.1.symm,h.2.symm⟩
  · simp only[hp,ZQ] at h
    simp only[Option.some.injEq,Prod.mk.injEq] at h
    exact⟨h.1.symm,h.2.symm⟩
  · simp[List.countP_replicate]
  · have hnone:jK ops.toList recs (s0 st) (fun j=>(Array.replicate ops.size false).getD j false) ops.size=s0 st:=by
      rw[sx (m:=0) (by omega) (fun j _ hj=>by simp[Array.getD_eq_getD_getElem?,Array.getElem?_replicate,hj])]
      rfl
    refine⟨Step.refl o8.wf _ _,o8.jA,rfl,by rw[hnone];exact o8.slots,by rw[hnone];exact o8.heap,fun p hp=> ?_,fun j x hD=> ?_,fun j r v u l hD=> ?_⟩
    · obtain⟨n,q,e1,h3⟩:=o8.fresh p hp
      exact⟨n,q,e1,.inl h3⟩
    · exfalso
      simp only[Array.getD_eq_getD_getElem?,Array.getElem?_replicate] at hD
      split at hD<;>simp at hD
    · exfalso
      simp only[Array.getD_eq_getD_getElem?,Array.getElem?_replicate] at hD
      split at hD<;>simp at hD
end
end Go.Abs

namespace Go.Abs
open Go
section
variable {C:dI}{ev:aW}{f:FuncId}
theorem Good.tB {G:Gh}{w:World}{a:Act}{st':St}{ex:Exit}{a':Act}{w':World}(h:Good C G w a .normal st' ex a' w'):ex=.normal∧a'.defers=a.defers∧∃G',dS G w G' w'∧yf C G' w' st' a':=by
 obtain⟨G',h1,h2,h3,h4⟩:=h
 exact⟨h3,h2,G',h1,h4⟩
theorem Good.kf {G:Gh}{w:World}{a:Act}{e:aP}{st':St}{ex:Exit}{a':Act}{w':World}(h:Good C G w a e st' ex a' w')(he:e≠ .normal):ex≠ .normal:=by
 obtain⟨G',h1,h2,h3⟩:=h
 cases e with
 |normal=>exact absurd rfl he
 |exit id=>intro e;simp only at h3;rw[e] at h3;simp at h3
 |ret=>intro e;simp only at h3;rw[e] at h3;simp at h3
 |panic v=>intro e;obtain⟨x,h4,_⟩:=h3;rw[e] at h4;simp at h4
theorem kg {next:Act→World→Prop}{Q:Exit→Act→World→Prop}{ex:Exit}{a:Act}{w:World}(h:ex≠ .normal)(hq:Q ex a w):Exit.then next Q ex a w:=by
 cases ex<;>first|exact hq|exact absurd rfl h
def SH (C:dI)(c:Code)(body:St→Option (aP×St)):Prop:=∀st e st',body st=some (e,st')→∀(G:Gh) (w:World) (a:Act),yf C G w st a→c.wp C.P (Good C G w a e st') a w
theorem SI {c:Code}{body:St→Option (aP×St)}(h:SH C c body):∀(n:Nat) (st:St) (e:aP) (st':St),CL body n st=some (e,st')→∀(G:Gh) (w:World) (a:Act),yf C G w st a→
    ∀Q:Exit→Act→World→Prop,(∀ex a' w',Good C G w a e st' ex a' w'→Q ex a' w')→Code.rounds C.P c Q n a w:=by
  intro n
  induction n with
  |zero=>intro st e st' hi;simp[CL] at hi
  | succ n ih=>
    intro st e st' hi G w a hst Q hQ
    simp only[CL] at hi
    rw[rounds_succ]
    split at hi
    · rename_i st1 hb
      refine wp_mono (h st _ _ hb G w a hst) fun ex a1 w1 hg=> ?_
      obtain⟨rfl,hd,G1,hs,kT⟩:=hg.tB
      exact ih st1 e st' hi G1 w1 a1 kT Q fun ex a' w' hg'=>hQ _ _ _ (Good.comp hs hd hg')
    · rename_i hne
      have he:e≠ .normal:=fun e1=>by subst e1;exact hne st' hi
      refine wp_mono (h st _ _ hi G w a hst) fun ex a1 w1 hg=>kg (hg.kf he) (hQ _ _ _ hg)
theorem lM (hm:C.P.prog.follows .mixedOrders=true)(ai:aF C ev){fuel:Nat}:∀(c:Code),SH C c (evalCode C ev f fuel c):=by
  intro c
  induction c with
  | skip=>
    intro st e st' h G w a hst
    simp[evalCode] at h
    obtain⟨rfl,rfl⟩:=h
    exact wp_skip ⟨G,Step.refl hst.wf _ _,rfl,rfl,hst⟩
  | label l=>
    intro st e st' h G w a hst
    simp[evalCode] at h
    obtain⟨rfl,rfl⟩:=h
    exact wp_label ⟨G,Step.refl hst.wf _ _,rfl,rfl,hst⟩
  | region id ops draw=>
    intro st e st' h G w a hst
    simp only[evalCode] at h
    cases draw with
    | true=>
      rw[if_pos rfl] at h
      exact De hm ai h hst fun _ _ _ hg=>hg
    | false=>
      simp only[Bool.false_eq_true,if_false] at h
      exact wp_region_list (XJ ai _ _ _ _ h G w a hst _ fun _ _ _ hg=>hg)
  | seq x y XO ihy=>
    intro st e st' h G w a hst
    simp only[evalCode] at h
    refine wp_seq ?_
    split at h
    · rename_i st1 hb
      refine wp_mono (XO st _ _ hb G w a hst) fun ex a1 w1 hg=> ?_
      obtain⟨rfl,hd,G1,hs,kT⟩:=hg.tB
      exact wp_mono (ihy st1 _ _ h G1 w1 a1 kT) fun ex a' w' hg'=>Good.comp hs hd hg'
    · rename_i hne
      have he:e≠ .normal:=fun e1=>by subst e1;exact hne st' h
      exact wp_mono (XO st _ _ h G w a hst) fun ex a1 w1 hg=>kg (hg.kf he) hg
  | cond c x y XO ihy=>
    intro st e st' h G w a hst
    simp only[evalCode] at h
    split at h
    · rename_i hc
      exact wp_cond_true (bS hst.slots hst.jA hc).bool (XO st _ _ h G w a hst)
    · rename_i hc
      exact wp_cond_false (bS hst.slots hst.jA hc).bool (ihy st _ _ h G w a hst)
    · simp at h
  | block id x XO=>
    intro st e st' h G w a hst
    simp only[evalCode] at h
    refine wp_block ?_
    split at h
    · rename_i id' st1 hb
      refine wp_mono (XO st _ _ hb G w a hst) fun ex a1 w1 hg=> ?_
      obtain⟨G1,hs,hd,rfl,kT⟩:=hg
      split at h
      · rename_i e1
        simp at h
        obtain⟨rfl,rfl⟩:=h
        simp only[Exit.inBlock,e1,if_true]
        exact⟨G1,hs,hd,rfl,kT⟩
      · rename_i e1
        simp at h
        obtain⟨rfl,rfl⟩:=h
        simp only[Exit.inBlock,e1,if_false]
        exact⟨G1,hs,hd,rfl,kT⟩
    · rename_i hne
      refine wp_mono (XO st _ _ h G w a hst) fun ex a1 w1 hg=> ?_
      cases e with
      |normal=>obtain⟨G1,hs,hd,rfl,kT⟩:=hg;exact⟨G1,hs,hd,rfl,kT⟩
      |exit id'=>exact absurd h (hne id' st')
      |ret=>obtain⟨G1,hs,hd,rfl,kT⟩:=hg;exact⟨G1,hs,hd,rfl,kT⟩
      |panic v=>obtain⟨G1,hs,hd,x,rfl,kT⟩:=hg;exact⟨G1,hs,hd,x,rfl,kT⟩
  | loop x XO=>
    intro st e st' h G w a hst
    simp only[evalCode] at h
    exact wp_loop_rounds fuel (SI XO fuel st e st' h G w a hst _ fun _ _ _ hg=>hg)
  | exit id=>
    intro st e st' h G w a hst
    simp[evalCode] at h
    obtain⟨rfl,rfl⟩:=h
    exact wp_exit ⟨G,Step.refl hst.wf _ _,rfl,rfl,hst⟩
  | ret=>
    intro st e st' h G w a hst
    simp[evalCode] at h
    obtain⟨rfl,rfl⟩:=h
    exact wp_ret ⟨G,Step.refl hst.wf _ _,rfl,rfl,hst⟩
  |_=>intro st e st' h;simp[evalCode] at h
end
end Go.Abs

namespace Go.Abs
open Go
section
variable {C:dI}{ev:aW}{f:FuncId}{G:Gh}{w:World}
def Hg (tmps:Array Value):ResultVar→Sem Value
 |.tmp t=>pure (tmps.getD t undef)
 |.cell x t=>do loadVar t (← asAddr (tmps.getD x undef))
theorem Mi (fn:Func)(tmps:Array Value):results fn tmps=(do let vs ← fn.results.mapM (Hg tmps);pure (if h:vs.size=1 then vs[0] else .tuple vs):Sem Value):=by
 unfold results
 exact congrArg (fun g:ResultVar→Sem Value=>(do let vs ← fn.results.mapM g;pure (if h:vs.size=1 then vs[0] else .tuple vs):Sem Value)) (funext fun x=>by cases x<;>rfl)
theorem Mj {st:St}{a:Act}(hst:yf C G w st a):∀{rs:List ResultVar} {vs:List TV},iP C st rs=some vs→
  ∃us:List Value,(rs.mapM (Hg a.tmps):Sem (List Value)).run C.P w=.ok us w∧cZ G vs us:=by
 intro rs
 induction rs with
 |nil=>intro vs h;simp[iP] at h;subst h;exact⟨[],by simp,cZ.nil G⟩
 | cons r rs ih=>
  intro vs h
  cases r with
  |tmp t=>
   simp only[iP] at h
   cases h1:iP C st rs<;>simp only[h1,reduceCtorEq] at h
   simp only[Option.some.injEq] at h
   subst h
   obtain⟨us,h2,h3⟩:=ih h1
   refine⟨a.tmps.getD t undef::us, ?_,cZ.cons (hst.slots.getD t) h3⟩
   rw[List.mapM_cons]
   rw[gI (a:=a.tmps.getD t undef) (w':=w) rfl,gI h2]
   rfl
  |cell x t=>
   simp only[iP] at h
   cases h0:loadT C.P st.H t (st.slots.getD x cz)<;>cases h1:iP C st rs<;>simp only[h0,h1,reduceCtorEq] at h
   simp only[Option.some.injEq] at h
   subst h
   obtain⟨us,h2,h3⟩:=ih h1
   obtain⟨u,h4,h5⟩:=BH hst.heap hst.wf (hst.slots.getD x) h0
   refine⟨u::us, ?_,cZ.cons h5 h3⟩
   have h4':(Hg a.tmps (.cell x t)).run C.P w=.ok u w:=h4
   rw[List.mapM_cons]
   rw[gI h4',gI h2]
   rfl
theorem xE {st:St}{a:Act}{fn:Func}{vs:List TV}(hst:yf C G w st a)(h:iP C st fn.results.toList=some vs):∃v,(results fn a.tmps).run C.P w=.ok v w∧VR G (qd vs) v:=by
 obtain⟨us,h1,h2⟩:=Mj hst h
 rw[Mi,Array.mapM_eq_mapM_toList]
 have h3:(List.toArray<$>(fn.results.toList.mapM (Hg a.tmps):Sem (List Value))).run C.P w=.ok us.toArray w:=by
  rw[map_eq_pure_bind]
  rw[gI h1];rfl
 refine⟨_,gI h3, ?_⟩
 cases vs with
 |nil=>
  have:=h2.1;simp at this;subst this
  exact mh h2
 | cons x r=>
  cases r with
  |nil=>
   obtain⟨u,us',rfl,h5,h6⟩:=h2.jt
   have:=h6.1;simp at this;subst this
   exact h5
  |cons y r=>
   have hl:=h2.1
   simp at hl
   rw[dif_neg (by simp;omega)]
   exact mh h2
theorem vq {H:Heap}:∀{n i:Nat} {os:List aV},mg H i n=some os→os.length=n∧∀j o,os[j]?=some o→H.get (.arg (i+j))=some o:=by
 intro n
 induction n with
 |zero=>intro i os h;simp[mg] at h;subst h;simp
 | succ n ih=>
  intro i os h
  simp only[mg] at h
  cases h1:H.get (.arg i)<;>cases h2:mg H (i+1) n<;>simp[h1,h2] at h
  subst h
  obtain⟨e1,e2⟩:=ih h2
  refine⟨by simp[e1],fun j o hj=> ?_⟩
  cases j with
  |zero=>simp at hj;subst hj;exact h1
  |succ j=>
   have:=e2 j o (by simpa using hj)
   rw[show i+1+j=i+(j+1) from by omega] at this
   exact this
theorem yS {H:Heap}:∀{n i:Nat} {j:Nat} {o:aV},(ru H i n)[j]?=some (some o)→H.get (.arg (i+j))=some o:=by
  intro n
  induction n with
  |zero=>intro i j o h;simp[ru] at h
  | succ n ih=>
    intro i j o h
    simp only[ru] at h
    cases j with
    | zero=>
      simp at h
      split at h
      · rename_i o' ho
        split at h
        · simp at h
        · simp at h;subst h;exact ho
      · simp at h
    | succ j=>
      have:=ih (i:=i+1) (j:=j) (o:=o) (by simpa using h)
      rw[show i+1+j=i+(j+1) from by omega] at this
      exact this
theorem rB {H:Heap}:∀{ks:List Nm} {h:Heap},j7 H ks=some h→∀k o,(k,o)∈h→k.gZ=true∧H.get k=some o:=by
  intro ks
  induction ks with
  |nil=>intro h hh;simp[j7] at hh;subst hh;simp
  | cons x r ih=>
    intro h hh k o hm
    simp only[j7] at hh
    cases h1:j7 H r with
    |none=>simp[h1] at hh
    | some h'=>
      simp only[h1] at hh
      split at hh
      · rename_i hl
        cases h2:H.get x with
        |none=>simp[h2] at hh
        | some o'=>
          simp[h2] at hh
          subst hh
          rcases List.mem_cons.1 hm with e|hm
          · simp at e;obtain⟨rfl,rfl⟩:=e;exact⟨hl,h2⟩
          · exact ih h1 k o hm
      · simp at hh;subst hh;exact ih h1 k o hm
theorem A1 {fn:Func}{n:Nat}{st:St}{a:Act}{r:bG}{G0:Gh}{w0:World}(h:finish C fn n st=some r)(hs:dS G0 w0 G w)(hst:yf C G w st a):
    ∃v,(results fn a.tmps).run C.P w=.ok v w∧wR G0 w0 n r (.returned v) w:=by
  unfold finish at h
  split at h
  · simp at h
  rename_i vs hvs
  obtain⟨v,hv,hr⟩:=xE hst hvs
  refine⟨v,hv, ?_⟩
  dsimp only at h
  have main:∀(x:TV) (ks:List Nm),VR (G.frozen w st.H ks) x v→(match mg (st.H.ei (dF st.H ks)) 0 n with
      |none=>none
      | some os=>match reach (st.H.ei (dF st.H ks)) fL [] (x.names++os.flatMap aV.names) with
        |none=>none
        |some R=>(j7 (st.H.ei (dF st.H ks)) R).map fun h=>bG.ret x os h)=some r→wR G0 w0 n r (.returned v) w:=by
    intro x ks hx h
    have E8:=iQ hst.wf hst.heap ks
    have RJ:HR (G.frozen w st.H ks) w (st.H.ei (dF st.H ks)):=HR.ei E8 hst.wf hst.heap (fun k o hm=>pW hst.wf hst.heap hm) (fun k _ hk=>kG hk.1 hk.2)
    split at h
    · simp at h
    rename_i os hos
    split at h
    · simp at h
    rename_i R hR
    cases L9:j7 (st.H.ei (dF st.H ks)) R with
    |none=>rw[L9] at h;simp at h
    | some nw=>
      rw[L9] at h
      simp only[Option.map_some,Option.some.injEq] at h
      subst h
      obtain⟨e1,e2⟩:=vq hos
      refine⟨v,G.frozen w st.H ks,rfl,hs.comp (E8.mono (fun _ _ _=>trivial) (fun _ hk=>hk.elim)),e1,fun i o ho=> ?_,fun k o hm=> ?_,hx⟩
      · have:=e2 i o ho
        rw[Nat.zero_add] at this
        exact RJ _ _ this
      · obtain⟨e3,e4⟩:=rB L9 k o hm
        exact⟨e3,RJ _ _ e4⟩
  cases hfz:pV st.H jv (qd vs) with
  | none=>
    rw[hfz] at h
    exact main (qd vs) [] (hr.mono (iQ hst.wf hst.heap []).le) h
  | some q=>
    obtain⟨x,ks⟩:=q
    rw[hfz] at h
    exact main (.t x) ks (.t _ _ (AP hst.wf hst.heap ks jv _ _ _ _ hfz (fun _ hk=>hk) hr)) h
theorem SJ (hm:C.P.prog.follows .mixedOrders=true)(ai:aF C ev){fuel:Nat}{args:List TV}{aX:List aV}{r:bG}(h:Jd C ev fuel f args aX=some r){vs:List Value}(hw:WF G w)(hg:jV C G)(had:AY G aX.length)
    (hH:HR G w (cU 0 aX))(hv:cZ G args vs):mB C.P f vs.toArray w (wR G w aX.length r):=by
  unfold Jd at h
  split at h
  · simp at h
  rename_i fn Df
  have hfn:=C.P.RP _ _ Df
  split at h
  · simp at h
  rename_i body hbody
  split at h
  · simp at h
  rename_i hname
  have hst:yf C G w {slots:=args++List.replicate (fn.ntmps - args.length) cz,H:=cU 0 aX,tick:=0} {tmps:=vs.toArray++Array.replicate (fn.ntmps - vs.toArray.size) undef,defers:=[]}:=by
    refine⟨hw,hg, ?_,hH,fun p hp=>absurd hp (had.2 p)⟩
    have e:(vs.toArray++Array.replicate (fn.ntmps - vs.toArray.size) undef).toList=vs++List.replicate (fn.ntmps - args.length) undef:=by simp[hv.1]
    unfold SR
    rw[e]
    refine cZ.append hv ⟨by simp,fun j c u hc hu=> ?_⟩
    rw[List.getElem?_replicate] at hc hu
    by_cases hl:j<fn.ntmps - args.length
    · rw[if_pos hl] at hc hu
      simp at hc hu;subst hc;subst hu;exact oh G
    · rw[if_neg hl] at hc;simp at hc
  refine .inl ⟨?_,calls_of_wp hfn hbody ?_⟩
  · simp[callFunc,hfn,hname,hbody]
  · split at h
    · rename_i st he
      refine wp_mono (lM hm ai body _ _ _ he G w _ hst) fun ex a' w' hgd=> ?_
      obtain⟨G',hs,hd,rfl,o8⟩:=hgd
      exact⟨hd,A1 h hs o8⟩
    · rename_i st he
      refine wp_mono (lM hm ai body _ _ _ he G w _ hst) fun ex a' w' hgd=> ?_
      obtain⟨G',hs,hd,rfl,o8⟩:=hgd
      exact⟨hd,A1 h hs o8⟩
    · rename_i v st he
      split at h
      · simp at h
      · simp only[Option.some.injEq] at h
        subst h
        refine wp_mono (lM hm ai body _ _ _ he G w _ hst) fun ex a' w' hgd=> ?_
        obtain⟨G',hs,hd,x,rfl,hx,hH'⟩:=hgd
        refine⟨hd,x,G',rfl,hs,fun i o ho=> ?_,hx⟩
        have:=yS ho
        rw[Nat.zero_add] at this
        exact hH' _ _ this
    · simp at h
def FL (C:dI)(X:Ext):Prop:=∀g s,X g=some s→∀ev,aF C ev→∀args aX r,s ev args aX=some r→∀(G:Gh) (w:World) (vs:List Value),WF G w→jV C G→AY G aX.length→
 HR G w (cU 0 aX)→cZ G args vs→mB C.P g vs.toArray w (wR G w aX.length r)
theorem qo (hm:C.P.prog.follows .mixedOrders=true){X:Ext}(hX:FL C X):∀n,aF C (CM C X n):=by
  intro n
  induction n with
  |zero=>intro g args aX r h;simp[CM] at h
  | succ n ih=>
    intro g args aX r h G w vs hw hg had hH hv
    simp only[CM] at h
    split at h
    · rename_i s hs
      exact hX g s hs _ ih args aX r h G w vs hw hg had hH hv
    · exact SJ hm ih h hw hg had hH hv
end
end Go.Abs
