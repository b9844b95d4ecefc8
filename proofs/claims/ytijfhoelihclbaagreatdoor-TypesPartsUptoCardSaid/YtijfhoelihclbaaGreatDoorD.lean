/- Regions that draw their order are right. -/
import Derived.Test.YtijfhoelihclbaaGreatDoorC
import Derived.LoopN
namespace Go.Abs
open Go
section
variable {C:dh}{ev:aS}{f:FuncId}{ops:Array Oper}{st:St}{recs:List Rec}
structure tZ (C:dh)(ev:aS)(f:FuncId)(ops:Array Oper)(st:St)(recs:List Rec):Prop where
 len:recs.length=ops.size
 at':∀(j:Nat) (o:Oper),ops.toList[j]?=some o→∃r,recs[j]?=some r∧Q9 C ev f ops (pY ops.toList []) st.tick j o (jd ops.toList recs {slots:=st.slots,H:=st.H} (fun _=>true) j) (zW recs j)=some r
 free:kL ops ops.toList recs (pY ops.toList []) ops.toList recs 0=true
 back:tN 0 ops.toList=true
abbrev s0 (st:St):vv:={slots:=st.slots,H:=st.H}
theorem tZ.BI (h:tZ C ev f ops st recs){i j:Nat}{x y:Oper}{rx ry:Rec}(hij:i<j)(hx:ops.toList[i]?=some x)(hy:ops.toList[j]?=some y)(E5:recs[i]?=some rx)(hry:recs[j]?=some ry):
  iE (pY ops.toList []) i j=true∨vV ops x y rx ry=true:=by
 obtain⟨hl,_,_⟩:=E2 ops.toList []
 have hjl:j<(pY ops.toList []).length:=by rw[hl];have:=(List.getElem?_eq_some_iff.1 hy).1;simpa using this
 have h1:=Gn h.free j _ y ry (List.getElem?_eq_getElem hjl) hy hry
 have h2:=La h1 i x rx (by rw[Nat.zero_add,List.getElem?_take,if_pos hij];exact hx) (by rw[Nat.zero_add,List.getElem?_take,if_pos hij];exact E5)
 rw[Nat.zero_add] at h2
 refine h2.imp (fun h=> ?_) id
 unfold iE
 rw[List.getD,List.getElem?_eq_getElem hjl]
 exact h
def Ld (ops:Array Oper)(D:Nat→Bool):Prop:=∀(j:Nat) o,D j=true→ops.toList[j]?=some o→∀e∈o.after.toList,Region.binds .any e=true→D e.on=true
theorem Ld.before {D:Nat→Bool}(h:Ld ops D):∀(n i j:Nat) (o:Oper),j<n→ops.toList[j]?=some o→(∀e∈o.after.toList,Region.binds .any e=true→D e.on=true)→iE (pY ops.toList []) i j=true→D i=true:=by
  intro n
  induction n with
  |zero=>intro i j o hl;omega
  | succ n ih=>
    intro i j o hl ho he hb
    obtain⟨_,_,h3⟩:=E2 ops.toList []
    obtain⟨e,h4,h5,h6⟩:=h3 j o i ho (by simpa using hb)
    have hd:=he e h4 h5
    rcases h6 with rfl|⟨h6,h7⟩
    · exact hd
    · simp at h6
      cases ho':ops.toList[e.on]? with
      | none=>
        have:=List.getElem?_eq_none_iff.1 ho'
        have:=(List.getElem?_eq_some_iff.1 ho).1
        omega
      |some o'=>exact ih i e.on o' (by omega) ho' (h e.on o' hd ho') h7
theorem sg {a b:List Nm}(h:F9 a b=true){k:Nm}(ha:k∈a):k∉b:=by
 have:=List.all_eq_true.1 h k ha
 simpa using this
theorem th {x y:Oper}(h:vU ops x y=true):(∀d,x.dst=some d→d∉y.looksAt ops)∧(∀d,x.dst=some d→y.dst≠some d)∧(∀d,y.dst=some d→d∉x.looksAt ops):=
 Oper.apart_spec (by unfold vU at h;unfold Oper.apart;cases hx:x.dst<;>cases hy:y.dst<;>simp only[hx,hy] at h ⊢<;>exact h)
structure tD (C:dh)(ops:Array Oper)(st:St)(recs:List Rec)(G0:Gh)(w0:World)(a0:Act)(D:Nat→Bool)(G:Gh)(w:World)(a:Act):Prop where
 step:dG G0 w0 G w
 iT:jq C G
 defers:a.defers=a0.defers
 slots:SR G (jd ops.toList recs (s0 st) D ops.size).slots a
 heap:HR G w (jd ops.toList recs (s0 st) D ops.size).H
 fresh:∀p,G.dom (.loc p)→∃n q,p=n::q∧(n<st.tick∨∃j,D j=true∧j<ops.size∧n=st.tick+j)
 closed:Ld ops D
 calm:∀j r v u l,D j=true→recs[j]?=some r→r.res≠ .panic v u l
def kB (D:Nat→Bool)(i:Nat):Nat→Bool:=fun j=>if j=i then true else D j
section step
variable {G0 G:Gh}{w0 w:World}{a0 a:Act}{D:Nat→Bool}{i:Nat}{o:Oper}{r:Rec}
theorem tD.RO (hd:tZ C ev f ops st recs)(hi:tD C ops st recs G0 w0 a0 D G w a)(hni:D i=false)(ho:ops.toList[i]?=some o)(hr:recs[i]?=some r)(he:∀e∈o.after.toList,Region.binds .any e=true→D e.on=true)
    {t:Nat}(ht:t∈o.looksAt ops∨o.dst=some t)(hw:∀j,i≤j→j<ops.size→D j=true→True):
    ∀j x,j<ops.size→ops.toList[j]?=some x→x.dst=some t→(D j=true→j<i)∧(j<i→(t∈o.looksAt ops→D j=true)):=by
  intro j x hj hx IV
  obtain⟨rx,E5⟩:∃rx,recs[j]?=some rx:=⟨_,List.getElem?_eq_getElem (by rw[hd.len];exact hj)⟩
  refine⟨fun hD=> ?_,fun hlt hlk=> ?_⟩
  · rcases Nat.lt_trichotomy j i with h|h|h
    · exact h
    · subst h;rw[hni] at hD;cases hD
    · rcases hd.BI h ho hx hr E5 with hb|hb
      · have:=hi.closed.before (j+1) i j x (by omega) hx (hi.closed j x hD hx) hb
        rw[hni] at this;cases this
      · simp only[vV,Bool.and_eq_true] at hb
        obtain⟨⟨⟨hs,_⟩,_⟩,_⟩:=hb
        obtain⟨s1,s2,s3⟩:=th hs
        rcases ht with ht|ht
        · exact absurd ht (s3 t IV)
        · exact absurd IV (s2 t ht)
  · rcases hd.BI hlt hx ho E5 hr with hb|hb
    · exact hi.closed.before (i+1) j i o (by omega) ho he hb
    · simp only[vV,Bool.and_eq_true] at hb
      obtain⟨⟨⟨hs,_⟩,_⟩,_⟩:=hb
      obtain⟨s1,s2,s3⟩:=th hs
      exact absurd hlk (s1 t IV)
theorem tD.RP (hd:tZ C ev f ops st recs)(hi:tD C ops st recs G0 w0 a0 D G w a)(hni:D i=false)(ho:ops.toList[i]?=some o)(hr:recs[i]?=some r)(he:∀e∈o.after.toList,Region.binds .any e=true→D e.on=true)
    {k:Nm}(hk:k∈r.fp∨k∈r.res.keys):
    ∀j x rx,j<ops.size→ops.toList[j]?=some x→recs[j]?=some rx→k∈rx.res.keys→(D j=true→j<i)∧(j<i→D j=true):=by
  intro j x rx hj hx E5 hkx
  refine⟨fun hD=> ?_,fun hlt=> ?_⟩
  · rcases Nat.lt_trichotomy j i with h|h|h
    · exact h
    · subst h;rw[hni] at hD;cases hD
    · rcases hd.BI h ho hx hr E5 with hb|hb
      · have:=hi.closed.before (j+1) i j x (by omega) hx (hi.closed j x hD hx) hb
        rw[hni] at this;cases this
      · simp only[vV,Bool.and_eq_true] at hb
        obtain⟨⟨⟨_,h1⟩,h2⟩,h3⟩:=hb
        rcases hk with hk|hk
        · exact absurd hk (sg h3 hkx)
        · exact absurd hkx (sg h2 hk)
  · rcases hd.BI hlt hx ho E5 hr with hb|hb
    · exact hi.closed.before (i+1) j i o (by omega) ho he hb
    · simp only[vV,Bool.and_eq_true] at hb
      obtain⟨⟨⟨_,h1⟩,h2⟩,h3⟩:=hb
      rcases hk with hk|hk
      · exact absurd hk (sg h1 hkx)
      · exact absurd hk (sg h2 hkx)
theorem IW {l:List Oper}{s:vv}{n:Nat}(hin:i≤n):jd l recs s (fun _=>true) i=jd l recs s (fun j=>decide (j<i)) n:=by
 rw[qV (D:=fun j=>decide (j<i)) hin (fun j h1 h2=>by simp;omega)]
 exact uQ fun j hj=>by simp[hj]
theorem tD.look (hd:tZ C ev f ops st recs)(hi:tD C ops st recs G0 w0 a0 D G w a)(hni:D i=false)(ho:ops.toList[i]?=some o)(hr:recs[i]?=some r)(he:∀e∈o.after.toList,Region.binds .any e=true→D e.on=true):
    j6 (o.looksAt ops) 0 (jd ops.toList recs (s0 st) (fun _=>true) i).slots=j6 (o.looksAt ops) 0 (jd ops.toList recs (s0 st) D ops.size).slots:=by
  have hin:i≤ops.size:=by have:=(List.getElem?_eq_some_iff.1 ho).1;simp at this;omega
  refine IU (by rw[Cw,Cw]) fun t ht=> ?_
  rw[IW hin]
  refine xP fun j x hj hx IV=> ?_
  obtain⟨h1,h2⟩:=hi.RO hd hni ho hr he (.inl ht) (fun _ _ _ _=>trivial) j x hj hx IV
  by_cases hlt:j<i
  · simp[hlt,h2 hlt ht]
  · have:D j=false:=by
      cases hD:D j with
      |false=>rfl
      |true=>exact absurd (h1 hD) hlt
    simp[hlt,this]
theorem tD.sees (hd:tZ C ev f ops st recs)(hi:tD C ops st recs G0 w0 a0 D G w a)(hni:D i=false)(ho:ops.toList[i]?=some o)(hr:recs[i]?=some r)(he:∀e∈o.after.toList,Region.binds .any e=true→D e.on=true)
    {k:Nm}(hk:k∈r.fp):(jd ops.toList recs (s0 st) (fun _=>true) i).H.get k=(jd ops.toList recs (s0 st) D ops.size).H.get k:=by
  have hin:i≤ops.size:=by have:=(List.getElem?_eq_some_iff.1 ho).1;simp at this;omega
  rw[IW hin]
  refine xQ fun j rx hj E5 hkx=> ?_
  obtain⟨x,hx⟩:∃x,ops.toList[j]?=some x:=⟨_,List.getElem?_eq_getElem (by simpa using hj)⟩
  obtain⟨h1,h2⟩:=hi.RP hd hni ho hr he (.inl hk) j x rx hj hx E5 hkx
  by_cases hlt:j<i
  · simp[hlt,h2 hlt]
  · have:D j=false:=by
      cases hD:D j with
      |false=>rfl
      |true=>exact absurd (h1 hD) hlt
    simp[hlt,this]
theorem tD.Py (hd:tZ C ev f ops st recs)(hi:tD C ops st recs G0 w0 a0 D G w a)(hni:D i=false)(ho:ops.toList[i]?=some o)(hr:recs[i]?=some r)(he:∀e∈o.after.toList,Region.binds .any e=true→D e.on=true)
    (t:Nat):(jd ops.toList recs (s0 st) (kB D i) ops.size).slots[t]?=((jd ops.toList recs (s0 st) D ops.size).after o r.res).slots[t]?:=by
  have hin:i<ops.size:=by have:=(List.getElem?_eq_some_iff.1 ho).1;simpa using this
  by_cases aae:o.dst=some t
  · have key:∀j x,j<ops.size→ops.toList[j]?=some x→x.dst=some t→D j=true→j<i:=fun j x hj hx IV=>(hi.RO hd hni ho hr he (.inr aae) (fun _ _ _ _=>trivial) j x hj hx IV).1
    have e1:(jd ops.toList recs (s0 st) (kB D i) ops.size).slots[t]?=(jd ops.toList recs (s0 st) (fun j=>decide (j<i+1)&&kB D i j) ops.size).slots[t]?:=by
      refine xP fun j x hj hx IV=> ?_
      by_cases hlt:j<i+1
      · simp[hlt]
      · have hD:D j=false:=by
          cases hD:D j with
          |false=>rfl
          |true=>exact absurd (key j x hj hx IV hD) (by omega)
        have:j≠i:=by omega
        simp[hlt,kB,this,hD]
    have e2:(jd ops.toList recs (s0 st) D ops.size).slots[t]?=(jd ops.toList recs (s0 st) (fun j=>decide (j<i)&&D j) ops.size).slots[t]?:=by
      refine xP fun j x hj hx IV=> ?_
      by_cases hlt:j<i
      · simp[hlt]
      · have hD:D j=false:=by
          cases hD:D j with
          |false=>rfl
          |true=>exact absurd (key j x hj hx IV hD) (by omega)
        simp[hlt,hD]
    have e3:jd ops.toList recs (s0 st) (fun j=>decide (j<i+1)&&kB D i j) ops.size=jd ops.toList recs (s0 st) (fun j=>decide (j<i+1)&&kB D i j) (i+1):=
      qV (by omega) fun j h1 h2=>by
        have:¬j<i+1:=by omega
        simp[this]
    have e4:jd ops.toList recs (s0 st) (fun j=>decide (j<i)&&D j) ops.size=jd ops.toList recs (s0 st) (fun j=>decide (j<i)&&D j) i:=
      qV (by omega) fun j h1 h2=>by
        have:¬j<i:=by omega
        simp[this]
    have e5:jd ops.toList recs (s0 st) (fun j=>decide (j<i+1)&&kB D i j) i=jd ops.toList recs (s0 st) (fun j=>decide (j<i)&&D j) i:=
      uQ fun j hj=>by
        have h1:j<i+1:=by omega
        have h2:j≠i:=by omega
        simp[h1,hj,kB,h2]
    rw[e1,e3]
    rw[mA (e2.trans (by rw[e4]))]
    simp only[jd,ho,hr]
    rw[e5]
    simp[kB]
  · rw[Ct aae]
    refine xP fun j x hj hx IV=> ?_
    have:j≠i:=fun e=>by
      subst e
      rw[ho] at hx
      simp at hx
      subst hx
      exact aae IV
    simp[kB,this]
theorem tD.RQ (hd:tZ C ev f ops st recs)(hi:tD C ops st recs G0 w0 a0 D G w a)(hni:D i=false)(ho:ops.toList[i]?=some o)(hr:recs[i]?=some r)(he:∀e∈o.after.toList,Region.binds .any e=true→D e.on=true)
    (k:Nm):(jd ops.toList recs (s0 st) (kB D i) ops.size).H.get k=((jd ops.toList recs (s0 st) D ops.size).after o r.res).H.get k:=by
  have hin:i<ops.size:=by have:=(List.getElem?_eq_some_iff.1 ho).1;simpa using this
  by_cases hk:k∈r.res.keys
  · have key:∀j rx,j<ops.size→recs[j]?=some rx→k∈rx.res.keys→D j=true→j<i:=fun j rx hj E5 hkx=>by
      obtain⟨x,hx⟩:∃x,ops.toList[j]?=some x:=⟨_,List.getElem?_eq_getElem (by simpa using hj)⟩
      exact(hi.RP hd hni ho hr he (.inr hk) j x rx hj hx E5 hkx).1
    have e1:(jd ops.toList recs (s0 st) (kB D i) ops.size).H.get k=(jd ops.toList recs (s0 st) (fun j=>decide (j<i+1)&&kB D i j) ops.size).H.get k:=by
      refine xQ fun j x hj hx IV=> ?_
      by_cases hlt:j<i+1
      · simp[hlt]
      · have hD:D j=false:=by
          cases hD:D j with
          |false=>rfl
          |true=>exact absurd (key j x hj hx IV hD) (by omega)
        have:j≠i:=by omega
        simp[hlt,kB,this,hD]
    have e2:(jd ops.toList recs (s0 st) D ops.size).H.get k=(jd ops.toList recs (s0 st) (fun j=>decide (j<i)&&D j) ops.size).H.get k:=by
      refine xQ fun j x hj hx IV=> ?_
      by_cases hlt:j<i
      · simp[hlt]
      · have hD:D j=false:=by
          cases hD:D j with
          |false=>rfl
          |true=>exact absurd (key j x hj hx IV hD) (by omega)
        simp[hlt,hD]
    have e3:jd ops.toList recs (s0 st) (fun j=>decide (j<i+1)&&kB D i j) ops.size=jd ops.toList recs (s0 st) (fun j=>decide (j<i+1)&&kB D i j) (i+1):=
      qV (by omega) fun j h1 h2=>by
        have:¬j<i+1:=by omega
        simp[this]
    have e4:jd ops.toList recs (s0 st) (fun j=>decide (j<i)&&D j) ops.size=jd ops.toList recs (s0 st) (fun j=>decide (j<i)&&D j) i:=
      qV (by omega) fun j h1 h2=>by
        have:¬j<i:=by omega
        simp[this]
    have e5:jd ops.toList recs (s0 st) (fun j=>decide (j<i+1)&&kB D i j) i=jd ops.toList recs (s0 st) (fun j=>decide (j<i)&&D j) i:=
      uQ fun j hj=>by
        have h1:j<i+1:=by omega
        have h2:j≠i:=by omega
        simp[h1,hj,kB,h2]
    rw[e1,e3]
    rw[nE (e2.trans (by rw[e4]))]
    simp only[jd,ho,hr]
    rw[e5]
    simp[kB]
  · rw[E3 hk]
    refine xQ fun j rx hj E5 hkx=> ?_
    have:j≠i:=fun e=>by
      subst e
      rw[hr] at E5
      simp at E5
      subst E5
      exact hk hkx
    simp[kB,this]
theorem tD.next (hd:tZ C ev f ops st recs)(hi:tD C ops st recs G0 w0 a0 D G w a)(hni:D i=false)(ho:ops.toList[i]?=some o)(hr:recs[i]?=some r)(he:∀e∈o.after.toList,Region.binds .any e=true→D e.on=true)
    (adA:∀v u l,r.res≠ .panic v u l){G':Gh}{w':World}{a':Act}(hs:dG G w G' w')(hde:a'.defers=a.defers)(hg:jq C G')
    (Rq:SR G' ((jd ops.toList recs (s0 st) D ops.size).after o r.res).slots a')(hh:HR G' w' ((jd ops.toList recs (s0 st) D ops.size).after o r.res).H)
    (hfr:∀p,G'.dom (.loc p)→G.dom (.loc p)∨∃q,p=(st.tick+i)::q):tD C ops st recs G0 w0 a0 (kB D i) G' w' a':=by
  have hin:i<ops.size:=by have:=(List.getElem?_eq_some_iff.1 ho).1;simpa using this
  refine⟨hi.step.comp hs,hg,hde.trans hi.defers, ?_,fun k ob hk=>hh k ob (by rw[← hi.RQ hd hni ho hr he];exact hk),fun p hp=> ?_,fun j x hD hx e he' hb=> ?_,fun j rx v u l hD E5=> ?_⟩
  · have:(jd ops.toList recs (s0 st) (kB D i) ops.size).slots=((jd ops.toList recs (s0 st) D ops.size).after o r.res).slots:=List.ext_getElem? (hi.Py hd hni ho hr he)
    rw[this]
    exact Rq
  · rcases hfr p hp with h|⟨q,e⟩
    · obtain⟨n,q,e,h1⟩:=hi.fresh p h
      refine⟨n,q,e,h1.imp id fun⟨j,h2,h3,h4⟩=>⟨j, ?_,h3,h4⟩⟩
      simp only[kB];split<;>simp_all
    · exact⟨_,q,e,.inr ⟨i,by simp[kB],hin,rfl⟩⟩
  · by_cases e1:e.on=i
    · simp[kB,e1]
    · simp only[kB,if_neg e1]
      by_cases e2:j=i
      · subst e2
        rw[ho] at hx;simp at hx;subst hx
        exact he e he' hb
      · simp only[kB,if_neg e2] at hD
        exact hi.closed j x hD hx e he' hb
  · by_cases e2:j=i
    · subst e2
      rw[hr] at E5;simp at E5;subst E5
      exact adA v u l
    · simp only[kB,if_neg e2] at hD
      exact hi.calm j rx v u l hD E5
end step
theorem Le {bs:List Nat}{t0 i:Nat}{o:Oper}{s:vv}{pX:Option Nat}{r:Rec}(h:Q9 C ev f ops bs t0 i o s pX=some r):
    (∃j,pX=some j∧iE bs j i=true∧r.res=.xq)∨
    (dF ops (j6 (o.looksAt ops) 0 s.slots) o=some false∧r.res=.unwanted)∨
    (dF ops (j6 (o.looksAt ops) 0 s.slots) o=some true∧∃v u,aX C ev f (l5 s.H r.fp) (j6 (o.looksAt ops) 0 s.slots) (t0+i) o=some (.val v u)∧r.res=.val v u∧(pX.isSome=true→u=[]))∨
    (dF ops (j6 (o.looksAt ops) 0 s.slots) o=some true∧∃v u l,aX C ev f (l5 s.H r.fp) (j6 (o.looksAt ops) 0 s.slots) (t0+i) o=some (.panic v u l)∧r.res=.panic v u l∧pX=none):=by
  unfold Q9 at h
  split at h
  · rename_i hp
    simp at h;subst h
    split at hp
    · rename_i j;exact .inl ⟨j,rfl,hp,rfl⟩
    · simp at hp
  · split at h
    · simp at h
    · rename_i hw
      simp at h;subst h
      exact .inr (.inl ⟨hw,rfl⟩)
    · rename_i hw
      split at h
      · simp at h
      · rename_i fp Nj
        split at h
        · simp at h
        · rename_i v u hx
          split at h
          · simp at h
          · rename_i hc
            simp at h;subst h
            refine .inr (.inr (.inl ⟨hw,v,u,hx,rfl,fun hp=> ?_⟩))
            simp[hp] at hc
            exact hc
        · rename_i v u l hx
          split at h
          · simp at h
          · simp at h;subst h
            exact .inr (.inr (.inr ⟨hw,v,u,l,hx,rfl,rfl⟩))
theorem vG {H:Heap}{slots:List TV}{t:Nat}{o:Oper}{r:vS}(h:aX C ev f H slots t o=some r):∀cs b,o.op≠ .select cs b:=by
 intro cs b e
 unfold aX at h
 rw[e] at h
 simp[evalOp,e] at h
theorem RR (ai:aF C ev)(hd:tZ C ev f ops st recs){G0:Gh}{w0:World}{a0:Act}(hst:w5 C G0 w0 st a0){e:aV}{st':St}{Q:Exit→Act→World→Prop}
    (hQ:∀ex a' w',Good C G0 w0 a0 e st' ex a' w'→Q ex a' w')
    (hend:jo 0 recs=none→e=.normal∧st'={slots:=(jd ops.toList recs (s0 st) (fun _=>true) ops.size).slots,H:=(jd ops.toList recs (s0 st) (fun _=>true) ops.size).H,tick:=st.tick+ops.size})
    (aiA:∀j v u l,jo 0 recs=some (j,v,u,l)→e=.panic v∧st'={slots:=st.slots,H:=((jd ops.toList recs (s0 st) (fun _=>true) ops.size).H.tB (l++zN ((pY ops.toList []).getD j 0) 0 (recs.take j))).dJ u,tick:=st.tick+ops.size}):
    ∀(fuel:Nat) (listed:Array Bool) (G:Gh) (w:World) (a:Act),listed.size=ops.size→listed.toList.countP (· ==false)≤fuel→tD C ops st recs G0 w0 a0 (fun j=>listed.getD j false) G w a→wpAny C.P .any ops Q fuel listed a w:=by
  have hat:∀(i:Nat) (o:Oper),ops[i]?=some o↔ops.toList[i]?=some o:=fun i o=>by simp
  have hall :∀(listed:Array Bool),listed.size=ops.size→Region.ready .any ops listed=[]→∀j,j<ops.size→listed.getD j false=true:=by
    intro listed hsz hr j
    induction j using Nat.strongRecOn with
    | _ j ih=>
      intro hj
      cases hD:listed.getD j false with
      |true=>rfl
      | false=>
        have:j∈Region.ready .any ops listed:=by
          rw[mem_ready]
          refine⟨?_,ops[j],Array.getElem?_eq_getElem hj,fun e he hb=> ?_⟩
          · rw[Array.getD_eq_getD_getElem?] at hD ⊢
            rw[Array.getElem?_eq_getElem (by omega)] at hD ⊢
            exact hD
          · have:=Pt hd.back j ops[j] (by simp[hj]) e (by simpa using he) hb
            exact ih e.on (by omega) (by omega)
        rw[hr] at this
        simp at this
  have hdone:∀(listed:Array Bool) (G:Gh) (w:World) (a:Act),listed.size=ops.size→tD C ops st recs G0 w0 a0 (fun j=>listed.getD j false) G w a→Region.ready .any ops listed=[]→Q .normal a w:=by
    intro listed G w a hsz hi hr
    have hl:=hall listed hsz hr
    cases hp:jo 0 recs with
    | some q=>
      obtain⟨j,v,u,l⟩:=q
      obtain⟨k,r,h1,h2,h3⟩:=xR hp
      have hk:k<ops.size:=by rw[← hd.len];exact(List.getElem?_eq_some_iff.1 h2).1
      exact absurd h3 (hi.calm k r v u l (hl k hk) h2)
    | none=>
      obtain⟨rfl,rfl⟩:=hend hp
      have hsame:jd ops.toList recs (s0 st) (fun j=>listed.getD j false) ops.size=jd ops.toList recs (s0 st) (fun _=>true) ops.size:=uQ fun j hj=>hl j hj
      refine hQ _ _ _ ⟨G,hi.step,hi.defers,rfl,hi.step.wf,hi.iT, ?_, ?_,fun p hp=> ?_⟩
      · have:=hi.slots;rw[hsame] at this;exact this
      · have:=hi.heap;rw[hsame] at this;exact this
      · obtain⟨n,q,e,h⟩:=hi.fresh p hp
        refine⟨n,q,e, ?_⟩
        rcases h with h|⟨j,_,h,rfl⟩
        · simp only;omega
        · simp only;omega
  intro fuel
  induction fuel with
  | zero=>
    intro listed G w a hsz hc hi
    have hcz:listed.toList.countP (· ==false)=0:=by omega
    have hl:∀j,j<ops.size→listed.getD j true=true:=by
      intro j hj
      rw[List.countP_eq_zero] at hcz
      have:=hcz listed[j] (by simp)
      rw[Array.getD_eq_getD_getElem?,Array.getElem?_eq_getElem (by omega)]
      simpa using this
    have hr:Region.ready .any ops listed=[]:=by
      refine List.eq_nil_iff_forall_not_mem.2 fun j hj=> ?_
      rw[mem_ready] at hj
      obtain⟨h1,o,h2,_⟩:=hj
      have:=hl j (Array.getElem?_eq_some_iff.1 h2).1
      rw[this] at h1;cases h1
    exact⟨hr,hdone listed G w a hsz hi hr⟩
  | succ fuel ih=>
    intro listed G w a hsz hc hi
    refine⟨hdone listed G w a hsz hi,fun i hmem=> ?_⟩
    rw[mem_ready] at hmem
    obtain⟨aaf,o,ho',aag⟩:=hmem
    have hin:i<ops.size:=(Array.getElem?_eq_some_iff.1 ho').1
    have hni:listed.getD i false=false:=by
      rw[Array.getD_eq_getD_getElem?] at aaf ⊢
      rw[Array.getElem?_eq_getElem (by omega)] at aaf ⊢
      exact aaf
    have ho:=(hat i o).1 ho'
    have he:∀e∈o.after.toList,Region.binds .any e=true→listed.getD e.on false=true:=fun e h1 h2=>aag e (by simpa using h1) h2
    obtain⟨r,hr,hop⟩:=hd.at' i o ho
    have adB:=hi.look hd hni ho hr he
    have E6:=WI hi.slots (o.looksAt ops)
    rw[← adB] at E6
    have hheap:HR G w (l5 (jd ops.toList recs (s0 st) (fun _=>true) i).H r.fp):=by
      intro k ob hk
      obtain⟨h1,h2⟩:=Px hk
      rw[hi.sees hd hni ho hr he h1] at h2
      exact hi.heap k ob h2
    have hfresh:∀p,¬G.dom (.loc ((st.tick+i)::p)):=by
      intro p tC
      obtain⟨n,q,e1,h⟩:=hi.fresh _ tC
      simp at e1
      rcases h with h|⟨j,h1,h2,h3⟩
      · omega
      · have:j=i:=by omega
        subst this
        rw[hni] at h1;cases h1
    have aiB:(listed.setIfInBounds i true).toList.countP (· ==false)≤fuel:=by
      rw[Array.toList_setIfInBounds,List.countP_set (by simp;omega)]
      have h1:(listed.toList[i]'(by simp;omega)==false)=true:=by
        rw[Array.getD_eq_getD_getElem?,Array.getElem?_eq_getElem (by omega)] at hni
        simpa using hni
      rw[if_pos h1]
      have h2:(if((true:Bool)==false)=true then 1 else 0)=0:=rfl
      rw[h2]
      omega
    have adC:(fun j=>(listed.setIfInBounds i true).getD j false)=kB (fun j=>listed.getD j false) i:=by
      funext j
      simp only[kB]
      by_cases e1:j=i
      · subst e1
        rw[Array.getD_eq_getD_getElem?,Array.getElem?_setIfInBounds_self_of_lt (by omega)]
        simp
      · rw[if_neg e1,getD_set_ne false (fun h=>e1 h.symm)]
    have hnext:∀{G':Gh} {w':World} {a':Act},tD C ops st recs G0 w0 a0 (kB (fun j=>listed.getD j false) i) G' w' a'→wpAny C.P .any ops Q fuel (listed.setIfInBounds i true) a' w':=by
      intro G' w' a' hi'
      rw[← adC] at hi'
      exact ih _ G' w' a' (by simpa using hsz) aiB hi'
    unfold wpOp
    rw[ho']
    simp only
    rcases Le hop with ⟨j,hp,hb,hres⟩|⟨hw,hres⟩|⟨hw,v,u,hx,hres,hq⟩|⟨hw,v,u,l,hx,hres,hp⟩
    ·
      obtain⟨_,rj,vj,uj,lj,h1,h2⟩:=Pv hp
      have hD:=hi.closed.before (i+1) j i o (by omega) ho he hb
      exact absurd h2 (hi.calm j rj vj uj lj hD h1)
    · have:=iz hw E6
      rw[tY] at this
      rw[this]
      refine hnext (hi.next hd hni ho hr he (by rw[hres];simp) (Step.refl hi.step.wf _ _) (put_defers _ _ _) hi.iT ?_ ?_ (fun p h=>.inl h))
      · rw[hres];exact hi.slots.put o.dst (mX G)
      · rw[hres];exact hi.heap
    · have:=iz hw E6
      rw[tY] at this
      rw[this]
      refine .inl ?_
      have hex:=qU ai hx hi.step.wf hi.iT E6 hheap hfresh
      unfold jC at hex
      rw[E4 (vG hx)] at hex
      refine jC.wp (R:=kM (st.tick+i) G w (.val v u)) hex kM.no (fun x w' hR=> ?_) (fun ch w' hR=> ?_)
      · obtain⟨x',G',e1,hs,hu,hv⟩:=hR
        simp at e1;subst e1
        refine hnext (hi.next hd hni ho hr he (by rw[hres];simp) hs.any (put_defers _ _ _) (hi.iT.mono hs.le) ?_ ?_ (fun p h=> ?_))
        · rw[hres];exact(hi.slots.mono hs.le).put o.dst hv
        · rw[hres];exact HR.dJ hs hi.step.wf hi.heap hu (fun k _ hk=>hk)
        · rcases hs.news _ h with h|⟨q,e2⟩
          · exact .inl h
          · simp at e2;exact .inr ⟨q,e2⟩
      · obtain⟨x',G',e1,_⟩:=hR
        simp at e1
    · have:=  iz hw E6
      rw[tY] at this
      rw[this]
      refine .inl ?_
      have hex:=qU ai hx hi.step.wf hi.iT E6 hheap hfresh
      unfold jC at hex
      rw[E4 (vG hx)] at hex
      refine jC.wp (R:=kM (st.tick+i) G w (.panic v u l)) hex kM.no (fun x w' hR=> ?_) (fun ch w' hR=> ?_)
      · obtain⟨x',G',e1,_⟩:=hR
        simp at e1
      · obtain⟨x',G',e1,hs,hu,hv⟩:=hR
        simp at e1;subst e1
        have hpa:jo 0 recs=some (i,v,u,l):=by
          cases hpa:jo 0 recs with
          |none=>exact absurd hres (Gr hpa r (List.mem_of_getElem? hr) v u l)
          | some q=>
            obtain⟨j,v',u',l'⟩:=q
            obtain⟨k,rk,h1,h2,h3⟩:=xR hpa
            rcases Nat.lt_trichotomy k i with h|h|h
            · have:=tX h h2 h3
              rw[hp] at this;simp at this
            · subst h
              rw[hr] at h2;simp at h2;subst h2
              rw[hres] at h3
              simp at h3
              obtain⟨rfl,rfl,rfl⟩:=h3
              simp at h1;subst h1;rfl
            · obtain⟨ok,hok⟩:∃ok,ops.toList[k]?=some ok:=⟨_,List.getElem?_eq_getElem (by have:=(List.getElem?_eq_some_iff.1 h2).1;rw[hd.len] at this;simpa using this)⟩
              obtain⟨rk',hrk,aiC⟩:=hd.at' k ok hok
              rw[h2] at hrk;simp at hrk;subst hrk
              have hsome:=tX h hr hres
              rcases Le aiC with ⟨_,_,_,q⟩|⟨_,q⟩|⟨_,_,_,_,q,_⟩|⟨_,_,_,_,_,_,q⟩
              · rw[h3] at q;simp at q
              · rw[h3] at q;simp at q
              · rw[h3] at q;simp at q
              · rw[q] at hsome;simp at hsome
        obtain⟨rfl,rfl⟩:=aiA i v u l hpa
        refine hQ _ _ _ ⟨G',hi.step.comp hs.any,hi.defers,x',rfl,hv, ?_⟩
        intro k ob hk
        rcases Heap.qP _ u k ob hk with h1|⟨h1,hn⟩
        · exact hu k ob h1
        · rw[ Heap.tQ] at h1
          split at h1
          · simp at h1
          rename_i hl
          simp only[List.mem_append,not_or] at hl
          have hsame:(jd ops.toList recs (s0 st) (fun _=>true) ops.size).H.get k=(jd ops.toList recs (s0 st) (fun j=>listed.getD j false) ops.size).H.get k:=by
            refine xQ fun j rj hj hrj hkj=> ?_
            have hji:j≠i:=fun e1=>by
              subst e1
              rw[hr] at hrj;simp at hrj;subst hrj
              rw[hres] at hkj
              simp only[xo.keys,List.mem_append] at hkj
              exact hkj.elim hn hl.1
            rcases Nat.lt_or_gt_of_ne hji with h|h
            · have:=Lc hl.2 j rj (by rw[List.getElem?_take,if_pos h];exact hrj) hkj
              rw[Nat.zero_add] at this
              exact(hi.closed.before (i+1) j i o (by omega) ho he this).symm
            · exfalso
              obtain⟨oj,hoj⟩:∃oj,ops.toList[j]?=some oj:=⟨_,List.getElem?_eq_getElem (by simpa using hj)⟩
              obtain⟨rj',aah,aiD⟩:=hd.at' j oj hoj
              rw[hrj] at aah;simp at aah;subst aah
              have hsome:=tX h hr hres
              rcases Le aiD with ⟨_,_,_,q⟩|⟨_,q⟩|⟨_,_,_,_,q,q2⟩|⟨_,_,_,_,_,_,q⟩
              · rw[q] at hkj;simp[xo.keys] at hkj
              · rw[q] at hkj;simp[xo.keys] at hkj
              · rw[q,q2 hsome] at hkj;simp[xo.keys] at hkj
              · rw[q] at hsome;simp at hsome
          rw[hsame] at h1
          obtain⟨d,hob⟩:=hi.heap k ob h1
          exact⟨hs.le.dom _ d,hs.keeps hi.step.wf d (fun hx=>by rcases List.mem_append.1 hx with hx|hx;exact hn hx;exact hl.1 hx) hob⟩
theorem Cx (hm:C.P.prog.follows .mixedOrders=true)(ai:aF C ev){e:aV}{st':St}(h:p7 C ev f ops st=some (e,st')){G:Gh}{w:World}{a:Act}(hst:w5 C G w st a){id:Nat}
    {Q:Exit→Act→World→Prop}(hQ:∀ex a' w',Good C G w a e st' ex a' w'→Q ex a' w'):(Code.region id ops true).wp C.P Q a w:=by
  unfold p7 at h
  simp only at h
  split at h
  · simp at h
  rename_i recs adD
  split at h
  case isFalse=>simp at h
  rename_i hfree
  obtain⟨h1,h2⟩:=WG (l:=ops.toList) (recs:=recs) (s0:=s0 st) (D:=fun _=>true) (fun _=>rfl) (i:=0) adD (by simp) (by simp)
  have hd:tZ C ev f ops st recs:=⟨by simpa using h1,fun j o ho=>by have:=h2 j o ho;simpa using this,hfree.1,hfree.2⟩
  have YI:xw ops.toList recs {slots:=st.slots,H:=st.H}=jd ops.toList recs (s0 st) (fun _=>true) ops.size:=by
    have:=Pu (l:=ops.toList) (recs:=recs) (s0:=s0 st) (D:=fun _=>true) (fun _=>rfl) (os:=ops.toList) (rs:=recs) (i:=0) h1.symm (by simp) (by simp)
    simpa [jd] using this
  refine wp_region_any hm ?_
  have hw':World:={w with drawn:=w.drawn+1}
  have hstep:dG G w G {w with drawn:=w.drawn+1}:=⟨.refl G,⟨hst.wf.F,hst.wf.inj,hst.wf.lt⟩,fun _ _ _=>⟨rfl,rfl⟩,fun _ _ _=>⟨rfl,fun _=>rfl⟩,fun _ h=>.inl h,fun _ h=>.inl ⟨h,rfl⟩,Nat.le_refl _,rfl,rfl,rfl⟩
  have nG:w5 C G {w with drawn:=w.drawn+1} st a:=⟨hstep.wf,hst.iT,hst.slots,hst.heap,hst.fresh⟩
  refine RR ai hd nG (Q:=Q) (e:=e) (st':=st') (fun ex a' w' hg=>hQ ex a' w' (Good.comp hstep rfl hg)) (fun hp=> ?_) (fun j v u l hp=> ?_) ops.size _ G _ a (by simp) ?_ ?_
  · simp only[hp,YI] at h
    simp at h
    exact⟨h.1.symm,h.2.symm⟩
  · simp only[hp,YI] at h
    simp only[Option.some.injEq,Prod.mk.injEq] at h
    exact⟨h.1.symm,h.2.symm⟩
  · simp[List.countP_replicate]
  · have hnone:jd ops.toList recs (s0 st) (fun j=>(Array.replicate ops.size false).getD j false) ops.size=s0 st:=by
      rw[qV (m:=0) (by omega) (fun j _ hj=>by simp[Array.getD_eq_getD_getElem?,Array.getElem?_replicate,hj])]
      rfl
    refine⟨Step.refl nG.wf _ _,nG.iT,rfl,by rw[hnone];exact nG.slots,by rw[hnone];exact nG.heap,fun p hp=> ?_,fun j x hD=> ?_,fun j r v u l hD=> ?_⟩
    · obtain⟨n,q,e1,h3⟩:=nG.fresh p hp
      exact⟨n,q,e1,.inl h3⟩
    · exfalso
      simp only[Array.getD_eq_getD_getElem?,Array.getElem?_replicate] at hD
      split at hD<;>simp at hD
    · exfalso
      simp only[Array.getD_eq_getD_getElem?,Array.getElem?_replicate] at hD
      split at hD<;>simp at hD
end
end Go.Abs

namespace Go.Abs
open Go
section
variable {C:dh}{ev:aS}{f:FuncId}
theorem Good.si {G:Gh}{w:World}{a:Act}{st':St}{ex:Exit}{a':Act}{w':World}(h:Good C G w a .normal st' ex a' w'):ex=.normal∧a'.defers=a.defers∧∃G',dG G w G' w'∧w5 C G' w' st' a':=by
 obtain⟨G',h1,h2,h3,h4⟩:=h
 exact⟨h3,h2,G',h1,h4⟩
theorem Good.jD {G:Gh}{w:World}{a:Act}{e:aV}{st':St}{ex:Exit}{a':Act}{w':World}(h:Good C G w a e st' ex a' w')(he:e≠ .normal):ex≠ .normal:=by
 obtain⟨G',h1,h2,h3⟩:=h
 cases e with
 |normal=>exact absurd rfl he
 |exit id=>intro e;simp only at h3;rw[e] at h3;simp at h3
 |ret=>intro e;simp only at h3;rw[e] at h3;simp at h3
 |panic v=>intro e;obtain⟨x,h4,_⟩:=h3;rw[e] at h4;simp at h4
theorem jE {next:Act→World→Prop}{Q:Exit→Act→World→Prop}{ex:Exit}{a:Act}{w:World}(h:ex≠ .normal)(hq:Q ex a w):Exit.then next Q ex a w:=by
 cases ex<;>first|exact hq|exact absurd rfl h
def RS (C:dh)(c:Code)(body:St→Option (aV×St)):Prop:=∀st e st',body st=some (e,st')→∀(G:Gh) (w:World) (a:Act),w5 C G w st a→c.wp C.P (Good C G w a e st') a w
theorem RT {c:Code}{body:St→Option (aV×St)}(h:RS C c body):∀(n:Nat) (st:St) (e:aV) (st':St),B2 body n st=some (e,st')→∀(G:Gh) (w:World) (a:Act),w5 C G w st a→
    ∀Q:Exit→Act→World→Prop,(∀ex a' w',Good C G w a e st' ex a' w'→Q ex a' w')→Code.rounds C.P c Q n a w:=by
  intro n
  induction n with
  |zero=>intro st e st' hi;simp[B2] at hi
  | succ n ih=>
    intro st e st' hi G w a hst Q hQ
    simp only[B2] at hi
    rw[rounds_succ]
    split at hi
    · rename_i st1 hb
      refine wp_mono (h st _ _ hb G w a hst) fun ex a1 w1 hg=> ?_
      obtain⟨rfl,hd,G1,hs,mB⟩:=hg.si
      exact ih st1 e st' hi G1 w1 a1 mB Q fun ex a' w' hg'=>hQ _ _ _ (Good.comp hs hd hg')
    · rename_i hne
      have he:e≠ .normal:=fun e1=>by subst e1;exact hne st' hi
      refine wp_mono (h st _ _ hi G w a hst) fun ex a1 w1 hg=>jE (hg.jD he) (hQ _ _ _ hg)
theorem kN (hm:C.P.prog.follows .mixedOrders=true)(ai:aF C ev){fuel:Nat}:∀(c:Code),RS C c (evalCode C ev f fuel c):=by
  intro c
  induction c with
  | skip=>
    intro st e st' h G w a hst
    simp[evalCode] at h
    obtain⟨rfl,rfl⟩:=h
    exact wp_skip ⟨G,Step.refl hst.wf _ _,rfl,rfl,hst⟩
  | label l=>
    intro st e st' h G w a hst
    simp[evalCode] at h
    obtain⟨rfl,rfl⟩:=h
    exact wp_label ⟨G,Step.refl hst.wf _ _,rfl,rfl,hst⟩
  | region id ops draw=>
    intro st e st' h G w a hst
    simp only[evalCode] at h
    cases draw with
    | true=>
      rw[if_pos rfl] at h
      exact Cx hm ai h hst fun _ _ _ hg=>hg
    | false=>
      simp only[Bool.false_eq_true,if_false] at h
      exact wp_region_list (WD ai _ _ _ _ h G w a hst _ fun _ _ _ hg=>hg)
  | seq x y WJ ihy=>
    intro st e st' h G w a hst
    simp only[evalCode] at h
    refine wp_seq ?_
    split at h
    · rename_i st1 hb
      refine wp_mono (WJ st _ _ hb G w a hst) fun ex a1 w1 hg=> ?_
      obtain⟨rfl,hd,G1,hs,mB⟩:=hg.si
      exact wp_mono (ihy st1 _ _ h G1 w1 a1 mB) fun ex a' w' hg'=>Good.comp hs hd hg'
    · rename_i hne
      have he:e≠ .normal:=fun e1=>by subst e1;exact hne st' h
      exact wp_mono (WJ st _ _ h G w a hst) fun ex a1 w1 hg=>jE (hg.jD he) hg
  | cond c x y WJ ihy=>
    intro st e st' h G w a hst
    simp only[evalCode] at h
    split at h
    · rename_i hc
      exact wp_cond_true (bK hst.slots hst.iT hc).bool (WJ st _ _ h G w a hst)
    · rename_i hc
      exact wp_cond_false (bK hst.slots hst.iT hc).bool (ihy st _ _ h G w a hst)
    · simp at h
  | block id x WJ=>
    intro st e st' h G w a hst
    simp only[evalCode] at h
    refine wp_block ?_
    split at h
    · rename_i id' st1 hb
      refine wp_mono (WJ st _ _ hb G w a hst) fun ex a1 w1 hg=> ?_
      obtain⟨G1,hs,hd,rfl,mB⟩:=hg
      split at h
      · rename_i e1
        simp at h
        obtain⟨rfl,rfl⟩:=h
        simp only[Exit.inBlock,e1,if_true]
        exact⟨G1,hs,hd,rfl,mB⟩
      · rename_i e1
        simp at h
        obtain⟨rfl,rfl⟩:=h
        simp only[Exit.inBlock,e1,if_false]
        exact⟨G1,hs,hd,rfl,mB⟩
    · rename_i hne
      refine wp_mono (WJ st _ _ h G w a hst) fun ex a1 w1 hg=> ?_
      cases e with
      |normal=>obtain⟨G1,hs,hd,rfl,mB⟩:=hg;exact⟨G1,hs,hd,rfl,mB⟩
      |exit id'=>exact absurd h (hne id' st')
      |ret=>obtain⟨G1,hs,hd,rfl,mB⟩:=hg;exact⟨G1,hs,hd,rfl,mB⟩
      |panic v=>obtain⟨G1,hs,hd,x,rfl,mB⟩:=hg;exact⟨G1,hs,hd,x,rfl,mB⟩
  | loop x WJ=>
    intro st e st' h G w a hst
    simp only[evalCode] at h
    exact wp_loop_rounds fuel (RT WJ fuel st e st' h G w a hst _ fun _ _ _ hg=>hg)
  | exit id=>
    intro st e st' h G w a hst
    simp[evalCode] at h
    obtain⟨rfl,rfl⟩:=h
    exact wp_exit ⟨G,Step.refl hst.wf _ _,rfl,rfl,hst⟩
  | ret=>
    intro st e st' h G w a hst
    simp[evalCode] at h
    obtain⟨rfl,rfl⟩:=h
    exact wp_ret ⟨G,Step.refl hst.wf _ _,rfl,rfl,hst⟩
  |_=>intro st e st' h;simp[evalCode] at h
end
end Go.Abs

namespace Go.Abs
open Go
section
variable {C:dh}{ev:aS}{f:FuncId}{G:Gh}{w:World}
def Gt (tmps:Array Value):ResultVar→Sem Value
 |.tmp t=>pure (tmps.getD t undef)
 |.cell x t=>do loadVar t (← asAddr (tmps.getD x undef))
theorem Lf (fn:Func)(tmps:Array Value):results fn tmps=(do let vs ← fn.results.mapM (Gt tmps);pure (if h:vs.size=1 then vs[0] else .tuple vs):Sem Value):=by
 unfold results
 exact congrArg (fun g:ResultVar→Sem Value=>(do let vs ← fn.results.mapM g;pure (if h:vs.size=1 then vs[0] else .tuple vs):Sem Value)) (funext fun x=>by cases x<;>rfl)
theorem Lg {st:St}{a:Act}(hst:w5 C G w st a):∀{rs:List ResultVar} {vs:List TV},iW C st rs=some vs→
  ∃us:List Value,(rs.mapM (Gt a.tmps):Sem (List Value)).run C.P w=.ok us w∧cK G vs us:=by
 intro rs
 induction rs with
 |nil=>intro vs h;simp[iW] at h;subst h;exact⟨[],by simp,cK.nil G⟩
 | cons r rs ih=>
  intro vs h
  cases r with
  |tmp t=>
   simp only[iW] at h
   cases h1:iW C st rs<;>simp only[h1,reduceCtorEq] at h
   simp only[Option.some.injEq] at h
   subst h
   obtain⟨us,h2,h3⟩:=ih h1
   refine⟨a.tmps.getD t undef::us, ?_,cK.cons (hst.slots.getD t) h3⟩
   rw[List.mapM_cons]
   rw[fK (a:=a.tmps.getD t undef) (w':=w) rfl,fK h2]
   rfl
  |cell x t=>
   simp only[iW] at h
   cases h0:loadT C.P st.H t (st.slots.getD x b8)<;>cases h1:iW C st rs<;>simp only[h0,h1,reduceCtorEq] at h
   simp only[Option.some.injEq] at h
   subst h
   obtain⟨us,h2,h3⟩:=ih h1
   obtain⟨u,h4,h5⟩:=AK hst.heap hst.wf (hst.slots.getD x) h0
   refine⟨u::us, ?_,cK.cons h5 h3⟩
   have h4':(Gt a.tmps (.cell x t)).run C.P w=.ok u w:=h4
   rw[List.mapM_cons]
   rw[fK h4',fK h2]
   rfl
theorem vZ {st:St}{a:Act}{fn:Func}{vs:List TV}(hst:w5 C G w st a)(h:iW C st fn.results.toList=some vs):∃v,(results fn a.tmps).run C.P w=.ok v w∧VR G (qO vs) v:=by
 obtain⟨us,h1,h2⟩:=Lg hst h
 rw[Lf,Array.mapM_eq_mapM_toList]
 have h3:(List.toArray<$>(fn.results.toList.mapM (Gt a.tmps):Sem (List Value))).run C.P w=.ok us.toArray w:=by
  rw[map_eq_pure_bind]
  rw[fK h1];rfl
 refine⟨_,fK h3, ?_⟩
 cases vs with
 |nil=>
  have:=h2.1;simp at this;subst this
  exact k8 h2
 | cons x r=>
  cases r with
  |nil=>
   obtain⟨u,us',rfl,h5,h6⟩:=h2.iN
   have:=h6.1;simp at this;subst this
   exact h5
  |cons y r=>
   have hl:=h2.1
   simp at hl
   rw[dif_neg (by simp;omega)]
   exact k8 h2
theorem ua {H:Heap}:∀{n i:Nat} {os:List aQ},nA H i n=some os→os.length=n∧∀j o,os[j]?=some o→H.get (.arg (i+j))=some o:=by
 intro n
 induction n with
 |zero=>intro i os h;simp[nA] at h;subst h;simp
 | succ n ih=>
  intro i os h
  simp only[nA] at h
  cases h1:H.get (.arg i)<;>cases h2:nA H (i+1) n<;>simp[h1,h2] at h
  subst h
  obtain⟨e1,e2⟩:=ih h2
  refine⟨by simp[e1],fun j o hj=> ?_⟩
  cases j with
  |zero=>simp at hj;subst hj;exact h1
  |succ j=>
   have:=e2 j o (by simpa using hj)
   rw[show i+1+j=i+(j+1) from by omega] at this
   exact this
theorem xT {H:Heap}:∀{n i:Nat} {j:Nat} {o:aQ},(p8 H i n)[j]?=some (some o)→H.get (.arg (i+j))=some o:=by
  intro n
  induction n with
  |zero=>intro i j o h;simp[p8] at h
  | succ n ih=>
    intro i j o h
    simp only[p8] at h
    cases j with
    | zero=>
      simp at h
      split at h
      · rename_i o' ho
        split at h
        · simp at h
        · simp at h;subst h;exact ho
      · simp at h
    | succ j=>
      have:=ih (i:=i+1) (j:=j) (o:=o) (by simpa using h)
      rw[show i+1+j=i+(j+1) from by omega] at this
      exact this
theorem qc {H:Heap}:∀{ks:List Nm} {h:Heap},j3 H ks=some h→∀k o,(k,o)∈h→k.gy=true∧H.get k=some o:=by
  intro ks
  induction ks with
  |nil=>intro h hh;simp[j3] at hh;subst hh;simp
  | cons x r ih=>
    intro h hh k o hm
    simp only[j3] at hh
    cases h1:j3 H r with
    |none=>simp[h1] at hh
    | some h'=>
      simp only[h1] at hh
      split at hh
      · rename_i hl
        cases h2:H.get x with
        |none=>simp[h2] at hh
        | some o'=>
          simp[h2] at hh
          subst hh
          rcases List.mem_cons.1 hm with e|hm
          · simp at e;obtain⟨rfl,rfl⟩:=e;exact⟨hl,h2⟩
          · exact ih h1 k o hm
      · simp at hh;subst hh;exact ih h1 k o hm
theorem zY {fn:Func}{n:Nat}{st:St}{a:Act}{r:bG}{G0:Gh}{w0:World}(h:finish C fn n st=some r)(hs:dG G0 w0 G w)(hst:w5 C G w st a):
    ∃v,(results fn a.tmps).run C.P w=.ok v w∧vw G0 w0 n r (.returned v) w:=by
  unfold finish at h
  split at h
  · simp at h
  rename_i vs hvs
  obtain⟨v,hv,hr⟩:=vZ hst hvs
  refine⟨v,hv, ?_⟩
  dsimp only at h
  have main:∀(x:TV) (ks:List Nm),VR (G.frozen w st.H ks) x v→(match nA (st.H.dJ (cZ st.H ks)) 0 n with
      |none=>none
      | some os=>match reach (st.H.dJ (cZ st.H ks)) fD [] (x.names++os.flatMap aQ.names) with
        |none=>none
        |some R=>(j3 (st.H.dJ (cZ st.H ks)) R).map fun h=>bG.ret x os h)=some r→vw G0 w0 n r (.returned v) w:=by
    intro x ks hx h
    have WK:=gY hst.wf hst.heap ks
    have QW:HR (G.frozen w st.H ks) w (st.H.dJ (cZ st.H ks)):=HR.dJ WK hst.wf hst.heap (fun k o hm=>oh hst.wf hst.heap hm) (fun k _ hk=>jN hk.1 hk.2)
    split at h
    · simp at h
    rename_i os hos
    split at h
    · simp at h
    rename_i R hR
    cases K6:j3 (st.H.dJ (cZ st.H ks)) R with
    |none=>rw[K6] at h;simp at h
    | some nw=>
      rw[K6] at h
      simp only[Option.map_some,Option.some.injEq] at h
      subst h
      obtain⟨e1,e2⟩:=ua hos
      refine⟨v,G.frozen w st.H ks,rfl,hs.comp (WK.mono (fun _ _ _=>trivial) (fun _ hk=>hk.elim)),e1,fun i o ho=> ?_,fun k o hm=> ?_,hx⟩
      · have:=e2 i o ho
        rw[Nat.zero_add] at this
        exact QW _ _ this
      · obtain⟨e3,e4⟩:=qc K6 k o hm
        exact⟨e3,QW _ _ e4⟩
  cases hfz:og st.H iO (qO vs) with
  | none=>
    rw[hfz] at h
    exact main (qO vs) [] (hr.mono (gY hst.wf hst.heap []).le) h
  | some q=>
    obtain⟨x,ks⟩:=q
    rw[hfz] at h
    exact main (.t x) ks (.t _ _ (zQ hst.wf hst.heap ks iO _ _ _ _ hfz (fun _ hk=>hk) hr)) h
theorem RU (hm:C.P.prog.follows .mixedOrders=true)(ai:aF C ev){fuel:Nat}{args:List TV}{aR:List aQ}{r:bG}(h:Iu C ev fuel f args aR=some r){vs:List Value}(hw:WF G w)(hg:jq C G)(had:zV G aR.length)
    (hH:HR G w (cH 0 aR))(hv:cK G args vs):lu C.P f vs.toArray w (vw G w aR.length r):=by
  unfold Iu at h
  split at h
  · simp at h
  rename_i fn Cy
  have hfn:=C.P.Q5 _ _ Cy
  split at h
  · simp at h
  rename_i body hbody
  split at h
  · simp at h
  rename_i hname
  have hst:w5 C G w {slots:=args++List.replicate (fn.ntmps - args.length) b8,H:=cH 0 aR,tick:=0} {tmps:=vs.toArray++Array.replicate (fn.ntmps - vs.toArray.size) undef,defers:=[]}:=by
    refine⟨hw,hg, ?_,hH,fun p hp=>absurd hp (had.2 p)⟩
    have e:(vs.toArray++Array.replicate (fn.ntmps - vs.toArray.size) undef).toList=vs++List.replicate (fn.ntmps - args.length) undef:=by simp[hv.1]
    unfold SR
    rw[e]
    refine cK.append hv ⟨by simp,fun j c u hc hu=> ?_⟩
    rw[List.getElem?_replicate] at hc hu
    by_cases hl:j<fn.ntmps - args.length
    · rw[if_pos hl] at hc hu
      simp at hc hu;subst hc;subst hu;exact mX G
    · rw[if_neg hl] at hc;simp at hc
  refine .inl ⟨?_,calls_of_wp hfn hbody ?_⟩
  · simp[callFunc,hfn,hname,hbody]
  · split at h
    · rename_i st he
      refine wp_mono (kN hm ai body _ _ _ he G w _ hst) fun ex a' w' hgd=> ?_
      obtain⟨G',hs,hd,rfl,nG⟩:=hgd
      exact⟨hd,zY h hs nG⟩
    · rename_i st he
      refine wp_mono (kN hm ai body _ _ _ he G w _ hst) fun ex a' w' hgd=> ?_
      obtain⟨G',hs,hd,rfl,nG⟩:=hgd
      exact⟨hd,zY h hs nG⟩
    · rename_i v st he
      split at h
      · simp at h
      · simp only[Option.some.injEq] at h
        subst h
        refine wp_mono (kN hm ai body _ _ _ he G w _ hst) fun ex a' w' hgd=> ?_
        obtain⟨G',hs,hd,x,rfl,hx,hH'⟩:=hgd
        refine⟨hd,x,G',rfl,hs,fun i o ho=> ?_,hx⟩
        have:=xT ho
        rw[Nat.zero_add] at this
        exact hH' _ _ this
    · simp at h
def E7 (C:dh)(X:Ext):Prop:=∀g s,X g=some s→∀ev,aF C ev→∀args aR r,s ev args aR=some r→∀(G:Gh) (w:World) (vs:List Value),WF G w→jq C G→zV G aR.length→
 HR G w (cH 0 aR)→cK G args vs→lu C.P g vs.toArray w (vw G w aR.length r)
theorem pn (hm:C.P.prog.follows .mixedOrders=true){X:Ext}(hX:E7 C X):∀n,aF C (B3 C X n):=by
  intro n
  induction n with
  |zero=>intro g args aR r h;simp[B3] at h
  | succ n ih=>
    intro g args aR r h G w vs hw hg had hH hv
    simp only[B3] at h
    split at h
    · rename_i s hs
      exact hX g s hs _ ih args aR r h G w vs hw hg had hH hv
    · exact RU hm ih h hw hg had hH hv
end
end Go.Abs
