/- Regions that draw their order are right. -/
import Derived.Test.YtnfnihgmankidaaGreatDoorC
import Derived.LoopN
set_option linter.unusedVariables false
set_option linter.unusedSimpArgs false
namespace Go.Abs
open Go
section
variable {C:cE}{ev:aW}{f:FuncId}{ops:Array Oper}{st:St}{recs:List Rec}
abbrev s0 (st:St):tN:={slots:=st.slots,H:=st.H}
def SZ (C:cE)(ev:aW)(f:FuncId)(ops:Array Oper)(st:St)(recs:List Rec)(i:Nat)(x:Oper)(rx ry:Rec):Prop:=
 ∃nm ob v w,rx.fp=[nm]/\rx.res=.val v []/\ry.res=.val w [(nm,ob)]/\aT C ev f [(nm,ob)] (jd (x.looksAt ops) 0 (fP ops.toList recs (s0 st) (λ_=>true) i).slots) (st.tick+i) x=some (.val v [])
structure sO (C:cE)(ev:aW)(f:FuncId)(ops:Array Oper)(st:St)(recs:List Rec):Prop where
 len:recs.length=ops.size
 at':∀(j:Nat) (o:Oper),ops.toList[j]?=some o->∃r,recs[j]?=some r/\Sk C ev f ops (jH ops.toList []) st.tick j o (fP ops.toList recs {slots:=st.slots,H:=st.H} (λ_=>true) j) (A6 recs j)=some r
 free:∀(i j:Nat) (x y:Oper) (rx ry:Rec),i<j->ops.toList[i]?=some x->ops.toList[j]?=some y->recs[i]?=some rx->recs[j]?=some ry->
  fB (jH ops.toList []) i j=true\/r9 ops x y rx ry=true\/(jX ops x y=true/\SZ C ev f ops st recs i x rx ry)
 back:qv 0 ops.toList=true
theorem Ib {i j:Nat}{x y:Oper}{rx ry:Rec}(h:jx ops ops.toList recs (jH ops.toList []) ops.toList recs 0=true)(hij:i<j)(hx:ops.toList[i]?=some x)(hy:ops.toList[j]?=some y)(yF:recs[i]?=some rx)(S0:recs[j]?=some ry):
 fB (jH ops.toList []) i j=true\/r9 ops x y rx ry=true:=by
 obtain⟨hl,_,_⟩:=Gn ops.toList []
 have hjl:j<(jH ops.toList []).length:=by rw[hl];have:=(List.getElem?_eq_some_iff.1 hy).1;simpa using this
 have h1:=H6 h j _ y ry (List.getElem?_eq_getElem hjl) hy S0
 have h2:=MF h1 i x rx (by rw[Nat.zero_add,List.getElem?_take,if_pos hij];exact hx) (by rw[Nat.zero_add,List.getElem?_take,if_pos hij];exact yF)
 rw[Nat.zero_add] at h2
 refine h2.imp (λh=> ?_) id
 unfold fB
 rw[List.getD,List.getElem?_eq_getElem hjl]
 exact h
theorem sO.OM (h:sO C ev f ops st recs){i j:Nat}{x y:Oper}{rx ry:Rec}(hij:i<j)(hx:ops.toList[i]?=some x)(hy:ops.toList[j]?=some y)(yF:recs[i]?=some rx)(S0:recs[j]?=some ry):
 fB (jH ops.toList []) i j=true\/jX ops x y=true:=by
 rcases h.free i j x y rx ry hij hx hy yF S0 with h|h|h
 ·exact .inl h
 ·simp only[r9,Bool.and_eq_true] at h;exact .inr h.1.1.1
 ·exact .inr h.1
def MH (ops:Array Oper)(D:Nat->Bool):Prop:=∀(j:Nat) o,D j=true->ops.toList[j]?=some o->∀e∈o.after.toList,Region.binds .any e=true->D e.on=true
theorem MH.before {D:Nat->Bool}(h:MH ops D):∀(n i j:Nat) (o:Oper),j<n->ops.toList[j]?=some o->(∀e∈o.after.toList,Region.binds .any e=true->D e.on=true)->fB (jH ops.toList []) i j=true->D i=true:=by
 intro n;induction n with
 |zero=>intro i j o hl;omega
 | succ n ih=>
   intro i j o hl ho he hb
   obtain⟨_,_,h3⟩:=Gn ops.toList []
   obtain⟨e,h4,h5,h6⟩:=h3 j o i ho (by simpa using hb)
   have hd:=he e h4 h5
   rcases h6 with rfl|⟨h6,h7⟩
   · exact hd
   · simp at h6
     cases ho':ops.toList[e.on]? with
     | none=>
       have:=List.getElem?_eq_none_iff.1 ho'
       have:=(List.getElem?_eq_some_iff.1 ho).1
       omega
     |some o'=>exact ih i e.on o' (by omega) ho' (h e.on o' hd ho') h7
theorem ua {a b:List Nm}(h:Hw a b=true){k:Nm}(ha:k∈a):k∉b:=by
 have:=List.all_eq_true.1 h k ha;simpa using this
theorem vk {x y:Oper}(h:jX ops x y=true):(∀d,x.dst=some d->d∉y.looksAt ops)/\(∀d,x.dst=some d->y.dst≠some d)/\(∀d,y.dst=some d->d∉x.looksAt ops):=
 Oper.apart_spec (by unfold jX at h;unfold Oper.apart;cases hx:x.dst<;>cases hy:y.dst<;>simp only[hx,hy] at h ⊢<;>exact h)
structure pF (C:cE)(ops:Array Oper)(st:St)(recs:List Rec)(G0:Gh)(w0:World)(a0:Act)(D:Nat->Bool)(G:Gh)(w:World)(a:Act):Prop where
 step:dz G0 w0 G w
 iT:jO C G
 defers:a.defers=a0.defers
 slots:SR G (fP ops.toList recs (s0 st) D ops.size).slots a
 heap:HR G w (fP ops.toList recs (s0 st) D ops.size).H
 fresh:∀p,G.dom (.loc p)->∃n q,p=n::q/\(n<st.tick\/∃j,D j=true/\j<ops.size/\n=st.tick+j)
 closed:MH ops D
 calm:∀j r v u l,D j=true->recs[j]?=some r->r.res≠ .panic v u l
def j4 (D:Nat->Bool)(i:Nat):Nat->Bool:=λj=>if j=i then true else D j
section step
variable {G0 G:Gh}{w0 w:World}{a0 a:Act}{D:Nat->Bool}{i:Nat}{o:Oper}{r:Rec}
theorem pF.S1 (hd:sO C ev f ops st recs)(hi:pF C ops st recs G0 w0 a0 D G w a)(hni:D i=false)(ho:ops.toList[i]?=some o)(hr:recs[i]?=some r)(he:∀e∈o.after.toList,Region.binds .any e=true->D e.on=true)
 {t:Nat}(ht:t∈o.looksAt ops\/o.dst=some t)(hw:∀j,i<=j->j<ops.size->D j=true->True):
 ∀j x,j<ops.size->ops.toList[j]?=some x->x.dst=some t->(D j=true->j<i)/\(j<i->(t∈o.looksAt ops->D j=true)):=by
 intro j x hj hx Ke
 obtain⟨rx,yF⟩:∃rx,recs[j]?=some rx:=⟨_,List.getElem?_eq_getElem (by rw[hd.len];exact hj)⟩
 refine⟨λhD=> ?_,λhlt hlk=> ?_⟩
 ·rcases Nat.lt_trichotomy j i with h|h|h
  ·exact h
  ·subst h;rw[hni] at hD;cases hD
  ·rcases hd.OM h ho hx hr yF with hb|hb
   ·have:=hi.closed.before (j+1) i j x (by omega) hx (hi.closed j x hD hx) hb;rw[hni] at this;cases this
   ·obtain⟨s1,s2,s3⟩:=vk hb;rcases ht with ht|ht
    ·exact absurd ht (s3 t Ke)
    ·exact absurd Ke (s2 t ht)
 ·rcases hd.OM hlt hx ho yF hr with hb|hb
  ·exact hi.closed.before (i+1) j i o (by omega) ho he hb
  ·obtain⟨s1,s2,s3⟩:=vk hb;exact absurd hlk (s1 t Ke)
theorem pF.MI (hd:sO C ev f ops st recs)(hi:pF C ops st recs G0 w0 a0 D G w a)(hni:D i=false)(ho:ops.toList[i]?=some o)(hr:recs[i]?=some r)(he:∀e∈o.after.toList,Region.binds .any e=true->D e.on=true)
 {k:Nm}(hk:k∈r.fp\/k∈r.res.keys):
 ∀j x rx,j<ops.size->ops.toList[j]?=some x->recs[j]?=some rx->k∈rx.res.keys->(D j=true->j<i\/(i<j/\SZ C ev f ops st recs i o r rx))/\(j<i->D j=true):=by
 intro j x rx hj hx yF hkx
 refine⟨λhD=> ?_,λhlt=> ?_⟩
 ·rcases Nat.lt_trichotomy j i with h|h|h
  ·exact .inl h
  ·subst h;rw[hni] at hD;cases hD
  ·rcases hd.free i j o x r rx h ho hx hr yF with hb|hb|hb
   ·have:=hi.closed.before (j+1) i j x (by omega) hx (hi.closed j x hD hx) hb;rw[hni] at this;cases this
   ·simp only[r9,Bool.and_eq_true] at hb;obtain⟨⟨⟨_,h1⟩,h2⟩,h3⟩:=hb;rcases hk with hk|hk
    ·exact absurd hk (ua h3 hkx)
    ·exact absurd hkx (ua h2 hk)
   ·exact .inr ⟨h,hb.2⟩
 ·rcases hd.free j i x o rx r hlt hx ho yF hr with hb|hb|hb
  ·exact hi.closed.before (i+1) j i o (by omega) ho he hb
  rotate_left
  ·obtain⟨_,nm,ob,v,w,_,e2,_,_⟩:=hb;rw[e2] at hkx;cases hkx
  ·simp only[r9,Bool.and_eq_true] at hb;obtain⟨⟨⟨_,h1⟩,h2⟩,h3⟩:=hb;rcases hk with hk|hk
   ·exact absurd hk (ua h1 hkx)
   ·exact absurd hk (ua h2 hkx)
theorem Kf {l:List Oper}{s:tN}{n:Nat}(hin:i<=n):fP l recs s (λ_=>true) i=fP l recs s (λj=>decide (j<i)) n:=by
 rw[om (D:=λj=>decide (j<i)) hin (λj h1 h2=>by simp;omega)];exact xe λj hj=>by simp[hj]
theorem pF.look (hd:sO C ev f ops st recs)(hi:pF C ops st recs G0 w0 a0 D G w a)(hni:D i=false)(ho:ops.toList[i]?=some o)(hr:recs[i]?=some r)(he:∀e∈o.after.toList,Region.binds .any e=true->D e.on=true):
 jd (o.looksAt ops) 0 (fP ops.toList recs (s0 st) (λ_=>true) i).slots=jd (o.looksAt ops) 0 (fP ops.toList recs (s0 st) D ops.size).slots:=by
 have hin:i<=ops.size:=by have:=(List.getElem?_eq_some_iff.1 ho).1;simp at this;omega
 refine Kc (by rw[Du,Du]) λt ht=> ?_
 rw[Kf hin]
 refine zC λj x hj hx Ke=> ?_
 obtain⟨h1,h2⟩:=hi.S1 hd hni ho hr he (.inl ht) (λ_ _ _ _=>trivial) j x hj hx Ke
 by_cases hlt:j<i
 ·simp[hlt,h2 hlt ht]
 ·have:D j=false:=by
   cases hD:D j with
   |false=>rfl
   |true=>exact absurd (h1 hD) hlt
  simp[hlt,this]
theorem S2 {P:Nat->Prop}:∀n,(∃j,j<n/\P j)->∃j,j<n/\P j/\∀k,j<k->k<n->¬P k
 |0,⟨_,h,_⟩=>by omega
 | n + 1,⟨j,h1,h2⟩=>by
   by_cases hn:P n
   · exact⟨n,by omega,hn,λk h3 h4=>by omega⟩
   · obtain⟨k,h3,h4,h5⟩:=S2 n ⟨j,by
       rcases Nat.lt_or_ge j n with h|h
       · exact h
       · have:j=n:=by omega
         subst this;exact absurd h2 hn,h2⟩
     exact⟨k,by omega,h4,λl h6 h7=>by
       rcases Nat.lt_or_ge l n with h|h
       · exact h5 l h6 h
       · have:l=n:=by omega
         subst this;exact hn⟩
theorem pF.ag9 (hd:sO C ev f ops st recs)(hi:pF C ops st recs G0 w0 a0 D G w a)(hni:D i=false)(ho:ops.toList[i]?=some o)(hr:recs[i]?=some r)(he:∀e∈o.after.toList,Region.binds .any e=true->D e.on=true):
 (∀k∈r.fp,(fP ops.toList recs (s0 st) (λ_=>true) i).H.get k=(fP ops.toList recs (s0 st) D ops.size).H.get k)\/
 ∃nm ob v,r.fp=[nm]/\r.res=.val v []/\(fP ops.toList recs (s0 st) D ops.size).H.get nm=some ob/\aT C ev f [(nm,ob)] (jd (o.looksAt ops) 0 (fP ops.toList recs (s0 st) (λ_=>true) i).slots) (st.tick+i) o=some (.val v []):=by
 have hin:i<=ops.size:=by have:=(List.getElem?_eq_some_iff.1 ho).1;simp at this;omega
 by_cases hex:∃j,j<ops.size/\(D j=true/\i<j/\∃rj,recs[j]?=some rj/\∃k∈r.fp,k∈rj.res.keys)
 ·obtain⟨ j,hj,⟨hD,hlt,rj,hrj,k,hk,hkj⟩,HC⟩:=S2 ops.size hex;obtain⟨x,hx⟩:∃x,ops.toList[j]?=some x:=⟨_,List.getElem?_eq_getElem (by simpa using hj)⟩;rcases(hi.MI hd hni ho hr he (.inl hk) j x rj hj hx hrj hkj).1 hD with h|⟨_,nm,ob,v,w,e1,e2,e3,e4⟩
  ·omega
  ·refine .inr ⟨nm,ob,v,e1,e2, ?_,e4⟩;have h1:(fP ops.toList recs (s0 st) D ops.size).H.get nm=(fP ops.toList recs (s0 st) (λt=>decide (t<j+1)&&D t) ops.size).H.get nm:=by
    refine xd λt rt ht hrt hkt=> ?_
    by_cases hlt2:t<j+1
    ·simp[hlt2]
    ·have hDt:D t=false:=by
      cases hDt:D t with
      |false=>rfl
      |true=>exact absurd ⟨hDt,by omega,rt,hrt,nm,by rw[e1];exact List.mem_singleton_self _,hkt⟩ (HC t (by omega) ht)
     simp[hlt2,hDt]
   have h2:fP ops.toList recs (s0 st) (λt=>decide (t<j+1)&&D t) ops.size=fP ops.toList recs (s0 st) (λt=>decide (t<j+1)&&D t) (j+1):=
    om (by omega) λt h1 h2=>by
     have:¬t<j+1:=by omega
     simp[this]
   rw[h1,h2];simp only[fP,hx,hrj,hD,Nat.lt_succ_self,decide_true,Bool.and_self,if_true];simp only[tN.after,e3,Heap.dX,List.foldl];rw[Heap.zn,if_pos rfl]
 ·refine .inl λk hk=> ?_
  rw[Kf hin];refine xd λj rx hj yF hkx=> ?_
  obtain⟨x,hx⟩:∃x,ops.toList[j]?=some x:=⟨_,List.getElem?_eq_getElem (by simpa using hj)⟩;obtain⟨h1,h2⟩:=hi.MI hd hni ho hr he (.inl hk) j x rx hj hx yF hkx;by_cases hlt:j<i
  ·simp[hlt,h2 hlt]
  ·have:D j=false:=by
    cases hD:D j with
    |false=>rfl
    | true=>
      rcases h1 hD with h|⟨h,_⟩
      · exact absurd h hlt
      · exact absurd ⟨j,hj,hD,h,rx,yF,k,hk,hkx⟩ hex
   simp[hlt,this]
theorem pF.QE (hd:sO C ev f ops st recs)(hi:pF C ops st recs G0 w0 a0 D G w a)(hni:D i=false)(ho:ops.toList[i]?=some o)(hr:recs[i]?=some r)(he:∀e∈o.after.toList,Region.binds .any e=true->D e.on=true)
 (t:Nat):(fP ops.toList recs (s0 st) (j4 D i) ops.size).slots[t]?=((fP ops.toList recs (s0 st) D ops.size).after o r.res).slots[t]?:=by
 have hin:i<ops.size:=by have:=(List.getElem?_eq_some_iff.1 ho).1;simpa using this
 by_cases aa3:o.dst=some t
 ·have key:∀j x,j<ops.size->ops.toList[j]?=some x->x.dst=some t->D j=true->j<i:=λj x hj hx Ke=>(hi.S1 hd hni ho hr he (.inr aa3) (λ_ _ _ _=>trivial) j x hj hx Ke).1
  have e1:(fP ops.toList recs (s0 st) (j4 D i) ops.size).slots[t]?=(fP ops.toList recs (s0 st) (λj=>decide (j<i+1)&&j4 D i j) ops.size).slots[t]?:=by
   refine zC λj x hj hx Ke=> ?_
   by_cases hlt:j<i+1
   ·simp[hlt]
   ·have hD:D j=false:=by
     cases hD:D j with
     |false=>rfl
     |true=>exact absurd (key j x hj hx Ke hD) (by omega)
    have:j≠i:=by omega
    simp[hlt,j4,this,hD]
  have e2:(fP ops.toList recs (s0 st) D ops.size).slots[t]?=(fP ops.toList recs (s0 st) (λj=>decide (j<i)&&D j) ops.size).slots[t]?:=by
   refine zC λj x hj hx Ke=> ?_
   by_cases hlt:j<i
   ·simp[hlt]
   ·have hD:D j=false:=by
     cases hD:D j with
     |false=>rfl
     |true=>exact absurd (key j x hj hx Ke hD) (by omega)
    simp[hlt,hD]
  have e3:fP ops.toList recs (s0 st) (λj=>decide (j<i+1)&&j4 D i j) ops.size=fP ops.toList recs (s0 st) (λj=>decide (j<i+1)&&j4 D i j) (i+1):=
   om (by omega) λj h1 h2=>by
    have:¬j<i+1:=by omega
    simp[this]
  have e4:fP ops.toList recs (s0 st) (λj=>decide (j<i)&&D j) ops.size=fP ops.toList recs (s0 st) (λj=>decide (j<i)&&D j) i:=
   om (by omega) λj h1 h2=>by
    have:¬j<i:=by omega
    simp[this]
  have e5:fP ops.toList recs (s0 st) (λj=>decide (j<i+1)&&j4 D i j) i=fP ops.toList recs (s0 st) (λj=>decide (j<i)&&D j) i:=
   xe λj hj=>by
    have h1:j<i+1:=by omega
    have h2:j≠i:=by omega
    simp[h1,hj,j4,h2]
  rw[e1,e3];rw[nr (e2.trans (by rw[e4]))];simp only[fP,ho,hr];rw[e5];simp[j4]
 ·rw[yE aa3];refine zC λj x hj hx Ke=> ?_
  have:j≠i:=λe=>by
   subst e;rw[ho] at hx;simp at hx;subst hx;exact aa3 Ke
  simp[j4,this]
theorem pF.S3 (hd:sO C ev f ops st recs)(hi:pF C ops st recs G0 w0 a0 D G w a)(hni:D i=false)(ho:ops.toList[i]?=some o)(hr:recs[i]?=some r)(he:∀e∈o.after.toList,Region.binds .any e=true->D e.on=true)
 (k:Nm):(fP ops.toList recs (s0 st) (j4 D i) ops.size).H.get k=((fP ops.toList recs (s0 st) D ops.size).after o r.res).H.get k:=by
 have hin:i<ops.size:=by have:=(List.getElem?_eq_some_iff.1 ho).1;simpa using this
 by_cases hk:k∈r.res.keys
 ·have key:∀j rx,j<ops.size->recs[j]?=some rx->k∈rx.res.keys->D j=true->j<i:=λj rx hj yF hkx=>by
   obtain⟨x,hx⟩:∃x,ops.toList[j]?=some x:=⟨_,List.getElem?_eq_getElem (by simpa using hj)⟩;intro hD;rcases(hi.MI hd hni ho hr he (.inr hk) j x rx hj hx yF hkx).1 hD with h|⟨_,nm,ob,v,w,_,e2,_,_⟩
   ·exact h
   ·rw[e2] at hk;cases hk
  have e1:(fP ops.toList recs (s0 st) (j4 D i) ops.size).H.get k=(fP ops.toList recs (s0 st) (λj=>decide (j<i+1)&&j4 D i j) ops.size).H.get k:=by
   refine xd λj x hj hx Ke=> ?_
   by_cases hlt:j<i+1
   ·simp[hlt]
   ·have hD:D j=false:=by
     cases hD:D j with
     |false=>rfl
     |true=>exact absurd (key j x hj hx Ke hD) (by omega)
    have:j≠i:=by omega
    simp[hlt,j4,this,hD]
  have e2:(fP ops.toList recs (s0 st) D ops.size).H.get k=(fP ops.toList recs (s0 st) (λj=>decide (j<i)&&D j) ops.size).H.get k:=by
   refine xd λj x hj hx Ke=> ?_
   by_cases hlt:j<i
   ·simp[hlt]
   ·have hD:D j=false:=by
     cases hD:D j with
     |false=>rfl
     |true=>exact absurd (key j x hj hx Ke hD) (by omega)
    simp[hlt,hD]
  have e3:fP ops.toList recs (s0 st) (λj=>decide (j<i+1)&&j4 D i j) ops.size=fP ops.toList recs (s0 st) (λj=>decide (j<i+1)&&j4 D i j) (i+1):=
   om (by omega) λj h1 h2=>by
    have:¬j<i+1:=by omega
    simp[this]
  have e4:fP ops.toList recs (s0 st) (λj=>decide (j<i)&&D j) ops.size=fP ops.toList recs (s0 st) (λj=>decide (j<i)&&D j) i:=
   om (by omega) λj h1 h2=>by
    have:¬j<i:=by omega
    simp[this]
  have e5:fP ops.toList recs (s0 st) (λj=>decide (j<i+1)&&j4 D i j) i=fP ops.toList recs (s0 st) (λj=>decide (j<i)&&D j) i:=
   xe λj hj=>by
    have h1:j<i+1:=by omega
    have h2:j≠i:=by omega
    simp[h1,hj,j4,h2]
  rw[e1,e3];rw[pE (e2.trans (by rw[e4]))];simp only[fP,ho,hr];rw[e5];simp[j4]
 ·rw[Gp hk];refine xd λj rx hj yF hkx=> ?_
  have:j≠i:=λe=>by
   subst e;rw[hr] at yF;simp at yF;subst yF;exact hk hkx
  simp[j4,this]
theorem pF.next (hd:sO C ev f ops st recs)(hi:pF C ops st recs G0 w0 a0 D G w a)(hni:D i=false)(ho:ops.toList[i]?=some o)(hr:recs[i]?=some r)(he:∀e∈o.after.toList,Region.binds .any e=true->D e.on=true)
 (adG:∀v u l,r.res≠ .panic v u l){G':Gh}{w':World}{a':Act}(hs:dz G w G' w')(hde:a'.defers=a.defers)(hg:jO C G')
 (HA:SR G' ((fP ops.toList recs (s0 st) D ops.size).after o r.res).slots a')(hh:HR G' w' ((fP ops.toList recs (s0 st) D ops.size).after o r.res).H)
 (hfr:∀p,G'.dom (.loc p)->G.dom (.loc p)\/∃q,p=(st.tick+i)::q):pF C ops st recs G0 w0 a0 (j4 D i) G' w' a':=by
 have hin:i<ops.size:=by have:=(List.getElem?_eq_some_iff.1 ho).1;simpa using this
 refine⟨hi.step.comp hs,hg,hde.trans hi.defers, ?_,λk ob hk=>hh k ob (by rw[← hi.S3 hd hni ho hr he];exact hk),λp hp=> ?_,λj x hD hx e he' hb=> ?_,λj rx v u l hD yF=> ?_⟩
 ·have:(fP ops.toList recs (s0 st) (j4 D i) ops.size).slots=((fP ops.toList recs (s0 st) D ops.size).after o r.res).slots:=List.ext_getElem? (hi.QE hd hni ho hr he);rw[this];exact HA
 ·rcases hfr p hp with h|⟨q,e⟩
  ·obtain⟨n,q,e,h1⟩:=hi.fresh p h;refine⟨n,q,e,h1.imp id λ⟨j,h2,h3,h4⟩=>⟨j, ?_,h3,h4⟩⟩;simp only[j4];split<;>simp_all
  ·exact⟨_,q,e,.inr ⟨i,by simp[j4],hin,rfl⟩⟩
 ·by_cases e1:e.on=i
  ·simp[j4,e1]
  ·simp only[j4,if_neg e1];by_cases e2:j=i
   ·subst e2;rw[ho] at hx;simp at hx;subst hx;exact he e he' hb
   ·simp only[j4,if_neg e2] at hD;exact hi.closed j x hD hx e he' hb
 ·by_cases e2:j=i
  ·subst e2;rw[hr] at yF;simp at yF;subst yF;exact adG v u l
  ·simp only[j4,if_neg e2] at hD;exact hi.calm j rx v u l hD yF
end step
theorem S4 {bs:List Nat}{t0 i:Nat}{o:Oper}{s:tN}{tO:Option Nat}{r:Rec}(h:Sk C ev f ops bs t0 i o s tO=some r):
 (∃j,tO=some j/\fB bs j i=true/\r.res=.w5)\/
 (dH ops (jd (o.looksAt ops) 0 s.slots) o=some false/\r.res=.unwanted)\/
 (dH ops (jd (o.looksAt ops) 0 s.slots) o=some true/\∃v u,aT C ev f (lW s.H r.fp) (jd (o.looksAt ops) 0 s.slots) (t0+i) o=some (.val v u)/\r.res=.val v u)\/
 (dH ops (jd (o.looksAt ops) 0 s.slots) o=some true/\∃v u l,aT C ev f (lW s.H r.fp) (jd (o.looksAt ops) 0 s.slots) (t0+i) o=some (.panic v u l)/\r.res=.panic v u l/\tO=none):=by
 unfold Sk at h
 split at h
 ·rename_i hp;simp at h;subst h;split at hp
  ·rename_i j;exact .inl ⟨j,rfl,hp,rfl⟩
  ·simp at hp
 ·split at h
  ·simp at h
  ·rename_i hw;simp at h;subst h;exact .inr (.inl ⟨hw,rfl⟩)
  ·rename_i hw;split at h
   ·simp at h
   ·rename_i fp ON;split at h
    ·simp at h
    ·rename_i v u hx;simp at h;subst h;exact .inr (.inr (.inl ⟨hw,v,u,hx,rfl⟩))
    ·rename_i v u l hx;split at h
     ·simp at h
     ·simp at h;subst h;exact .inr (.inr (.inr ⟨hw,v,u,l,hx,rfl,rfl⟩))
theorem x8 {H:Heap}{slots:List TV}{t:Nat}{o:Oper}{r:qu}(h:aT C ev f H slots t o=some r):∀cs b,o.op≠ .select cs b:=by
 intro cs b e;unfold aT at h;rw[e] at h;simp[evalOp,e] at h
theorem Gs:∀(l:List Oper) (s:List TV),(BJ l s).length=s.length
 | [],_=>rfl
 |o::r,s=>by
  show(BJ r (cU s o.dst .any)).length=_
  rw[Gs r]
  cases o.dst with
  |none=>rfl
  |some d=>simp[cU,nT]
theorem Kg:∀{l:List Oper} {s:List TV} {t:Nat} {c:TV},(BJ l s)[t]?=some c->c=.any\/(s[t]?=some c/\∀o∈l,o.dst≠some t)
 | [],_,_,_,h=>.inr ⟨h,λ_ h=>by cases h⟩
 | o ::r,s,t,c,h=>by
   rcases Kg (l:=r) (s:=cU s o.dst .any) h with e|⟨e,hr⟩
   · exact .inl e
   · by_cases hd:o.dst=some t
     · rw[hd] at e
       simp only[cU,nT,List.getElem?_set] at e
       split at e
       · split at e
         · cases e;exact .inl rfl
         · cases e
       · rename_i hne;exact absurd trivial hne
     · rw[Dr hd] at e
       exact .inr ⟨e,λx hx=>by
         rcases List.mem_cons.1 hx with rfl|hx
         · exact hd
         · exact hr x hx⟩
theorem xg {l:List Oper}{recs:List Rec}{s0:tN}{D:Nat->Bool}{t:Nat}(h:∀o∈l,o.dst≠some t):∀n,(fP l recs s0 D n).slots[t]?=s0.slots[t]?
 |0=>rfl
 | n +1=>by
   simp only[fP]
   split
   · rename_i o r ho hr
     split
     · rw[yE (h o (List.mem_of_getElem? ho))];exact xg h n
     · exact xg h n
   · exact xg h n
theorem QF (s:tN)(o:Oper)(r:Ci):(s.after o r).slots.length=s.slots.length:=by
 cases r with
 |w5=>rfl
 |unwanted=>simp only[tN.after];cases o.dst<;>simp[cU,nT]
 |val v u=>simp only[tN.after];cases o.dst<;>simp[cU,nT]
 |panic v u l=>rfl
theorem CD {l:List Oper}{recs:List Rec}{s0:tN}{D:Nat->Bool}:∀n,(fP l recs s0 D n).slots.length=s0.slots.length
 |0=>rfl
 | n +1=>by
   simp only[fP]
   split
   · split
     · rw[QF];exact CD n
     · exact CD n
   · exact CD n
theorem S5 {G':Gh}{a:Act}{D:Nat->Bool}{n:Nat}(h:SR G' (fP ops.toList recs (s0 st) D n).slots a):SR G' (BJ ops.toList st.slots) a:=by
 have hl:(fP ops.toList recs (s0 st) D n).slots.length=st.slots.length:=CD n;refine⟨by rw[Gs,← hl];exact h.1,λt c v hc hv=> ?_⟩;rcases Kg hc with rfl|⟨e,hn⟩
 ·exact .any _
 ·exact h.2 t c v (by rw[xg hn];exact e) hv
theorem Dv (aC:aI C ev)(hd:sO C ev f ops st recs){G0:Gh}{w0:World}{a0:Act}{e:aK}{st':St}{Q:Exit->Act->World->Prop}
 (hQ:∀ex a' w',Good C G0 w0 a0 e st' ex a' w'->Q ex a' w')
 (aa4:∀j v u l,iq 0 recs=some (j,v,u,l)->e=.panic v/\st'={slots:=BJ ops.toList st.slots,H:=((fP ops.toList recs (s0 st) (λ_=>true) ops.size).H.tU (l++yx ((jH ops.toList []).getD j 0) 0 recs)).dX u,tick:=st.tick+ops.size})
 {listed:Array Bool}{G:Gh}{w:World}{a:Act}(hsz:listed.size=ops.size)(hi:pF C ops st recs G0 w0 a0 (λj=>listed.getD j false) G w a){i:Nat}(hmem:i∈Region.ready .any ops listed){K:Act->World->Prop}
 (hnext:∀{G':Gh} {w':World} {a':Act},pF C ops st recs G0 w0 a0 (j4 (λj=>listed.getD j false) i) G' w' a'->K a' w'):wpOp C.P ops Q i K a w:=by
 have hat:∀(i:Nat) (o:Oper),ops[i]?=some o↔ops.toList[i]?=some o:=λi o=>by simp
 rw[mem_ready] at hmem
 obtain⟨MJ,o,ho',aa5⟩:=hmem
 have hin:i<ops.size:=(Array.getElem?_eq_some_iff.1 ho').1
 have hni:listed.getD i false=false:=by
  rw[Array.getD_eq_getD_getElem?] at MJ ⊢;rw[Array.getElem?_eq_getElem (by omega)] at MJ ⊢;exact MJ
 have ho:=(hat i o).1 ho'
 have he:∀e∈o.after.toList,Region.binds .any e=true->listed.getD e.on false=true:=λe h1 h2=>aa5 e (by simpa using h1) h2
 obtain⟨r,hr,hop⟩:=hd.at' i o ho
 have adH:=hi.look hd hni ho hr he
 have Gt:=XK hi.slots (o.looksAt ops)
 rw[← adH] at Gt
 have adI:=hi.ag9 hd hni ho hr he
 have S6:(∀k∈r.fp,(fP ops.toList recs (s0 st) (λ_=>true) i).H.get k=(fP ops.toList recs (s0 st) (λj=>listed.getD j false) ops.size).H.get k)->HR G w (lW (fP ops.toList recs (s0 st) (λ_=>true) i).H r.fp):=by
  intro hs k ob hk;obtain⟨h1,h2⟩:=QD hk;rw[hs k h1] at h2;exact hi.heap k ob h2
 have hfresh:∀p,¬G.dom (.loc ((st.tick+i)::p)):=by
  intro p q5;obtain⟨n,q,e1,h⟩:=hi.fresh _ q5;simp at e1;rcases h with h|⟨j,h1,h2,h3⟩
  ·omega
  ·have:j=i:=by omega
   subst this;rw[hni] at h1;cases h1
 unfold wpOp
 rw[ho']
 simp only
 rcases S4 hop with ⟨j,hp,hb,hres⟩|⟨hw,hres⟩|⟨hw,v,u,hx,hres⟩|⟨hw,v,u,l,hx,hres,hp⟩
 ·obtain⟨_,rj,vj,uj,lj,h1,h2⟩:=QA hp;have hD:=hi.closed.before (i+1) j i o (by omega) ho he hb;exact absurd h2 (hi.calm j rj vj uj lj hD h1)
 ·have:=ji hw Gt;rw[vX] at this;rw[this];refine hnext (hi.next hd hni ho hr he (by rw[hres];simp) (Step.refl hi.step.wf _ _) (put_defers _ _ _) hi.iT ?_ ?_ (λp h=>.inl h))
  ·rw[hres];exact hi.slots.put o.dst (l9 G)
  ·rw[hres];exact hi.heap
 ·have:=ji hw Gt;rw[vX] at this;rw[this];refine .inl ?_;obtain⟨Hx,hx,hheap⟩:∃Hx,aT C ev f Hx (jd (o.looksAt ops) 0 (fP ops.toList recs (s0 st) (λ_=>true) i).slots) (st.tick+i) o=some (.val v u)/\HR G w Hx:=by
   rcases adI with hs|⟨nm,ob,v2,_,e2,e3,e4⟩
   ·exact⟨_,hx,S6 hs⟩
   ·rw[hres] at e2;cases e2;refine⟨_,e4,λk ob2 hk=> ?_⟩;simp only[Heap.get] at hk;split at hk
    ·rename_i e5;cases hk;subst e5;exact hi.heap _ _ e3
    ·cases hk
  have hex:=sM aC hx hi.step.wf hi.iT Gt hheap hfresh;unfold kL at hex;rw[Gr (x8 hx)] at hex;refine kL.wp (R:=oh (st.tick+i) G w (.val v u)) hex oh.no (λx w' hR=> ?_) (λch w' hR=> ?_)
  ·obtain⟨x',G',e1,hs,hu,hv⟩:=hR;simp at e1;subst e1;refine hnext (hi.next hd hni ho hr he (by rw[hres];simp) hs.any (put_defers _ _ _) (hi.iT.mono hs.le) ?_ ?_ (λp h=> ?_))
   ·rw[hres];exact(hi.slots.mono hs.le).put o.dst hv
   ·rw[hres];exact HR.dX hs hi.step.wf hi.heap hu (λk _ hk=>hk)
   ·rcases hs.news _ h with h|⟨q,e2⟩
    ·exact .inl h
    ·simp at e2;exact .inr ⟨q,e2⟩
  ·obtain⟨x',G',e1,_⟩:=hR;simp at e1
 ·have:=  ji hw Gt;rw[vX] at this;rw[this];refine .inl ?_;have hheap:HR G w (lW (fP ops.toList recs (s0 st) (λ_=>true) i).H r.fp):=by
   rcases adI with hs|⟨nm,ob,v2,_,e2,_,_⟩
   ·exact S6 hs
   ·rw[hres] at e2;cases e2
  have hex:=sM aC hx hi.step.wf hi.iT Gt hheap hfresh;unfold kL at hex;rw[Gr (x8 hx)] at hex;refine kL.wp (R:=oh (st.tick+i) G w (.panic v u l)) hex oh.no (λx w' hR=> ?_) (λch w' hR=> ?_)
  ·obtain⟨x',G',e1,_⟩:=hR;simp at e1
  ·obtain⟨x',G',e1,hs,hu,hv⟩:=hR;simp at e1;subst e1;have hpa:iq 0 recs=some (i,v,u,l):=by
    cases hpa:iq 0 recs with
    |none=>exact absurd hres (H9 hpa r (List.mem_of_getElem? hr) v u l)
    | some q=>
      obtain⟨j,v',u',l'⟩:=q
      obtain⟨k,rk,h1,h2,h3⟩:=zD hpa
      rcases Nat.lt_trichotomy k i with h|h|h
      · have:=BQ h h2 h3
        rw[hp] at this;simp at this
      · subst h
        rw[hr] at h2;simp at h2;subst h2
        rw[hres] at h3
        simp at h3
        obtain⟨rfl,rfl,rfl⟩:=h3
        simp at h1;subst h1;rfl
      · obtain⟨ok,hok⟩:∃ok,ops.toList[k]?=some ok:=⟨_,List.getElem?_eq_getElem (by have:=(List.getElem?_eq_some_iff.1 h2).1;rw[hd.len] at this;simpa using this)⟩
        obtain⟨rk',hrk,aha⟩:=hd.at' k ok hok
        rw[h2] at hrk;simp at hrk;subst hrk
        have hsome:=BQ h hr hres
        rcases S4 aha with ⟨_,_,_,q⟩|⟨_,q⟩|⟨_,_,_,_,q⟩|⟨_,_,_,_,_,_,q⟩
        · rw[h3] at q;simp at q
        · rw[h3] at q;simp at q
        · rw[h3] at q;simp at q
        · rw[q] at hsome;simp at hsome
   obtain⟨rfl,rfl⟩:=aa4 i v u l hpa;refine hQ _ _ _ ⟨G',hi.step.comp hs.any,hi.defers,x',rfl,hv, ?_,S5 (hi.slots.mono hs.le),st.tick+ops.size,λp hp=> ?_⟩;rotate_left
   ·have hsz:i<ops.size:=by have:=(List.getElem?_eq_some_iff.1 ho).1;simpa using this
    rcases hs.news _ hp with d|⟨q,e⟩
    ·obtain⟨n,q,e1,h|⟨j,_,hj,h⟩⟩:=hi.fresh p d
     ·exact⟨n,q,e1,by omega⟩
     ·exact⟨n,q,e1,by omega⟩
    ·exact⟨_,q,Nm.loc.inj e,by omega⟩
   intro k ob hk;rcases Heap.sH _ u k ob hk with h1|⟨h1,hn⟩
   ·exact hu k ob h1
   ·rw[ Heap.vN] at h1;split at h1
    ·simp at h1
    rename_i hl;simp only[List.mem_append,not_or] at hl;have hsame:(fP ops.toList recs (s0 st) (λ_=>true) ops.size).H.get k=(fP ops.toList recs (s0 st) (λj=>listed.getD j false) ops.size).H.get k:=by
     refine xd λj rj hj hrj hkj=> ?_
     have hji:j≠i:=λe1=>by
      subst e1;rw[hr] at hrj;simp at hrj;subst hrj;rw[hres] at hkj;simp only[Ci.keys,List.mem_append] at hkj;exact hkj.elim hn hl.1
     have:=MG hl.2 j rj hrj hkj;rw[Nat.zero_add] at this;exact(hi.closed.before (i+1) j i o (by omega) ho he this).symm
    rw[hsame] at h1;obtain⟨d,hob⟩:=hi.heap k ob h1;exact⟨hs.le.dom _ d,hs.keeps hi.step.wf d (λhx=>by rcases List.mem_append.1 hx with hx|hx;exact hn hx;exact hl.1 hx) hob⟩
theorem Kh (aC:aI C ev)(hd:sO C ev f ops st recs){G0:Gh}{w0:World}{a0:Act}(hst:vG C G0 w0 st a0){e:aK}{st':St}{Q:Exit->Act->World->Prop}
 (hQ:∀ex a' w',Good C G0 w0 a0 e st' ex a' w'->Q ex a' w')
 (hend:iq 0 recs=none->e=.normal/\st'={slots:=(fP ops.toList recs (s0 st) (λ_=>true) ops.size).slots,H:=(fP ops.toList recs (s0 st) (λ_=>true) ops.size).H,tick:=st.tick+ops.size})
 (aa4:∀j v u l,iq 0 recs=some (j,v,u,l)->e=.panic v/\st'={slots:=BJ ops.toList st.slots,H:=((fP ops.toList recs (s0 st) (λ_=>true) ops.size).H.tU (l++yx ((jH ops.toList []).getD j 0) 0 recs)).dX u,tick:=st.tick+ops.size}):
 ∀(fuel:Nat) (listed:Array Bool) (G:Gh) (w:World) (a:Act),listed.size=ops.size->listed.toList.countP (· ==false)<=fuel->pF C ops st recs G0 w0 a0 (λj=>listed.getD j false) G w a->wpAny C.P .any ops Q fuel listed a w:=by
 have hat:∀(i:Nat) (o:Oper),ops[i]?=some o↔ops.toList[i]?=some o:=λi o=>by simp
 have hall :∀(listed:Array Bool),listed.size=ops.size->Region.ready .any ops listed=[]->∀j,j<ops.size->listed.getD j false=true:=by
  intro listed hsz hr j;induction j using Nat.strongRecOn with
  | _ j ih=>
    intro hj
    cases hD:listed.getD j false with
    |true=>rfl
    | false=>
      have:j∈Region.ready .any ops listed:=by
        rw[mem_ready]
        refine⟨?_,ops[j],Array.getElem?_eq_getElem hj,λe he hb=> ?_⟩
        · rw[Array.getD_eq_getD_getElem?] at hD ⊢
          rw[Array.getElem?_eq_getElem (by omega)] at hD ⊢
          exact hD
        · have:=Qz hd.back j ops[j] (by simp[hj]) e (by simpa using he) hb
          exact ih e.on (by omega) (by omega)
      rw[hr] at this
      simp at this
 have hdone:∀(listed:Array Bool) (G:Gh) (w:World) (a:Act),listed.size=ops.size->pF C ops st recs G0 w0 a0 (λj=>listed.getD j false) G w a->Region.ready .any ops listed=[]->Q .normal a w:=by
  intro listed G w a hsz hi hr;have hl:=hall listed hsz hr;cases hp:iq 0 recs with
  | some q=>
    obtain⟨j,v,u,l⟩:=q
    obtain⟨k,r,h1,h2,h3⟩:=zD hp
    have hk:k<ops.size:=by rw[← hd.len];exact(List.getElem?_eq_some_iff.1 h2).1
    exact absurd h3 (hi.calm k r v u l (hl k hk) h2)
  | none=>
    obtain⟨rfl,rfl⟩:=hend hp
    have hsame:fP ops.toList recs (s0 st) (λj=>listed.getD j false) ops.size=fP ops.toList recs (s0 st) (λ_=>true) ops.size:=xe λj hj=>hl j hj
    refine hQ _ _ _ ⟨G,hi.step,hi.defers,rfl,hi.step.wf,hi.iT, ?_, ?_,λp hp=> ?_⟩
    · have:=hi.slots;rw[hsame] at this;exact this
    · have:=hi.heap;rw[hsame] at this;exact this
    · obtain⟨n,q,e,h⟩:=hi.fresh p hp
      refine⟨n,q,e, ?_⟩
      rcases h with h|⟨j,_,h,rfl⟩
      · simp only;omega
      · simp only;omega
 intro fuel
 induction fuel with
 | zero=>
   intro listed G w a hsz hc hi
   have hcz:listed.toList.countP (· ==false)=0:=by omega
   have hl:∀j,j<ops.size->listed.getD j true=true:=by
     intro j hj
     rw[List.countP_eq_zero] at hcz
     have:=hcz listed[j] (by simp)
     rw[Array.getD_eq_getD_getElem?,Array.getElem?_eq_getElem (by omega)]
     simpa using this
   have hr:Region.ready .any ops listed=[]:=by
     refine List.eq_nil_iff_forall_not_mem.2 λj hj=> ?_
     rw[mem_ready] at hj
     obtain⟨h1,o,h2,_⟩:=hj
     have:=hl j (Array.getElem?_eq_some_iff.1 h2).1
     rw[this] at h1;cases h1
   exact⟨hr,hdone listed G w a hsz hi hr⟩
 | succ fuel ih=>
   intro listed G w a hsz hc hi
   refine⟨hdone listed G w a hsz hi,λi hmem=> ?_⟩
   have hin:i<ops.size:=by
     rw[mem_ready] at hmem
     obtain⟨_,o,ho',_⟩:=hmem
     exact(Array.getElem?_eq_some_iff.1 ho').1
   have hni:listed.getD i false=false:=by
     rw[mem_ready] at hmem
     have MJ:=hmem.1
     rw[Array.getD_eq_getD_getElem?] at MJ ⊢
     rw[Array.getElem?_eq_getElem (by omega)] at MJ ⊢
     exact MJ
   have XL:(listed.setIfInBounds i true).toList.countP (· ==false)<=fuel:=by
     rw[Array.toList_setIfInBounds,List.countP_set (by simp;omega)]
     have h1:(listed.toList[i]'(by simp;omega)==false)=true:=by
       rw[Array.getD_eq_getD_getElem?,Array.getElem?_eq_getElem (by omega)] at hni
       simpa using hni
     rw[if_pos h1]
     have h2:(if((true:Bool)==false)=true then 1 else 0)=0:=rfl
     rw[h2]
     omega
   have adJ:(λj=>(listed.setIfInBounds i true).getD j false)=j4 (λj=>listed.getD j false) i:=by
     funext j
     simp only[j4]
     by_cases e1:j=i
     · subst e1
       rw[Array.getD_eq_getD_getElem?,Array.getElem?_setIfInBounds_self_of_lt (by omega)]
       simp
     · rw[if_neg e1,getD_set_ne false (λh=>e1 h.symm)]
   have hnext:∀{G':Gh} {w':World} {a':Act},pF C ops st recs G0 w0 a0 (j4 (λj=>listed.getD j false) i) G' w' a'->wpAny C.P .any ops Q fuel (listed.setIfInBounds i true) a' w':=by
     intro G' w' a' hi'
     rw[← adJ] at hi'
     exact ih _ G' w' a' (by simpa using hsz) XL hi'
   exact Dv aC hd hQ aa4 hsz hi hmem hnext
noncomputable def QG (ops:Array Oper)(st:St)(recs:List Rec):aK×St:=
 let s:=u6 ops.toList recs {slots:=st.slots,H:=st.H}
 match iq 0 recs with
 |none=>(.normal,{slots:=s.slots,H:=s.H,tick:=st.tick+ops.size})
 |some (j,v,u,lost)=>(.panic v,{slots:=BJ ops.toList st.slots,H:=(s.H.tU (lost++yx ((jH ops.toList []).getD j 0) 0 recs)).dX u,tick:=st.tick+ops.size})
theorem yG (hm:C.P.prog.follows .mixedOrders=true)(aC:aI C ev){e:aK}{st':St}(Gu:yw C ev f ops (jH ops.toList []) st.tick 0 ops.toList {slots:=st.slots,H:=st.H} none=some recs)
 (hfree:∀(i j:Nat) (x y:Oper) (rx ry:Rec),i<j->ops.toList[i]?=some x->ops.toList[j]?=some y->recs[i]?=some rx->recs[j]?=some ry->fB (jH ops.toList []) i j=true\/r9 ops x y rx ry=true\/(jX ops x y=true/\SZ C ev f ops st recs i x rx ry))
 (adK:qv 0 ops.toList=true)(h:QG ops st recs=(e,st')){G:Gh}{w:World}{a:Act}(hst:vG C G w st a){id:Nat}
 {Q:Exit->Act->World->Prop}(hQ:∀ex a' w',Good C G w a e st' ex a' w'->Q ex a' w'):(Code.region id ops true).wp C.P Q a w:=by
 obtain⟨h1,h2⟩:=OL (l:=ops.toList) (recs:=recs) (s0:=s0 st) (D:=λ_=>true) (λ_=>rfl) (i:=0) Gu (by simp) (by simp)
 have hd:sO C ev f ops st recs:=⟨by simpa using h1,λj o ho=>by have:=h2 j o ho;simpa using this,hfree,adK⟩
 have Dw:u6 ops.toList recs {slots:=st.slots,H:=st.H}=fP ops.toList recs (s0 st) (λ_=>true) ops.size:=by
  have:=Gq (l:=ops.toList) (recs:=recs) (s0:=s0 st) (D:=λ_=>true) (λ_=>rfl) (os:=ops.toList) (rs:=recs) (i:=0) h1.symm (by simp) (by simp);simpa [fP] using this
 refine wp_region_any hm ?_
 have hw':World:={w with drawn:=w.drawn+1}
 have hstep:dz G w G {w with drawn:=w.drawn+1}:=⟨.refl G,⟨hst.wf.F,hst.wf.inj,hst.wf.lt⟩,λ_ _ _=>⟨rfl,rfl⟩,λ_ _ _=>⟨rfl,λ_=>rfl⟩,λ_ h=>.inl h,λk h=>.inl ⟨k,h,rfl,.inl rfl⟩,Nat.le_refl _,rfl,rfl,rfl⟩
 have jk:vG C G {w with drawn:=w.drawn+1} st a:=⟨hstep.wf,hst.iT,hst.slots,hst.heap,hst.fresh⟩
 refine Kh aC hd jk (Q:=Q) (e:=e) (st':=st') (λex a' w' hg=>hQ ex a' w' (Good.comp hstep rfl hg)) (λhp=> ?_) (λj v u l hp=> ?_) ops.size _ G _ a (by simp) ?_ ?_
 ·simp only[QG,hp,Dw,Prod.mk.injEq] at h;exact⟨h.1.symm,h.2.symm⟩
 ·simp only[QG,hp,Dw,Prod.mk.injEq] at h;exact⟨h.1.symm,h.2.symm⟩
 ·simp[List.countP_replicate]
 ·have hnone:fP ops.toList recs (s0 st) (λj=>(Array.replicate ops.size false).getD j false) ops.size=s0 st:=by
   rw[om (m:=0) (by omega) (λj _ hj=>by simp[Array.getD_eq_getD_getElem?,Array.getElem?_replicate,hj])];rfl
  refine⟨Step.refl jk.wf _ _,jk.iT,rfl,by rw[hnone];exact jk.slots,by rw[hnone];exact jk.heap,λp hp=> ?_,λj x hD=> ?_,λj r v u l hD=> ?_⟩
  ·obtain⟨n,q,e1,h3⟩:=jk.fresh p hp;exact⟨n,q,e1,.inl h3⟩
  ·exfalso;simp only[Array.getD_eq_getD_getElem?,Array.getElem?_replicate] at hD;split at hD<;>simp at hD
  ·exfalso;simp only[Array.getD_eq_getD_getElem?,Array.getElem?_replicate] at hD;split at hD<;>simp at hD
theorem Dy (hm:C.P.prog.follows .mixedOrders=true)(aC:aI C ev){e:aK}{st':St}(h:w6 C ev f ops st=some (e,st')){G:Gh}{w:World}{a:Act}(hst:vG C G w st a){id:Nat}
 {Q:Exit->Act->World->Prop}(hQ:∀ex a' w',Good C G w a e st' ex a' w'->Q ex a' w'):(Code.region id ops true).wp C.P Q a w:=by
 unfold w6 at h
 simp only at h
 split at h
 ·simp at h
 rename_i recs Gu
 split at h
 case isFalse=>simp at h
 rename_i hfree
 refine yG hm aC Gu (λi j x y rx ry hij hx hy yF S0=>(Ib hfree.1 hij hx hy yF S0).imp (λh=>h) .inl) hfree.2 ?_ hst hQ
 unfold QG
 simp only
 split at h
 ·rename_i hp;cases h;simp only[hp]
 ·rename_i hp;cases h;simp only[hp]
end
end Go.Abs
namespace Go.Abs
open Go
section
variable {C:cE}{ev:aW}{f:FuncId}
theorem Good.qA {G:Gh}{w:World}{a:Act}{st':St}{ex:Exit}{a':Act}{w':World}(h:Good C G w a .normal st' ex a' w'):ex=.normal/\a'.defers=a.defers/\∃G',dz G w G' w'/\vG C G' w' st' a':=by
 obtain⟨G',h1,h2,h3,h4⟩:=h;exact⟨h3,h2,G',h1,h4⟩
theorem Good.gK {G:Gh}{w:World}{a:Act}{e:aK}{st':St}{ex:Exit}{a':Act}{w':World}(h:Good C G w a e st' ex a' w')(he:e≠ .normal):ex≠ .normal:=by
 obtain⟨G',h1,h2,h3⟩:=h;cases e with
 |normal=>exact absurd rfl he
 |exit id=>intro e;simp only at h3;rw[e] at h3;simp at h3
 |ret=>intro e;simp only at h3;rw[e] at h3;simp at h3
 |panic v=>intro e;obtain⟨x,h4,_⟩:=h3;rw[e] at h4;simp at h4
theorem gL {next:Act->World->Prop}{Q:Exit->Act->World->Prop}{ex:Exit}{a:Act}{w:World}(h:ex≠ .normal)(hq:Q ex a w):Exit.then next Q ex a w:=by
 cases ex<;>first|exact hq|exact absurd rfl h
def S7 (C:cE)(c:Code)(body:St->Option (aK×St)):Prop:=∀st e st',body st=some (e,st')->∀(G:Gh) (w:World) (a:Act),vG C G w st a->c.wp C.P (Good C G w a e st') a w
theorem S8 {c:Code}{body:St->Option (aK×St)}(h:S7 C c body):∀(n:Nat) (st:St) (e:aK) (st':St),CZ body n st=some (e,st')->∀(G:Gh) (w:World) (a:Act),vG C G w st a->
 ∀Q:Exit->Act->World->Prop,(∀ex a' w',Good C G w a e st' ex a' w'->Q ex a' w')->Code.rounds C.P c Q n a w:=by
 intro n
 induction n with
 |zero=>intro st e st' hi;simp[CZ] at hi
 | succ n ih=>
   intro st e st' hi G w a hst Q hQ
   simp only[CZ] at hi
   rw[rounds_succ]
   split at hi
   · rename_i st1 hb
     refine wp_mono (h st _ _ hb G w a hst) λex a1 w1 hg=> ?_
     obtain⟨rfl,hd,G1,hs,j5⟩:=hg.qA
     exact ih st1 e st' hi G1 w1 a1 j5 Q λex a' w' hg'=>hQ _ _ _ (Good.comp hs hd hg')
   · rename_i hne
     have he:e≠ .normal:=λe1=>by subst e1;exact hne st' hi
     refine wp_mono (h st _ _ hi G w a hst) λex a1 w1 hg=>gL (hg.gK he) (hQ _ _ _ hg)
theorem lB (hm:C.P.prog.follows .mixedOrders=true)(aC:aI C ev){fuel:Nat}:∀(c:Code),S7 C c (evalCode C ev f fuel c):=by
 intro c;induction c with
 | skip=>
   intro st e st' h G w a hst
   simp[evalCode] at h
   obtain⟨rfl,rfl⟩:=h
   exact wp_skip ⟨G,Step.refl hst.wf _ _,rfl,rfl,hst⟩
 | label l=>
   intro st e st' h G w a hst
   simp[evalCode] at h
   obtain⟨rfl,rfl⟩:=h
   exact wp_label ⟨G,Step.refl hst.wf _ _,rfl,rfl,hst⟩
 | region id ops draw=>
   intro st e st' h G w a hst
   simp only[evalCode] at h
   cases draw with
   | true=>
     rw[if_pos rfl] at h
     exact Dy hm aC h hst λ_ _ _ hg=>hg
   | false=>
     simp only[Bool.false_eq_true,if_false] at h
     exact wp_region_list (XI aC _ _ _ _ h G w a hst _ λ_ _ _ hg=>hg)
 | seq x y XM ihy=>
   intro st e st' h G w a hst
   simp only[evalCode] at h
   refine wp_seq ?_
   split at h
   · rename_i st1 hb
     refine wp_mono (XM st _ _ hb G w a hst) λex a1 w1 hg=> ?_
     obtain⟨rfl,hd,G1,hs,j5⟩:=hg.qA
     exact wp_mono (ihy st1 _ _ h G1 w1 a1 j5) λex a' w' hg'=>Good.comp hs hd hg'
   · rename_i hne
     have he:e≠ .normal:=λe1=>by subst e1;exact hne st' h
     exact wp_mono (XM st _ _ h G w a hst) λex a1 w1 hg=>gL (hg.gK he) hg
 | cond c x y XM ihy=>
   intro st e st' h G w a hst
   simp only[evalCode] at h
   split at h
   · rename_i hc
     exact wp_cond_true (bP hst.slots hst.iT hc).bool (XM st _ _ h G w a hst)
   · rename_i hc
     exact wp_cond_false (bP hst.slots hst.iT hc).bool (ihy st _ _ h G w a hst)
   · simp at h
 | block id x XM=>
   intro st e st' h G w a hst
   simp only[evalCode] at h
   refine wp_block ?_
   split at h
   · rename_i id' st1 hb
     refine wp_mono (XM st _ _ hb G w a hst) λex a1 w1 hg=> ?_
     obtain⟨G1,hs,hd,rfl,j5⟩:=hg
     split at h
     · rename_i e1
       simp at h
       obtain⟨rfl,rfl⟩:=h
       simp only[Exit.inBlock,e1,if_true]
       exact⟨G1,hs,hd,rfl,j5⟩
     · rename_i e1
       simp at h
       obtain⟨rfl,rfl⟩:=h
       simp only[Exit.inBlock,e1,if_false]
       exact⟨G1,hs,hd,rfl,j5⟩
   · rename_i hne
     refine wp_mono (XM st _ _ h G w a hst) λex a1 w1 hg=> ?_
     cases e with
     |normal=>obtain⟨G1,hs,hd,rfl,j5⟩:=hg;exact⟨G1,hs,hd,rfl,j5⟩
     |exit id'=>exact absurd h (hne id' st')
     |ret=>obtain⟨G1,hs,hd,rfl,j5⟩:=hg;exact⟨G1,hs,hd,rfl,j5⟩
     |panic v=>obtain⟨G1,hs,hd,x,rfl,j5⟩:=hg;exact⟨G1,hs,hd,x,rfl,j5⟩
 | loop x XM=>
   intro st e st' h G w a hst
   simp only[evalCode] at h
   exact wp_loop_rounds fuel (S8 XM fuel st e st' h G w a hst _ λ_ _ _ hg=>hg)
 | exit id=>
   intro st e st' h G w a hst
   simp[evalCode] at h
   obtain⟨rfl,rfl⟩:=h
   exact wp_exit ⟨G,Step.refl hst.wf _ _,rfl,rfl,hst⟩
 | ret=>
   intro st e st' h G w a hst
   simp[evalCode] at h
   obtain⟨rfl,rfl⟩:=h
   exact wp_ret ⟨G,Step.refl hst.wf _ _,rfl,rfl,hst⟩
 |_=>intro st e st' h;simp[evalCode] at h
end
end Go.Abs
namespace Go.Abs
open Go
section
variable {C:cE}{ev:aW}{f:FuncId}{G:Gh}{w:World}
def Ic (tmps:Array Value):ResultVar->Sem Value
 |.tmp t=>pure (tmps.getD t undef)
 |.cell x t=>do loadVar t (← asAddr (tmps.getD x undef))
theorem MK (fn:Func)(tmps:Array Value):results fn tmps=(do let vs ← fn.results.mapM (Ic tmps);pure (if h:vs.size=1 then vs[0] else .tuple vs):Sem Value):=by
 unfold results;exact congrArg (λg:ResultVar->Sem Value=>(do let vs ← fn.results.mapM g;pure (if h:vs.size=1 then vs[0] else .tuple vs):Sem Value)) (funext λx=>by cases x<;>rfl)
theorem ML {st:St}{a:Act}(hst:vG C G w st a):∀{rs:List ResultVar} {vs:List TV},iP C st rs=some vs->
 ∃us:List Value,(rs.mapM (Ic a.tmps):Sem (List Value)).run C.P w=.ok us w/\cB G vs us:=by
 intro rs
 induction rs with
 |nil=>intro vs h;simp[iP] at h;subst h;exact⟨[],by simp,cB.nil G⟩
 | cons r rs ih=>
  intro vs h
  cases r with
  |tmp t=>
   simp only[iP] at h
   cases h1:iP C st rs<;>simp only[h1,reduceCtorEq] at h
   simp only[Option.some.injEq] at h
   subst h
   obtain⟨us,h2,h3⟩:=ih h1
   refine⟨a.tmps.getD t undef::us, ?_,cB.cons (hst.slots.getD t) h3⟩
   rw[List.mapM_cons]
   rw[fR (a:=a.tmps.getD t undef) (w':=w) rfl,fR h2]
   rfl
  |cell x t=>
   simp only[iP] at h
   cases h0:loadT C.P st.H t (st.slots.getD x bS)<;>cases h1:iP C st rs<;>simp only[h0,h1,reduceCtorEq] at h
   simp only[Option.some.injEq] at h
   subst h
   obtain⟨us,h2,h3⟩:=ih h1
   obtain⟨u,h4,h5⟩:=BP hst.heap hst.wf (hst.slots.getD x) h0
   refine⟨u::us, ?_,cB.cons h5 h3⟩
   have h4':(Ic a.tmps (.cell x t)).run C.P w=.ok u w:=h4
   rw[List.mapM_cons]
   rw[fR h4',fR h2]
   rfl
theorem yH {st:St}{a:Act}{fn:Func}{vs:List TV}(hst:vG C G w st a)(h:iP C st fn.results.toList=some vs):∃v,(results fn a.tmps).run C.P w=.ok v w/\VR G (u7 vs) v:=by
 obtain⟨us,h1,h2⟩:=ML hst h;rw[MK,Array.mapM_eq_mapM_toList];have h3:(List.toArray<$>(fn.results.toList.mapM (Ic a.tmps):Sem (List Value))).run C.P w=.ok us.toArray w:=by
  rw[map_eq_pure_bind];rw[fR h1];rfl
 refine⟨_,fR h3, ?_⟩;cases vs with
 |nil=>
  have:=h2.1;simp at this;subst this
  exact lX h2
 | cons x r=>
  cases r with
  |nil=>
   obtain⟨u,us',rfl,h5,h6⟩:=h2.fQ
   have:=h6.1;simp at this;subst this
   exact h5
  |cons y r=>
   have hl:=h2.1
   simp at hl
   rw[dif_neg (by simp;omega)]
   exact lX h2
theorem vY {H:Heap}:∀{n i:Nat} {os:List aO},nj H i n=some os->os.length=n/\∀j o,os[j]?=some o->H.get (.arg (i+j))=some o:=by
 intro n;induction n with
 |zero=>intro i os h;simp[nj] at h;subst h;simp
 | succ n ih=>
  intro i os h
  simp only[nj] at h
  cases h1:H.get (.arg i)<;>cases h2:nj H (i+1) n<;>simp[h1,h2] at h
  subst h
  obtain⟨e1,e2⟩:=ih h2
  refine⟨by simp[e1],λj o hj=> ?_⟩
  cases j with
  |zero=>simp at hj;subst hj;exact h1
  |succ j=>
   have:=e2 j o (by simpa using hj)
   rw[show i+1+j=i+(j+1) from by omega] at this
   exact this
theorem uf {H:Heap}:∀{n i:Nat} {j:Nat} {o:aO},(pV H i n)[j]?=some (some o)->H.get (.arg (i+j))=some o:=by
 intro n;induction n with
 |zero=>intro i j o h;simp[pV] at h
 | succ n ih=>
   intro i j o h
   simp only[pV] at h
   cases j with
   | zero=>
     simp at h
     split at h
     · rename_i o' ho
       split at h
       · simp at h
       · simp at h;subst h;exact ho
     · simp at h
   | succ j=>
     have:=ih (i:=i+1) (j:=j) (o:=o) (by simpa using h)
     rw[show i+1+j=i+(j+1) from by omega] at this
     exact this
theorem rI {H:Heap}:∀{ks:List Nm} {h:Heap},jY H ks=some h->∀k o,(k,o)∈h->k.dS=true/\H.get k=some o:=by
 intro ks;induction ks with
 |nil=>intro h hh;simp[jY] at hh;subst hh;simp
 | cons x r ih=>
   intro h hh k o hm
   simp only[jY] at hh
   cases h1:jY H r with
   |none=>simp[h1] at hh
   | some h'=>
     simp only[h1] at hh
     split at hh
     · rename_i hl
       cases h2:H.get x with
       |none=>simp[h2] at hh
       | some o'=>
         simp[h2] at hh
         subst hh
         rcases List.mem_cons.1 hm with e|hm
         · simp at e;obtain⟨rfl,rfl⟩:=e;exact⟨hl,h2⟩
         · exact ih h1 k o hm
     · simp at hh;subst hh;exact ih h1 k o hm
theorem sP {fn:Func}{n:Nat}{st:St}{a:Act}{r:bk}{G0:Gh}{w0:World}(h:finish C fn n st=some r)(hs:dz G0 w0 G w)(hst:vG C G w st a):
 ∃v,(results fn a.tmps).run C.P w=.ok v w/\sL G0 w0 n r (.returned v) w:=by
 unfold finish at h
 split at h
 ·simp at h
 rename_i vs hvs
 obtain⟨v,hv,hr⟩:=yH hst hvs
 refine⟨v,hv, ?_⟩
 dsimp only at h
 have main:∀(x:TV) (ks:List Nm),VR (G.frozen w st.H ks) x v->(match nj (st.H.dX (cT st.H ks)) 0 n with
  |none=>none
  | some os=>match reach (st.H.dX (cT st.H ks)) eB [] (x.names++os.flatMap aO.names) with
    |none=>none
    |some R=>(jY (st.H.dX (cT st.H ks)) R).map λh=>bk.ret x os h)=some r->sL G0 w0 n r (.returned v) w:=by
  intro x ks hx h
  have FC:=iu hst.wf hst.heap ks
  have Xj:HR (G.frozen w st.H ks) w (st.H.dX (cT st.H ks)):=HR.dX FC hst.wf hst.heap (λk o hm=>sI hst.wf hst.heap hm) (λk _ hk=>mg hk.1 hk.2)
  split at h
  ·simp at h
  rename_i os hos
  split at h
  ·simp at h
  rename_i R hR
  cases Qx:jY (st.H.dX (cT st.H ks)) R with
  |none=>rw[Qx] at h;simp at h
  | some nw=>
    rw[Qx] at h
    simp only[Option.map_some,Option.some.injEq] at h
    subst h
    obtain⟨e1,e2⟩:=vY hos
    refine⟨v,G.frozen w st.H ks,rfl,hs.comp (FC.mono (λ_ _ _=>trivial) (λ_ hk=>hk.elim)),e1,λi o ho=> ?_,λk o hm=> ?_,hx⟩
    · have:=e2 i o ho
      rw[Nat.zero_add] at this
      exact Xj _ _ this
    · obtain⟨e3,e4⟩:=rI Qx k o hm
      exact⟨e3,Xj _ _ e4⟩
 cases hfz:pQ st.H fL (u7 vs) with
 | none=>
   rw[hfz] at h
   exact main (u7 vs) [] (hr.mono (iu hst.wf hst.heap []).le) h
 | some q=>
   obtain⟨x,ks⟩:=q
   rw[hfz] at h
   exact main (.t x) ks (.t _ _ (AY hst.wf hst.heap ks fL _ _ _ _ hfz (λ_ hk=>hk) hr)) h
theorem S9 (hm:C.P.prog.follows .mixedOrders=true)(aC:aI C ev){fuel:Nat}{args:List TV}{aU:List aO}{r:bk}(h:JP C ev fuel f args aU=some r){vs:List Value}(hw:WF G w)(hg:jO C G)(had:yD G aU.length)
 (hH:HR G w (bX 0 aU))(hv:cB G args vs):nk C.P f vs.toArray w (sL G w aU.length r):=by
 unfold JP at h
 split at h
 ·simp at h
 rename_i fn A8
 have hfn:=C.P.P9 _ _ A8
 split at h
 ·simp at h
 rename_i body hbody
 split at h
 ·simp at h
 rename_i hname
 have hst:vG C G w {slots:=args++List.replicate (fn.ntmps - args.length) bS,H:=bX 0 aU,tick:=0} {tmps:=vs.toArray++Array.replicate (fn.ntmps - vs.toArray.size) undef,defers:=[]}:=by
  refine⟨hw,hg, ?_,hH,λp hp=>absurd hp (had.2 p)⟩;have e:(vs.toArray++Array.replicate (fn.ntmps - vs.toArray.size) undef).toList=vs++List.replicate (fn.ntmps - args.length) undef:=by simp[hv.1]
  unfold SR;rw[e];refine cB.append hv ⟨by simp,λj c u hc hu=> ?_⟩;rw[List.getElem?_replicate] at hc hu;by_cases hl:j<fn.ntmps - args.length
  ·rw[if_pos hl] at hc hu;simp at hc hu;subst hc;subst hu;exact l9 G
  ·rw[if_neg hl] at hc;simp at hc
 refine .inl ⟨?_,calls_of_wp hfn hbody ?_⟩
 ·simp[callFunc,hfn,hname,hbody]
 ·split at h
  ·rename_i st he;refine wp_mono (lB hm aC body _ _ _ he G w _ hst) λex a' w' hgd=> ?_
   obtain⟨G',hs,hd,rfl,jk⟩:=hgd;exact⟨hd,sP h hs jk⟩
  ·rename_i st he;refine wp_mono (lB hm aC body _ _ _ he G w _ hst) λex a' w' hgd=> ?_
   obtain⟨G',hs,hd,rfl,jk⟩:=hgd;exact⟨hd,sP h hs jk⟩
  ·rename_i v st he;split at h
   ·simp at h
   ·simp only[Option.some.injEq] at h;subst h;refine wp_mono (lB hm aC body _ _ _ he G w _ hst) λex a' w' hgd=> ?_
    obtain⟨G',hs,hd,x,rfl,hx,hH',_⟩:=hgd;refine⟨hd,x,G',rfl,hs,λi o ho=> ?_,hx⟩;have:=uf ho;rw[Nat.zero_add] at this;exact hH' _ _ this
  ·simp at h
def BR (C:cE)(X:Ext):Prop:=∀g s,X g=some s->∀ev,aI C ev->∀args aU r,s ev args aU=some r->∀(G:Gh) (w:World) (vs:List Value),WF G w->jO C G->yD G aU.length->
 HR G w (bX 0 aU)->cB G args vs->nk C.P g vs.toArray w (sL G w aU.length r)
theorem vZ (hm:C.P.prog.follows .mixedOrders=true){X:Ext}(hX:BR C X):∀n,aI C (C0 C X n):=by
 intro n;induction n with
 |zero=>intro g args aU r h;simp[C0] at h
 | succ n ih=>
   intro g args aU r h G w vs hw hg had hH hv
   simp only[C0] at h
   split at h
   · rename_i s hs
     exact hX g s hs _ ih args aU r h G w vs hw hg had hH hv
   · exact S9 hm ih h hw hg had hH hv
end
end Go.Abs
