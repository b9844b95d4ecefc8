/- Regions that draw their order are right. -/
import Derived.Test.YtacmmaaabfhhoaaGreatDoorC
import Derived.LoopN
set_option linter.unusedVariables false
set_option linter.unusedSimpArgs false
namespace Go.Abs
open Go
section
variable {C:cE}{ev:aX}{f:FuncId}{ops:Array Oper}{st:St}{recs:List Rec}
abbrev s0 (st:St):sD:={slots:=st.slots,H:=st.H}
def Qm (C:cE)(ev:aX)(f:FuncId)(ops:Array Oper)(st:St)(recs:List Rec)(i:Nat)(x:Oper)(rx ry:Rec):Prop:=
 ∃nm ob v w,rx.fp=[nm]/\rx.res=.val v []/\ry.res=.val w [(nm,ob)]/\aR C ev f [(nm,ob)] (jq (x.looksAt ops) 0 (gR ops.toList recs (s0 st) (λ_=>true) i).slots) (st.tick+i) x=some (.val v [])
structure tM (C:cE)(ev:aX)(f:FuncId)(ops:Array Oper)(st:St)(recs:List Rec):Prop where
 len:recs.length=ops.size
 at':∀(j:Nat) (o:Oper),ops.toList[j]?=some o->∃r,recs[j]?=some r/\PG C ev f ops (kX ops.toList []) st.tick j o (gR ops.toList recs {slots:=st.slots,H:=st.H} (λ_=>true) j) (zD recs j)=some r
 free:∀(i j:Nat) (x y:Oper) (rx ry:Rec),i<j->ops.toList[i]?=some x->ops.toList[j]?=some y->recs[i]?=some rx->recs[j]?=some ry->
  fW (kX ops.toList []) i j=true\/qU ops x y rx ry=true\/(j9 ops x y=true/\Qm C ev f ops st recs i x rx ry)
 back:sF 0 ops.toList=true
theorem Mb {i j:Nat}{x y:Oper}{rx ry:Rec}(h:lT ops ops.toList recs (kX ops.toList []) ops.toList recs 0=true)(hij:i<j)(hx:ops.toList[i]?=some x)(hy:ops.toList[j]?=some y)(yh:recs[i]?=some rx)(Vt:recs[j]?=some ry):
 fW (kX ops.toList []) i j=true\/qU ops x y rx ry=true:=by
 obtain⟨hl,_,_⟩:=Ee ops.toList []
 have hjl:j<(kX ops.toList []).length:=by rw[hl];have:=(List.getElem?_eq_some_iff.1 hy).1;simpa using this
 have h1:=FI h j _ y ry (List.getElem?_eq_getElem hjl) hy Vt
 have h2:=J7 h1 i x rx (by rw[Nat.zero_add,List.getElem?_take,if_pos hij];exact hx) (by rw[Nat.zero_add,List.getElem?_take,if_pos hij];exact yh)
 rw[Nat.zero_add] at h2
 refine h2.imp (λh=> ?_) id
 unfold fW
 rw[List.getD,List.getElem?_eq_getElem hjl]
 exact h
theorem tM.Mc (h:tM C ev f ops st recs){i j:Nat}{x y:Oper}{rx ry:Rec}(hij:i<j)(hx:ops.toList[i]?=some x)(hy:ops.toList[j]?=some y)(yh:recs[i]?=some rx)(Vt:recs[j]?=some ry):
 fW (kX ops.toList []) i j=true\/j9 ops x y=true:=by
 rcases h.free i j x y rx ry hij hx hy yh Vt with h|h|h
 ·exact .inl h
 ·simp only[qU,Bool.and_eq_true] at h;exact .inr h.1.1.1
 ·exact .inr h.1
def J9 (ops:Array Oper)(D:Nat->Bool):Prop:=∀(j:Nat) o,D j=true->ops.toList[j]?=some o->∀e∈o.after.toList,Region.binds .any e=true->D e.on=true
theorem J9.before {D:Nat->Bool}(h:J9 ops D):∀(n i j:Nat) (o:Oper),j<n->ops.toList[j]?=some o->(∀e∈o.after.toList,Region.binds .any e=true->D e.on=true)->fW (kX ops.toList []) i j=true->D i=true:=by
 intro n;induction n with
 |zero=>intro i j o hl;omega
 | succ n ih=>
   intro i j o hl ho he hb
   obtain⟨_,_,h3⟩:=Ee ops.toList []
   obtain⟨e,h4,h5,h6⟩:=h3 j o i ho (by simpa using hb)
   have hd:=he e h4 h5
   rcases h6 with rfl|⟨h6,h7⟩
   · exact hd
   · simp at h6
     cases ho':ops.toList[e.on]? with
     | none=>
       have:=List.getElem?_eq_none_iff.1 ho'
       have:=(List.getElem?_eq_some_iff.1 ho).1
       omega
     |some o'=>exact ih i e.on o' (by omega) ho' (h e.on o' hd ho') h7
theorem sM {a b:List Nm}(h:Fm a b=true){k:Nm}(ha:k∈a):k∉b:=by
 have:=List.all_eq_true.1 h k ha;simpa using this
theorem tN {x y:Oper}(h:j9 ops x y=true):(∀d,x.dst=some d->d∉y.looksAt ops)/\(∀d,x.dst=some d->y.dst≠some d)/\(∀d,y.dst=some d->d∉x.looksAt ops):=
 Oper.apart_spec (by unfold j9 at h;unfold Oper.apart;cases hx:x.dst<;>cases hy:y.dst<;>simp only[hx,hy] at h ⊢<;>exact h)
structure rG (C:cE)(ops:Array Oper)(st:St)(recs:List Rec)(G0:Gh)(w0:World)(a0:Act)(D:Nat->Bool)(G:Gh)(w:World)(a:Act):Prop where
 step:cx G0 w0 G w
 iC:iA C G
 defers:a.defers=a0.defers
 slots:SR G (gR ops.toList recs (s0 st) D ops.size).slots a
 heap:HR G w (gR ops.toList recs (s0 st) D ops.size).H
 fresh:∀p,G.dom (.loc p)->∃n q,p=n::q/\(n<st.tick\/∃j,D j=true/\j<ops.size/\n=st.tick+j)
 closed:J9 ops D
 calm:∀j r v u l,D j=true->recs[j]?=some r->r.res≠ .panic v u l
def kZ (D:Nat->Bool)(i:Nat):Nat->Bool:=λj=>if j=i then true else D j
section step
variable {G0 G:Gh}{w0 w:World}{a0 a:Act}{D:Nat->Bool}{i:Nat}{o:Oper}{r:Rec}
theorem rG.Qn (hd:tM C ev f ops st recs)(hi:rG C ops st recs G0 w0 a0 D G w a)(hni:D i=false)(ho:ops.toList[i]?=some o)(hr:recs[i]?=some r)(he:∀e∈o.after.toList,Region.binds .any e=true->D e.on=true)
 {t:Nat}(ht:t∈o.looksAt ops\/o.dst=some t)(hw:∀j,i<=j->j<ops.size->D j=true->True):
 ∀j x,j<ops.size->ops.toList[j]?=some x->x.dst=some t->(D j=true->j<i)/\(j<i->(t∈o.looksAt ops->D j=true)):=by
 intro j x hj hx H6
 obtain⟨rx,yh⟩:∃rx,recs[j]?=some rx:=⟨_,List.getElem?_eq_getElem (by rw[hd.len];exact hj)⟩
 refine⟨λhD=> ?_,λhlt hlk=> ?_⟩
 ·rcases Nat.lt_trichotomy j i with h|h|h
  ·exact h
  ·subst h;rw[hni] at hD;cases hD
  ·rcases hd.Mc h ho hx hr yh with hb|hb
   ·have:=hi.closed.before (j+1) i j x (by omega) hx (hi.closed j x hD hx) hb;rw[hni] at this;cases this
   ·obtain⟨s1,s2,s3⟩:=tN hb;rcases ht with ht|ht
    ·exact absurd ht (s3 t H6)
    ·exact absurd H6 (s2 t ht)
 ·rcases hd.Mc hlt hx ho yh hr with hb|hb
  ·exact hi.closed.before (i+1) j i o (by omega) ho he hb
  ·obtain⟨s1,s2,s3⟩:=tN hb;exact absurd hlk (s1 t H6)
theorem rG.Ka (hd:tM C ev f ops st recs)(hi:rG C ops st recs G0 w0 a0 D G w a)(hni:D i=false)(ho:ops.toList[i]?=some o)(hr:recs[i]?=some r)(he:∀e∈o.after.toList,Region.binds .any e=true->D e.on=true)
 {k:Nm}(hk:k∈r.fp\/k∈r.res.keys):
 ∀j x rx,j<ops.size->ops.toList[j]?=some x->recs[j]?=some rx->k∈rx.res.keys->(D j=true->j<i\/(i<j/\Qm C ev f ops st recs i o r rx))/\(j<i->D j=true):=by
 intro j x rx hj hx yh NM
 refine⟨λhD=> ?_,λhlt=> ?_⟩
 ·rcases Nat.lt_trichotomy j i with h|h|h
  ·exact .inl h
  ·subst h;rw[hni] at hD;cases hD
  ·rcases hd.free i j o x r rx h ho hx hr yh with hb|hb|hb
   ·have:=hi.closed.before (j+1) i j x (by omega) hx (hi.closed j x hD hx) hb;rw[hni] at this;cases this
   ·simp only[qU,Bool.and_eq_true] at hb;obtain⟨⟨⟨_,h1⟩,h2⟩,h3⟩:=hb;rcases hk with hk|hk
    ·exact absurd hk (sM h3 NM)
    ·exact absurd NM (sM h2 hk)
   ·exact .inr ⟨h,hb.2⟩
 ·rcases hd.free j i x o rx r hlt hx ho yh hr with hb|hb|hb
  ·exact hi.closed.before (i+1) j i o (by omega) ho he hb
  rotate_left
  ·obtain⟨_,nm,ob,v,w,_,e2,_,_⟩:=hb;rw[e2] at NM;cases NM
  ·simp only[qU,Bool.and_eq_true] at hb;obtain⟨⟨⟨_,h1⟩,h2⟩,h3⟩:=hb;rcases hk with hk|hk
   ·exact absurd hk (sM h1 NM)
   ·exact absurd hk (sM h2 NM)
theorem H7 {l:List Oper}{s:sD}{n:Nat}(hin:i<=n):gR l recs s (λ_=>true) i=gR l recs s (λj=>decide (j<i)) n:=by
 rw[qb (D:=λj=>decide (j<i)) hin (λj h1 h2=>by simp;omega)];exact vF λj hj=>by simp[hj]
theorem rG.look (hd:tM C ev f ops st recs)(hi:rG C ops st recs G0 w0 a0 D G w a)(hni:D i=false)(ho:ops.toList[i]?=some o)(hr:recs[i]?=some r)(he:∀e∈o.after.toList,Region.binds .any e=true->D e.on=true):
 jq (o.looksAt ops) 0 (gR ops.toList recs (s0 st) (λ_=>true) i).slots=jq (o.looksAt ops) 0 (gR ops.toList recs (s0 st) D ops.size).slots:=by
 have hin:i<=ops.size:=by have:=(List.getElem?_eq_some_iff.1 ho).1;simp at this;omega
 refine HZ (by rw[B5,B5]) λt ht=> ?_
 rw[H7 hin]
 refine ye λj x hj hx H6=> ?_
 obtain⟨h1,h2⟩:=hi.Qn hd hni ho hr he (.inl ht) (λ_ _ _ _=>trivial) j x hj hx H6
 by_cases hlt:j<i
 ·simp[hlt,h2 hlt ht]
 ·have:D j=false:=by
   cases hD:D j with
   |false=>rfl
   |true=>exact absurd (h1 hD) hlt
  simp[hlt,this]
theorem Qo {P:Nat->Prop}:∀n,(∃j,j<n/\P j)->∃j,j<n/\P j/\∀k,j<k->k<n->¬P k
 |0,⟨_,h,_⟩=>by omega
 | n + 1,⟨j,h1,h2⟩=>by
   by_cases hn:P n
   · exact⟨n,by omega,hn,λk h3 h4=>by omega⟩
   · obtain⟨k,h3,h4,h5⟩:=Qo n ⟨j,by
       rcases Nat.lt_or_ge j n with h|h
       · exact h
       · have:j=n:=by omega
         subst this;exact absurd h2 hn,h2⟩
     exact⟨k,by omega,h4,λl h6 h7=>by
       rcases Nat.lt_or_ge l n with h|h
       · exact h5 l h6 h
       · have:l=n:=by omega
         subst this;exact hn⟩
theorem rG.afs (hd:tM C ev f ops st recs)(hi:rG C ops st recs G0 w0 a0 D G w a)(hni:D i=false)(ho:ops.toList[i]?=some o)(hr:recs[i]?=some r)(he:∀e∈o.after.toList,Region.binds .any e=true->D e.on=true):
 (∀k∈r.fp,(gR ops.toList recs (s0 st) (λ_=>true) i).H.get k=(gR ops.toList recs (s0 st) D ops.size).H.get k)\/
 ∃nm ob v,r.fp=[nm]/\r.res=.val v []/\(gR ops.toList recs (s0 st) D ops.size).H.get nm=some ob/\aR C ev f [(nm,ob)] (jq (o.looksAt ops) 0 (gR ops.toList recs (s0 st) (λ_=>true) i).slots) (st.tick+i) o=some (.val v []):=by
 have hin:i<=ops.size:=by have:=(List.getElem?_eq_some_iff.1 ho).1;simp at this;omega
 by_cases hex:∃j,j<ops.size/\(D j=true/\i<j/\∃rj,recs[j]?=some rj/\∃k∈r.fp,k∈rj.res.keys)
 ·obtain⟨ j,hj,⟨hD,hlt,rj,YU,k,hk,hkj⟩,Fs⟩:=Qo ops.size hex;obtain⟨x,hx⟩:∃x,ops.toList[j]?=some x:=⟨_,List.getElem?_eq_getElem (by simpa using hj)⟩;rcases(hi.Ka hd hni ho hr he (.inl hk) j x rj hj hx YU hkj).1 hD with h|⟨_,nm,ob,v,w,e1,e2,e3,e4⟩
  ·omega
  ·refine .inr ⟨nm,ob,v,e1,e2, ?_,e4⟩;have h1:(gR ops.toList recs (s0 st) D ops.size).H.get nm=(gR ops.toList recs (s0 st) (λt=>decide (t<j+1)&&D t) ops.size).H.get nm:=by
    refine vE λt rt ht hrt hkt=> ?_
    by_cases hlt2:t<j+1
    ·simp[hlt2]
    ·have hDt:D t=false:=by
      cases hDt:D t with
      |false=>rfl
      |true=>exact absurd ⟨hDt,by omega,rt,hrt,nm,by rw[e1];exact List.mem_singleton_self _,hkt⟩ (Fs t (by omega) ht)
     simp[hlt2,hDt]
   have h2:gR ops.toList recs (s0 st) (λt=>decide (t<j+1)&&D t) ops.size=gR ops.toList recs (s0 st) (λt=>decide (t<j+1)&&D t) (j+1):=
    qb (by omega) λt h1 h2=>by
     have:¬t<j+1:=by omega
     simp[this]
   rw[h1,h2];simp only[gR,hx,YU,hD,Nat.lt_succ_self,decide_true,Bool.and_self,if_true];simp only[sD.after,e3,Heap.dH,List.foldl];rw[Heap.xX,if_pos rfl]
 ·refine .inl λk hk=> ?_
  rw[H7 hin];refine vE λj rx hj yh NM=> ?_
  obtain⟨x,hx⟩:∃x,ops.toList[j]?=some x:=⟨_,List.getElem?_eq_getElem (by simpa using hj)⟩;obtain⟨h1,h2⟩:=hi.Ka hd hni ho hr he (.inl hk) j x rx hj hx yh NM;by_cases hlt:j<i
  ·simp[hlt,h2 hlt]
  ·have:D j=false:=by
    cases hD:D j with
    |false=>rfl
    | true=>
      rcases h1 hD with h|⟨h,_⟩
      · exact absurd h hlt
      · exact absurd ⟨j,hj,hD,h,rx,yh,k,hk,NM⟩ hex
   simp[hlt,this]
theorem rG.NN (hd:tM C ev f ops st recs)(hi:rG C ops st recs G0 w0 a0 D G w a)(hni:D i=false)(ho:ops.toList[i]?=some o)(hr:recs[i]?=some r)(he:∀e∈o.after.toList,Region.binds .any e=true->D e.on=true)
 (t:Nat):(gR ops.toList recs (s0 st) (kZ D i) ops.size).slots[t]?=((gR ops.toList recs (s0 st) D ops.size).after o r.res).slots[t]?:=by
 have hin:i<ops.size:=by have:=(List.getElem?_eq_some_iff.1 ho).1;simpa using this
 by_cases YV:o.dst=some t
 ·have key:∀j x,j<ops.size->ops.toList[j]?=some x->x.dst=some t->D j=true->j<i:=λj x hj hx H6=>(hi.Qn hd hni ho hr he (.inr YV) (λ_ _ _ _=>trivial) j x hj hx H6).1
  have e1:(gR ops.toList recs (s0 st) (kZ D i) ops.size).slots[t]?=(gR ops.toList recs (s0 st) (λj=>decide (j<i+1)&&kZ D i j) ops.size).slots[t]?:=by
   refine ye λj x hj hx H6=> ?_
   by_cases hlt:j<i+1
   ·simp[hlt]
   ·have hD:D j=false:=by
     cases hD:D j with
     |false=>rfl
     |true=>exact absurd (key j x hj hx H6 hD) (by omega)
    have:j≠i:=by omega
    simp[hlt,kZ,this,hD]
  have e2:(gR ops.toList recs (s0 st) D ops.size).slots[t]?=(gR ops.toList recs (s0 st) (λj=>decide (j<i)&&D j) ops.size).slots[t]?:=by
   refine ye λj x hj hx H6=> ?_
   by_cases hlt:j<i
   ·simp[hlt]
   ·have hD:D j=false:=by
     cases hD:D j with
     |false=>rfl
     |true=>exact absurd (key j x hj hx H6 hD) (by omega)
    simp[hlt,hD]
  have e3:gR ops.toList recs (s0 st) (λj=>decide (j<i+1)&&kZ D i j) ops.size=gR ops.toList recs (s0 st) (λj=>decide (j<i+1)&&kZ D i j) (i+1):=
   qb (by omega) λj h1 h2=>by
    have:¬j<i+1:=by omega
    simp[this]
  have e4:gR ops.toList recs (s0 st) (λj=>decide (j<i)&&D j) ops.size=gR ops.toList recs (s0 st) (λj=>decide (j<i)&&D j) i:=
   qb (by omega) λj h1 h2=>by
    have:¬j<i:=by omega
    simp[this]
  have e5:gR ops.toList recs (s0 st) (λj=>decide (j<i+1)&&kZ D i j) i=gR ops.toList recs (s0 st) (λj=>decide (j<i)&&D j) i:=
   vF λj hj=>by
    have h1:j<i+1:=by omega
    have h2:j≠i:=by omega
    simp[h1,hj,kZ,h2]
  rw[e1,e3];rw[ni (e2.trans (by rw[e4]))];simp only[gR,ho,hr];rw[e5];simp[kZ]
 ·rw[wZ YV];refine ye λj x hj hx H6=> ?_
  have:j≠i:=λe=>by
   subst e;rw[ho] at hx;simp at hx;subst hx;exact YV H6
  simp[kZ,this]
theorem rG.Qp (hd:tM C ev f ops st recs)(hi:rG C ops st recs G0 w0 a0 D G w a)(hni:D i=false)(ho:ops.toList[i]?=some o)(hr:recs[i]?=some r)(he:∀e∈o.after.toList,Region.binds .any e=true->D e.on=true)
 (k:Nm):(gR ops.toList recs (s0 st) (kZ D i) ops.size).H.get k=((gR ops.toList recs (s0 st) D ops.size).after o r.res).H.get k:=by
 have hin:i<ops.size:=by have:=(List.getElem?_eq_some_iff.1 ho).1;simpa using this
 by_cases hk:k∈r.res.keys
 ·have key:∀j rx,j<ops.size->recs[j]?=some rx->k∈rx.res.keys->D j=true->j<i:=λj rx hj yh NM=>by
   obtain⟨x,hx⟩:∃x,ops.toList[j]?=some x:=⟨_,List.getElem?_eq_getElem (by simpa using hj)⟩;intro hD;rcases(hi.Ka hd hni ho hr he (.inr hk) j x rx hj hx yh NM).1 hD with h|⟨_,nm,ob,v,w,_,e2,_,_⟩
   ·exact h
   ·rw[e2] at hk;cases hk
  have e1:(gR ops.toList recs (s0 st) (kZ D i) ops.size).H.get k=(gR ops.toList recs (s0 st) (λj=>decide (j<i+1)&&kZ D i j) ops.size).H.get k:=by
   refine vE λj x hj hx H6=> ?_
   by_cases hlt:j<i+1
   ·simp[hlt]
   ·have hD:D j=false:=by
     cases hD:D j with
     |false=>rfl
     |true=>exact absurd (key j x hj hx H6 hD) (by omega)
    have:j≠i:=by omega
    simp[hlt,kZ,this,hD]
  have e2:(gR ops.toList recs (s0 st) D ops.size).H.get k=(gR ops.toList recs (s0 st) (λj=>decide (j<i)&&D j) ops.size).H.get k:=by
   refine vE λj x hj hx H6=> ?_
   by_cases hlt:j<i
   ·simp[hlt]
   ·have hD:D j=false:=by
     cases hD:D j with
     |false=>rfl
     |true=>exact absurd (key j x hj hx H6 hD) (by omega)
    simp[hlt,hD]
  have e3:gR ops.toList recs (s0 st) (λj=>decide (j<i+1)&&kZ D i j) ops.size=gR ops.toList recs (s0 st) (λj=>decide (j<i+1)&&kZ D i j) (i+1):=
   qb (by omega) λj h1 h2=>by
    have:¬j<i+1:=by omega
    simp[this]
  have e4:gR ops.toList recs (s0 st) (λj=>decide (j<i)&&D j) ops.size=gR ops.toList recs (s0 st) (λj=>decide (j<i)&&D j) i:=
   qb (by omega) λj h1 h2=>by
    have:¬j<i:=by omega
    simp[this]
  have e5:gR ops.toList recs (s0 st) (λj=>decide (j<i+1)&&kZ D i j) i=gR ops.toList recs (s0 st) (λj=>decide (j<i)&&D j) i:=
   vF λj hj=>by
    have h1:j<i+1:=by omega
    have h2:j≠i:=by omega
    simp[h1,hj,kZ,h2]
  rw[e1,e3];rw[oz (e2.trans (by rw[e4]))];simp only[gR,ho,hr];rw[e5];simp[kZ]
 ·rw[Ef hk];refine vE λj rx hj yh NM=> ?_
  have:j≠i:=λe=>by
   subst e;rw[hr] at yh;simp at yh;subst yh;exact hk NM
  simp[kZ,this]
theorem rG.next (hd:tM C ev f ops st recs)(hi:rG C ops st recs G0 w0 a0 D G w a)(hni:D i=false)(ho:ops.toList[i]?=some o)(hr:recs[i]?=some r)(he:∀e∈o.after.toList,Region.binds .any e=true->D e.on=true)
 (abt:∀v u l,r.res≠ .panic v u l){G':Gh}{w':World}{a':Act}(hs:cx G w G' w')(hde:a'.defers=a.defers)(hg:iA C G')
 (DA:SR G' ((gR ops.toList recs (s0 st) D ops.size).after o r.res).slots a')(hh:HR G' w' ((gR ops.toList recs (s0 st) D ops.size).after o r.res).H)
 (hfr:∀p,G'.dom (.loc p)->G.dom (.loc p)\/∃q,p=(st.tick+i)::q):rG C ops st recs G0 w0 a0 (kZ D i) G' w' a':=by
 have hin:i<ops.size:=by have:=(List.getElem?_eq_some_iff.1 ho).1;simpa using this
 refine⟨hi.step.comp hs,hg,hde.trans hi.defers, ?_,λk ob hk=>hh k ob (by rw[← hi.Qp hd hni ho hr he];exact hk),λp hp=> ?_,λj x hD hx e he' hb=> ?_,λj rx v u l hD yh=> ?_⟩
 ·have:(gR ops.toList recs (s0 st) (kZ D i) ops.size).slots=((gR ops.toList recs (s0 st) D ops.size).after o r.res).slots:=List.ext_getElem? (hi.NN hd hni ho hr he);rw[this];exact DA
 ·rcases hfr p hp with h|⟨q,e⟩
  ·obtain⟨n,q,e,h1⟩:=hi.fresh p h;refine⟨n,q,e,h1.imp id λ⟨j,h2,h3,h4⟩=>⟨j, ?_,h3,h4⟩⟩;simp only[kZ];split<;>simp_all
  ·exact⟨_,q,e,.inr ⟨i,by simp[kZ],hin,rfl⟩⟩
 ·by_cases e1:e.on=i
  ·simp[kZ,e1]
  ·simp only[kZ,if_neg e1];by_cases e2:j=i
   ·subst e2;rw[ho] at hx;simp at hx;subst hx;exact he e he' hb
   ·simp only[kZ,if_neg e2] at hD;exact hi.closed j x hD hx e he' hb
 ·by_cases e2:j=i
  ·subst e2;rw[hr] at yh;simp at yh;subst yh;exact abt v u l
  ·simp only[kZ,if_neg e2] at hD;exact hi.calm j rx v u l hD yh
end step
theorem Qq {bs:List Nat}{t0 i:Nat}{o:Oper}{s:sD}{qt:Option Nat}{r:Rec}(h:PG C ev f ops bs t0 i o s qt=some r):
 (∃j,qt=some j/\fW bs j i=true/\r.res=.vw)\/
 (dL ops (jq (o.looksAt ops) 0 s.slots) o=some false/\r.res=.unwanted)\/
 (dL ops (jq (o.looksAt ops) 0 s.slots) o=some true/\∃v u,aR C ev f (l9 s.H r.fp) (jq (o.looksAt ops) 0 s.slots) (t0+i) o=some (.val v u)/\r.res=.val v u)\/
 (dL ops (jq (o.looksAt ops) 0 s.slots) o=some true/\∃v u l,aR C ev f (l9 s.H r.fp) (jq (o.looksAt ops) 0 s.slots) (t0+i) o=some (.panic v u l)/\r.res=.panic v u l/\qt=none):=by
 unfold PG at h
 split at h
 ·rename_i hp;simp at h;subst h;split at hp
  ·rename_i j;exact .inl ⟨j,rfl,hp,rfl⟩
  ·simp at hp
 ·split at h
  ·simp at h
  ·rename_i hw;simp at h;subst h;exact .inr (.inl ⟨hw,rfl⟩)
  ·rename_i hw;split at h
   ·simp at h
   ·rename_i fp Md;split at h
    ·simp at h
    ·rename_i v u hx;simp at h;subst h;exact .inr (.inr (.inl ⟨hw,v,u,hx,rfl⟩))
    ·rename_i v u l hx;split at h
     ·simp at h
     ·simp at h;subst h;exact .inr (.inr (.inr ⟨hw,v,u,l,hx,rfl,rfl⟩))
theorem wG {H:Heap}{slots:List TV}{t:Nat}{o:Oper}{r:pY}(h:aR C ev f H slots t o=some r):∀cs b,o.op≠ .select cs b:=by
 intro cs b e;unfold aR at h;rw[e] at h;simp[evalOp,e] at h
theorem Eh:∀(l:List Oper) (s:List TV),(Ah l s).length=s.length
 | [],_=>rfl
 |o::r,s=>by
  show(Ah r (cI s o.dst .any)).length=_
  rw[Eh r]
  cases o.dst with
  |none=>rfl
  |some d=>simp[cI,nH]
theorem H8:∀{l:List Oper} {s:List TV} {t:Nat} {c:TV},(Ah l s)[t]?=some c->c=.any\/(s[t]?=some c/\∀o∈l,o.dst≠some t)
 | [],_,_,_,h=>.inr ⟨h,λ_ h=>by cases h⟩
 | o ::r,s,t,c,h=>by
   rcases H8 (l:=r) (s:=cI s o.dst .any) h with e|⟨e,hr⟩
   · exact .inl e
   · by_cases hd:o.dst=some t
     · rw[hd] at e
       simp only[cI,nH,List.getElem?_set] at e
       split at e
       · split at e
         · cases e;exact .inl rfl
         · cases e
       · rename_i hne;exact absurd trivial hne
     · rw[B2 hd] at e
       exact .inr ⟨e,λx hx=>by
         rcases List.mem_cons.1 hx with rfl|hx
         · exact hd
         · exact hr x hx⟩
theorem vG {l:List Oper}{recs:List Rec}{s0:sD}{D:Nat->Bool}{t:Nat}(h:∀o∈l,o.dst≠some t):∀n,(gR l recs s0 D n).slots[t]?=s0.slots[t]?
 |0=>rfl
 | n +1=>by
   simp only[gR]
   split
   · rename_i o r ho hr
     split
     · rw[wZ (h o (List.mem_of_getElem? ho))];exact vG h n
     · exact vG h n
   · exact vG h n
theorem NP (s:sD)(o:Oper)(r:AO):(s.after o r).slots.length=s.slots.length:=by
 cases r with
 |vw=>rfl
 |unwanted=>simp only[sD.after];cases o.dst<;>simp[cI,nH]
 |val v u=>simp only[sD.after];cases o.dst<;>simp[cI,nH]
 |panic v u l=>rfl
theorem Be {l:List Oper}{recs:List Rec}{s0:sD}{D:Nat->Bool}:∀n,(gR l recs s0 D n).slots.length=s0.slots.length
 |0=>rfl
 | n +1=>by
   simp only[gR]
   split
   · split
     · rw[NP];exact Be n
     · exact Be n
   · exact Be n
theorem Qr {G':Gh}{a:Act}{D:Nat->Bool}{n:Nat}(h:SR G' (gR ops.toList recs (s0 st) D n).slots a):SR G' (Ah ops.toList st.slots) a:=by
 have hl:(gR ops.toList recs (s0 st) D n).slots.length=st.slots.length:=Be n;refine⟨by rw[Eh,← hl];exact h.1,λt c v hc hv=> ?_⟩;rcases H8 hc with rfl|⟨e,hn⟩
 ·exact .any _
 ·exact h.2 t c v (by rw[vG hn];exact e) hv
theorem Kb (az:aF C ev)(hd:tM C ev f ops st recs){G0:Gh}{w0:World}{a0:Act}{e:aJ}{st':St}{Q:Exit->Act->World->Prop}
 (hQ:∀ex a' w',Good C G0 w0 a0 e st' ex a' w'->Q ex a' w')
 (YW:∀j v u l,jw 0 recs=some (j,v,u,l)->e=.panic v/\st'={slots:=Ah ops.toList st.slots,H:=((gR ops.toList recs (s0 st) (λ_=>true) ops.size).H.sC (l++wU ((kX ops.toList []).getD j 0) 0 recs)).dH u,tick:=st.tick+ops.size})
 {listed:Array Bool}{G:Gh}{w:World}{a:Act}(hsz:listed.size=ops.size)(hi:rG C ops st recs G0 w0 a0 (λj=>listed.getD j false) G w a){i:Nat}(hmem:i∈Region.ready .any ops listed){K:Act->World->Prop}
 (hnext:∀{G':Gh} {w':World} {a':Act},rG C ops st recs G0 w0 a0 (kZ (λj=>listed.getD j false) i) G' w' a'->K a' w'):wpOp C.P ops Q i K a w:=by
 have hat:∀(i:Nat) (o:Oper),ops[i]?=some o↔ops.toList[i]?=some o:=λi o=>by simp
 rw[mem_ready] at hmem
 obtain⟨Kc,o,ho',YX⟩:=hmem
 have hin:i<ops.size:=(Array.getElem?_eq_some_iff.1 ho').1
 have hni:listed.getD i false=false:=by
  rw[Array.getD_eq_getD_getElem?] at Kc ⊢;rw[Array.getElem?_eq_getElem (by omega)] at Kc ⊢;exact Kc
 have ho:=(hat i o).1 ho'
 have he:∀e∈o.after.toList,Region.binds .any e=true->listed.getD e.on false=true:=λe h1 h2=>YX e (by simpa using h1) h2
 obtain⟨r,hr,hop⟩:=hd.at' i o ho
 have abu:=hi.look hd hni ho hr he
 have Ei:=Vs hi.slots (o.looksAt ops)
 rw[← abu] at Ei
 have abv:=hi.afs hd hni ho hr he
 have Qs:(∀k∈r.fp,(gR ops.toList recs (s0 st) (λ_=>true) i).H.get k=(gR ops.toList recs (s0 st) (λj=>listed.getD j false) ops.size).H.get k)->HR G w (l9 (gR ops.toList recs (s0 st) (λ_=>true) i).H r.fp):=by
  intro hs k ob hk;obtain⟨h1,h2⟩:=NL hk;rw[hs k h1] at h2;exact hi.heap k ob h2
 have hfresh:∀p,¬G.dom (.loc ((st.tick+i)::p)):=by
  intro p qv;obtain⟨n,q,e1,h⟩:=hi.fresh _ qv;simp at e1;rcases h with h|⟨j,h1,h2,h3⟩
  ·omega
  ·have:j=i:=by omega
   subst this;rw[hni] at h1;cases h1
 unfold wpOp
 rw[ho']
 simp only
 rcases Qq hop with ⟨j,hp,hb,hres⟩|⟨hw,hres⟩|⟨hw,v,u,hx,hres⟩|⟨hw,v,u,l,hx,hres,hp⟩
 ·obtain⟨_,rj,vj,uj,lj,h1,h2⟩:=NJ hp;have hD:=hi.closed.before (i+1) j i o (by omega) ho he hb;exact absurd h2 (hi.calm j rj vj uj lj hD h1)
 ·have:=ie hw Ei;rw[uF] at this;rw[this];refine hnext (hi.next hd hni ho hr he (by rw[hres];simp) (Step.refl hi.step.wf _ _) (put_defers _ _ _) hi.iC ?_ ?_ (λp h=>.inl h))
  ·rw[hres];exact hi.slots.put o.dst (mB G)
  ·rw[hres];exact hi.heap
 ·have:=ie hw Ei;rw[uF] at this;rw[this];refine .inl ?_;obtain⟨Hx,hx,hheap⟩:∃Hx,aR C ev f Hx (jq (o.looksAt ops) 0 (gR ops.toList recs (s0 st) (λ_=>true) i).slots) (st.tick+i) o=some (.val v u)/\HR G w Hx:=by
   rcases abv with hs|⟨nm,ob,v2,_,e2,e3,e4⟩
   ·exact⟨_,hx,Qs hs⟩
   ·rw[hres] at e2;cases e2;refine⟨_,e4,λk ob2 hk=> ?_⟩;simp only[Heap.get] at hk;split at hk
    ·rename_i e5;cases hk;subst e5;exact hi.heap _ _ e3
    ·cases hk
  have hex:=qa az hx hi.step.wf hi.iC Ei hheap hfresh;unfold ko at hex;rw[Eg (wG hx)] at hex;refine ko.wp (R:=kY (st.tick+i) G w (.val v u)) hex kY.no (λx w' hR=> ?_) (λch w' hR=> ?_)
  ·obtain⟨x',G',e1,hs,hu,hv⟩:=hR;simp at e1;subst e1;refine hnext (hi.next hd hni ho hr he (by rw[hres];simp) hs.any (put_defers _ _ _) (hi.iC.mono hs.le) ?_ ?_ (λp h=> ?_))
   ·rw[hres];exact(hi.slots.mono hs.le).put o.dst hv
   ·rw[hres];exact HR.dH hs hi.step.wf hi.heap hu (λk _ hk=>hk)
   ·rcases hs.news _ h with h|⟨q,e2⟩
    ·exact .inl h
    ·simp at e2;exact .inr ⟨q,e2⟩
  ·obtain⟨x',G',e1,_⟩:=hR;simp at e1
 ·have:=  ie hw Ei;rw[uF] at this;rw[this];refine .inl ?_;have hheap:HR G w (l9 (gR ops.toList recs (s0 st) (λ_=>true) i).H r.fp):=by
   rcases abv with hs|⟨nm,ob,v2,_,e2,_,_⟩
   ·exact Qs hs
   ·rw[hres] at e2;cases e2
  have hex:=qa az hx hi.step.wf hi.iC Ei hheap hfresh;unfold ko at hex;rw[Eg (wG hx)] at hex;refine ko.wp (R:=kY (st.tick+i) G w (.panic v u l)) hex kY.no (λx w' hR=> ?_) (λch w' hR=> ?_)
  ·obtain⟨x',G',e1,_⟩:=hR;simp at e1
  ·obtain⟨x',G',e1,hs,hu,hv⟩:=hR;simp at e1;subst e1;have hpa:jw 0 recs=some (i,v,u,l):=by
    cases hpa:jw 0 recs with
    |none=>exact absurd hres (FL hpa r (List.mem_of_getElem? hr) v u l)
    | some q=>
      obtain⟨j,v',u',l'⟩:=q
      obtain⟨k,rk,h1,h2,h3⟩:=yf hpa
      rcases Nat.lt_trichotomy k i with h|h|h
      · have:=An h h2 h3
        rw[hp] at this;simp at this
      · subst h
        rw[hr] at h2;simp at h2;subst h2
        rw[hres] at h3
        simp at h3
        obtain⟨rfl,rfl,rfl⟩:=h3
        simp at h1;subst h1;rfl
      · obtain⟨ok,hok⟩:∃ok,ops.toList[k]?=some ok:=⟨_,List.getElem?_eq_getElem (by have:=(List.getElem?_eq_some_iff.1 h2).1;rw[hd.len] at this;simpa using this)⟩
        obtain⟨rk',hrk,aft⟩:=hd.at' k ok hok
        rw[h2] at hrk;simp at hrk;subst hrk
        have hsome:=An h hr hres
        rcases Qq aft with ⟨_,_,_,q⟩|⟨_,q⟩|⟨_,_,_,_,q⟩|⟨_,_,_,_,_,_,q⟩
        · rw[h3] at q;simp at q
        · rw[h3] at q;simp at q
        · rw[h3] at q;simp at q
        · rw[q] at hsome;simp at hsome
   obtain⟨rfl,rfl⟩:=YW i v u l hpa;refine hQ _ _ _ ⟨G',hi.step.comp hs.any,hi.defers,x',rfl,hv, ?_,Qr (hi.slots.mono hs.le),st.tick+ops.size,λp hp=> ?_⟩;rotate_left
   ·have hsz:i<ops.size:=by have:=(List.getElem?_eq_some_iff.1 ho).1;simpa using this
    rcases hs.news _ hp with d|⟨q,e⟩
    ·obtain⟨n,q,e1,h|⟨j,_,hj,h⟩⟩:=hi.fresh p d
     ·exact⟨n,q,e1,by omega⟩
     ·exact⟨n,q,e1,by omega⟩
    ·exact⟨_,q,Nm.loc.inj e,by omega⟩
   intro k ob hk;rcases Heap.rA _ u k ob hk with h1|⟨h1,hn⟩
   ·exact hu k ob h1
   ·rw[ Heap.ur] at h1;split at h1
    ·simp at h1
    rename_i hl;simp only[List.mem_append,not_or] at hl;have hsame:(gR ops.toList recs (s0 st) (λ_=>true) ops.size).H.get k=(gR ops.toList recs (s0 st) (λj=>listed.getD j false) ops.size).H.get k:=by
     refine vE λj rj hj YU hkj=> ?_
     have hji:j≠i:=λe1=>by
      subst e1;rw[hr] at YU;simp at YU;subst YU;rw[hres] at hkj;simp only[AO.keys,List.mem_append] at hkj;exact hkj.elim hn hl.1
     have:=J8 hl.2 j rj YU hkj;rw[Nat.zero_add] at this;exact(hi.closed.before (i+1) j i o (by omega) ho he this).symm
    rw[hsame] at h1;obtain⟨d,Qk⟩:=hi.heap k ob h1;exact⟨hs.le.dom _ d,hs.keeps hi.step.wf d (λhx=>by rcases List.mem_append.1 hx with hx|hx;exact hn hx;exact hl.1 hx) Qk⟩
theorem Qt (az:aF C ev)(hd:tM C ev f ops st recs){G0:Gh}{w0:World}{a0:Act}(hst:tV C G0 w0 st a0){e:aJ}{st':St}{Q:Exit->Act->World->Prop}
 (hQ:∀ex a' w',Good C G0 w0 a0 e st' ex a' w'->Q ex a' w')
 (hend:jw 0 recs=none->e=.normal/\st'={slots:=(gR ops.toList recs (s0 st) (λ_=>true) ops.size).slots,H:=(gR ops.toList recs (s0 st) (λ_=>true) ops.size).H,tick:=st.tick+ops.size})
 (YW:∀j v u l,jw 0 recs=some (j,v,u,l)->e=.panic v/\st'={slots:=Ah ops.toList st.slots,H:=((gR ops.toList recs (s0 st) (λ_=>true) ops.size).H.sC (l++wU ((kX ops.toList []).getD j 0) 0 recs)).dH u,tick:=st.tick+ops.size}):
 ∀(fuel:Nat) (listed:Array Bool) (G:Gh) (w:World) (a:Act),listed.size=ops.size->listed.toList.countP (· ==false)<=fuel->rG C ops st recs G0 w0 a0 (λj=>listed.getD j false) G w a->wpAny C.P .any ops Q fuel listed a w:=by
 have hat:∀(i:Nat) (o:Oper),ops[i]?=some o↔ops.toList[i]?=some o:=λi o=>by simp
 have hall :∀(listed:Array Bool),listed.size=ops.size->Region.ready .any ops listed=[]->∀j,j<ops.size->listed.getD j false=true:=by
  intro listed hsz hr j;induction j using Nat.strongRecOn with
  | _ j ih=>
    intro hj
    cases hD:listed.getD j false with
    |true=>rfl
    | false=>
      have:j∈Region.ready .any ops listed:=by
        rw[mem_ready]
        refine⟨?_,ops[j],Array.getElem?_eq_getElem hj,λe he hb=> ?_⟩
        · rw[Array.getD_eq_getD_getElem?] at hD ⊢
          rw[Array.getElem?_eq_getElem (by omega)] at hD ⊢
          exact hD
        · have:=NH hd.back j ops[j] (by simp[hj]) e (by simpa using he) hb
          exact ih e.on (by omega) (by omega)
      rw[hr] at this
      simp at this
 have hdone:∀(listed:Array Bool) (G:Gh) (w:World) (a:Act),listed.size=ops.size->rG C ops st recs G0 w0 a0 (λj=>listed.getD j false) G w a->Region.ready .any ops listed=[]->Q .normal a w:=by
  intro listed G w a hsz hi hr;have hl:=hall listed hsz hr;cases hp:jw 0 recs with
  | some q=>
    obtain⟨j,v,u,l⟩:=q
    obtain⟨k,r,h1,h2,h3⟩:=yf hp
    have hk:k<ops.size:=by rw[← hd.len];exact(List.getElem?_eq_some_iff.1 h2).1
    exact absurd h3 (hi.calm k r v u l (hl k hk) h2)
  | none=>
    obtain⟨rfl,rfl⟩:=hend hp
    have hsame:gR ops.toList recs (s0 st) (λj=>listed.getD j false) ops.size=gR ops.toList recs (s0 st) (λ_=>true) ops.size:=vF λj hj=>hl j hj
    refine hQ _ _ _ ⟨G,hi.step,hi.defers,rfl,hi.step.wf,hi.iC, ?_, ?_,λp hp=> ?_⟩
    · have:=hi.slots;rw[hsame] at this;exact this
    · have:=hi.heap;rw[hsame] at this;exact this
    · obtain⟨n,q,e,h⟩:=hi.fresh p hp
      refine⟨n,q,e, ?_⟩
      rcases h with h|⟨j,_,h,rfl⟩
      · simp only;omega
      · simp only;omega
 intro fuel
 induction fuel with
 | zero=>
   intro listed G w a hsz hc hi
   have hcz:listed.toList.countP (· ==false)=0:=by omega
   have hl:∀j,j<ops.size->listed.getD j true=true:=by
     intro j hj
     rw[List.countP_eq_zero] at hcz
     have:=hcz listed[j] (by simp)
     rw[Array.getD_eq_getD_getElem?,Array.getElem?_eq_getElem (by omega)]
     simpa using this
   have hr:Region.ready .any ops listed=[]:=by
     refine List.eq_nil_iff_forall_not_mem.2 λj hj=> ?_
     rw[mem_ready] at hj
     obtain⟨h1,o,h2,_⟩:=hj
     have:=hl j (Array.getElem?_eq_some_iff.1 h2).1
     rw[this] at h1;cases h1
   exact⟨hr,hdone listed G w a hsz hi hr⟩
 | succ fuel ih=>
   intro listed G w a hsz hc hi
   refine⟨hdone listed G w a hsz hi,λi hmem=> ?_⟩
   have hin:i<ops.size:=by
     rw[mem_ready] at hmem
     obtain⟨_,o,ho',_⟩:=hmem
     exact(Array.getElem?_eq_some_iff.1 ho').1
   have hni:listed.getD i false=false:=by
     rw[mem_ready] at hmem
     have Kc:=hmem.1
     rw[Array.getD_eq_getD_getElem?] at Kc ⊢
     rw[Array.getElem?_eq_getElem (by omega)] at Kc ⊢
     exact Kc
   have afu:(listed.setIfInBounds i true).toList.countP (· ==false)<=fuel:=by
     rw[Array.toList_setIfInBounds,List.countP_set (by simp;omega)]
     have h1:(listed.toList[i]'(by simp;omega)==false)=true:=by
       rw[Array.getD_eq_getD_getElem?,Array.getElem?_eq_getElem (by omega)] at hni
       simpa using hni
     rw[if_pos h1]
     have h2:(if((true:Bool)==false)=true then 1 else 0)=0:=rfl
     rw[h2]
     omega
   have abw:(λj=>(listed.setIfInBounds i true).getD j false)=kZ (λj=>listed.getD j false) i:=by
     funext j
     simp only[kZ]
     by_cases e1:j=i
     · subst e1
       rw[Array.getD_eq_getD_getElem?,Array.getElem?_setIfInBounds_self_of_lt (by omega)]
       simp
     · rw[if_neg e1,getD_set_ne false (λh=>e1 h.symm)]
   have hnext:∀{G':Gh} {w':World} {a':Act},rG C ops st recs G0 w0 a0 (kZ (λj=>listed.getD j false) i) G' w' a'->wpAny C.P .any ops Q fuel (listed.setIfInBounds i true) a' w':=by
     intro G' w' a' hi'
     rw[← abw] at hi'
     exact ih _ G' w' a' (by simpa using hsz) afu hi'
   exact Kb az hd hQ YW hsz hi hmem hnext
noncomputable def NQ (ops:Array Oper)(st:St)(recs:List Rec):aJ×St:=
 let s:=xV ops.toList recs {slots:=st.slots,H:=st.H}
 match jw 0 recs with
 |none=>(.normal,{slots:=s.slots,H:=s.H,tick:=st.tick+ops.size})
 |some (j,v,u,lost)=>(.panic v,{slots:=Ah ops.toList st.slots,H:=(s.H.sC (lost++wU ((kX ops.toList []).getD j 0) 0 recs)).dH u,tick:=st.tick+ops.size})
theorem w5 (hm:C.P.prog.follows .mixedOrders=true)(az:aF C ev){e:aJ}{st':St}(Ej:AP C ev f ops (kX ops.toList []) st.tick 0 ops.toList {slots:=st.slots,H:=st.H} none=some recs)
 (hfree:∀(i j:Nat) (x y:Oper) (rx ry:Rec),i<j->ops.toList[i]?=some x->ops.toList[j]?=some y->recs[i]?=some rx->recs[j]?=some ry->fW (kX ops.toList []) i j=true\/qU ops x y rx ry=true\/(j9 ops x y=true/\Qm C ev f ops st recs i x rx ry))
 (abx:sF 0 ops.toList=true)(h:NQ ops st recs=(e,st')){G:Gh}{w:World}{a:Act}(hst:tV C G w st a){id:Nat}
 {Q:Exit->Act->World->Prop}(hQ:∀ex a' w',Good C G w a e st' ex a' w'->Q ex a' w'):(Code.region id ops true).wp C.P Q a w:=by
 obtain⟨h1,h2⟩:=Vq (l:=ops.toList) (recs:=recs) (s0:=s0 st) (D:=λ_=>true) (λ_=>rfl) (i:=0) Ej (by simp) (by simp)
 have hd:tM C ev f ops st recs:=⟨by simpa using h1,λj o ho=>by have:=h2 j o ho;simpa using this,hfree,abx⟩
 have XP:xV ops.toList recs {slots:=st.slots,H:=st.H}=gR ops.toList recs (s0 st) (λ_=>true) ops.size:=by
  have:=NI (l:=ops.toList) (recs:=recs) (s0:=s0 st) (D:=λ_=>true) (λ_=>rfl) (os:=ops.toList) (rs:=recs) (i:=0) h1.symm (by simp) (by simp);simpa [gR] using this
 refine wp_region_any hm ?_
 have hw':World:={w with drawn:=w.drawn+1}
 have hstep:cx G w G {w with drawn:=w.drawn+1}:=⟨.refl G,⟨hst.wf.F,hst.wf.inj,hst.wf.lt⟩,λ_ _ _=>⟨rfl,rfl⟩,λ_ _ _=>⟨rfl,λ_=>rfl⟩,λ_ h=>.inl h,λk h=>.inl ⟨k,h,rfl,.inl rfl⟩,Nat.le_refl _,rfl,rfl,rfl⟩
 have lK:tV C G {w with drawn:=w.drawn+1} st a:=⟨hstep.wf,hst.iC,hst.slots,hst.heap,hst.fresh⟩
 refine Qt az hd lK (Q:=Q) (e:=e) (st':=st') (λex a' w' hg=>hQ ex a' w' (Good.comp hstep rfl hg)) (λhp=> ?_) (λj v u l hp=> ?_) ops.size _ G _ a (by simp) ?_ ?_
 ·simp only[NQ,hp,XP,Prod.mk.injEq] at h;exact⟨h.1.symm,h.2.symm⟩
 ·simp only[NQ,hp,XP,Prod.mk.injEq] at h;exact⟨h.1.symm,h.2.symm⟩
 ·simp[List.countP_replicate]
 ·have hnone:gR ops.toList recs (s0 st) (λj=>(Array.replicate ops.size false).getD j false) ops.size=s0 st:=by
   rw[qb (m:=0) (by omega) (λj _ hj=>by simp[Array.getD_eq_getD_getElem?,Array.getElem?_replicate,hj])];rfl
  refine⟨Step.refl lK.wf _ _,lK.iC,rfl,by rw[hnone];exact lK.slots,by rw[hnone];exact lK.heap,λp hp=> ?_,λj x hD=> ?_,λj r v u l hD=> ?_⟩
  ·obtain⟨n,q,e1,h3⟩:=lK.fresh p hp;exact⟨n,q,e1,.inl h3⟩
  ·exfalso;simp only[Array.getD_eq_getD_getElem?,Array.getElem?_replicate] at hD;split at hD<;>simp at hD
  ·exfalso;simp only[Array.getD_eq_getD_getElem?,Array.getElem?_replicate] at hD;split at hD<;>simp at hD
theorem B6 (hm:C.P.prog.follows .mixedOrders=true)(az:aF C ev){e:aJ}{st':St}(h:vz C ev f ops st=some (e,st')){G:Gh}{w:World}{a:Act}(hst:tV C G w st a){id:Nat}
 {Q:Exit->Act->World->Prop}(hQ:∀ex a' w',Good C G w a e st' ex a' w'->Q ex a' w'):(Code.region id ops true).wp C.P Q a w:=by
 unfold vz at h
 simp only at h
 split at h
 ·simp at h
 rename_i recs Ej
 split at h
 case isFalse=>simp at h
 rename_i hfree
 refine w5 hm az Ej (λi j x y rx ry hij hx hy yh Vt=>(Mb hfree.1 hij hx hy yh Vt).imp (λh=>h) .inl) hfree.2 ?_ hst hQ
 unfold NQ
 simp only
 split at h
 ·rename_i hp;cases h;simp only[hp]
 ·rename_i hp;cases h;simp only[hp]
end
end Go.Abs
namespace Go.Abs
open Go
section
variable {C:cE}{ev:aX}{f:FuncId}
theorem Good.nj {G:Gh}{w:World}{a:Act}{st':St}{ex:Exit}{a':Act}{w':World}(h:Good C G w a .normal st' ex a' w'):ex=.normal/\a'.defers=a.defers/\∃G',cx G w G' w'/\tV C G' w' st' a':=by
 obtain⟨G',h1,h2,h3,h4⟩:=h;exact⟨h3,h2,G',h1,h4⟩
theorem Good.fG {G:Gh}{w:World}{a:Act}{e:aJ}{st':St}{ex:Exit}{a':Act}{w':World}(h:Good C G w a e st' ex a' w')(he:e≠ .normal):ex≠ .normal:=by
 obtain⟨G',h1,h2,h3⟩:=h;cases e with
 |normal=>exact absurd rfl he
 |exit id=>intro e;simp only at h3;rw[e] at h3;simp at h3
 |ret=>intro e;simp only at h3;rw[e] at h3;simp at h3
 |panic v=>intro e;obtain⟨x,h4,_⟩:=h3;rw[e] at h4;simp at h4
theorem fH {next:Act->World->Prop}{Q:Exit->Act->World->Prop}{ex:Exit}{a:Act}{w:World}(h:ex≠ .normal)(hq:Q ex a w):Exit.then next Q ex a w:=by
 cases ex<;>first|exact hq|exact absurd rfl h
def Qu (C:cE)(c:Code)(body:St->Option (aJ×St)):Prop:=∀st e st',body st=some (e,st')->∀(G:Gh) (w:World) (a:Act),tV C G w st a->c.wp C.P (Good C G w a e st') a w
theorem Qv {c:Code}{body:St->Option (aJ×St)}(h:Qu C c body):∀(n:Nat) (st:St) (e:aJ) (st':St),BB body n st=some (e,st')->∀(G:Gh) (w:World) (a:Act),tV C G w st a->
 ∀Q:Exit->Act->World->Prop,(∀ex a' w',Good C G w a e st' ex a' w'->Q ex a' w')->Code.rounds C.P c Q n a w:=by
 intro n
 induction n with
 |zero=>intro st e st' hi;simp[BB] at hi
 | succ n ih=>
   intro st e st' hi G w a hst Q hQ
   simp only[BB] at hi
   rw[rounds_succ]
   split at hi
   · rename_i Vu hb
     refine wp_mono (h st _ _ hb G w a hst) λex a1 w1 hg=> ?_
     obtain⟨rfl,hd,G1,hs,iz⟩:=hg.nj
     exact ih Vu e st' hi G1 w1 a1 iz Q λex a' w' hg'=>hQ _ _ _ (Good.comp hs hd hg')
   · rename_i hne
     have he:e≠ .normal:=λe1=>by subst e1;exact hne st' hi
     refine wp_mono (h st _ _ hi G w a hst) λex a1 w1 hg=>fH (hg.fG he) (hQ _ _ _ hg)
theorem lU (hm:C.P.prog.follows .mixedOrders=true)(az:aF C ev){fuel:Nat}:∀(c:Code),Qu C c (evalCode C ev f fuel c):=by
 intro c;induction c with
 | skip=>
   intro st e st' h G w a hst
   simp[evalCode] at h
   obtain⟨rfl,rfl⟩:=h
   exact wp_skip ⟨G,Step.refl hst.wf _ _,rfl,rfl,hst⟩
 | label l=>
   intro st e st' h G w a hst
   simp[evalCode] at h
   obtain⟨rfl,rfl⟩:=h
   exact wp_label ⟨G,Step.refl hst.wf _ _,rfl,rfl,hst⟩
 | region id ops draw=>
   intro st e st' h G w a hst
   simp only[evalCode] at h
   cases draw with
   | true=>
     rw[if_pos rfl] at h
     exact B6 hm az h hst λ_ _ _ hg=>hg
   | false=>
     simp only[Bool.false_eq_true,if_false] at h
     exact wp_region_list (Vo az _ _ _ _ h G w a hst _ λ_ _ _ hg=>hg)
 | seq x y Vv ihy=>
   intro st e st' h G w a hst
   simp only[evalCode] at h
   refine wp_seq ?_
   split at h
   · rename_i Vu hb
     refine wp_mono (Vv st _ _ hb G w a hst) λex a1 w1 hg=> ?_
     obtain⟨rfl,hd,G1,hs,iz⟩:=hg.nj
     exact wp_mono (ihy Vu _ _ h G1 w1 a1 iz) λex a' w' hg'=>Good.comp hs hd hg'
   · rename_i hne
     have he:e≠ .normal:=λe1=>by subst e1;exact hne st' h
     exact wp_mono (Vv st _ _ h G w a hst) λex a1 w1 hg=>fH (hg.fG he) hg
 | cond c x y Vv ihy=>
   intro st e st' h G w a hst
   simp only[evalCode] at h
   split at h
   · rename_i hc
     exact wp_cond_true (bM hst.slots hst.iC hc).bool (Vv st _ _ h G w a hst)
   · rename_i hc
     exact wp_cond_false (bM hst.slots hst.iC hc).bool (ihy st _ _ h G w a hst)
   · simp at h
 | block id x Vv=>
   intro st e st' h G w a hst
   simp only[evalCode] at h
   refine wp_block ?_
   split at h
   · rename_i id' Vu hb
     refine wp_mono (Vv st _ _ hb G w a hst) λex a1 w1 hg=> ?_
     obtain⟨G1,hs,hd,rfl,iz⟩:=hg
     split at h
     · rename_i e1
       simp at h
       obtain⟨rfl,rfl⟩:=h
       simp only[Exit.inBlock,e1,if_true]
       exact⟨G1,hs,hd,rfl,iz⟩
     · rename_i e1
       simp at h
       obtain⟨rfl,rfl⟩:=h
       simp only[Exit.inBlock,e1,if_false]
       exact⟨G1,hs,hd,rfl,iz⟩
   · rename_i hne
     refine wp_mono (Vv st _ _ h G w a hst) λex a1 w1 hg=> ?_
     cases e with
     |normal=>obtain⟨G1,hs,hd,rfl,iz⟩:=hg;exact⟨G1,hs,hd,rfl,iz⟩
     |exit id'=>exact absurd h (hne id' st')
     |ret=>obtain⟨G1,hs,hd,rfl,iz⟩:=hg;exact⟨G1,hs,hd,rfl,iz⟩
     |panic v=>obtain⟨G1,hs,hd,x,rfl,iz⟩:=hg;exact⟨G1,hs,hd,x,rfl,iz⟩
 | loop x Vv=>
   intro st e st' h G w a hst
   simp only[evalCode] at h
   exact wp_loop_rounds fuel (Qv Vv fuel st e st' h G w a hst _ λ_ _ _ hg=>hg)
 | exit id=>
   intro st e st' h G w a hst
   simp[evalCode] at h
   obtain⟨rfl,rfl⟩:=h
   exact wp_exit ⟨G,Step.refl hst.wf _ _,rfl,rfl,hst⟩
 | ret=>
   intro st e st' h G w a hst
   simp[evalCode] at h
   obtain⟨rfl,rfl⟩:=h
   exact wp_ret ⟨G,Step.refl hst.wf _ _,rfl,rfl,hst⟩
 |_=>intro st e st' h;simp[evalCode] at h
end
end Go.Abs
namespace Go.Abs
open Go
section
variable {C:cE}{ev:aX}{f:FuncId}{G:Gh}{w:World}
def FN (tmps:Array Value):ResultVar->Sem Value
 |.tmp t=>pure (tmps.getD t undef)
 |.cell x t=>do loadVar t (← asAddr (tmps.getD x undef))
theorem Ke (fn:Func)(tmps:Array Value):results fn tmps=(do let vs ← fn.results.mapM (FN tmps);pure (if h:vs.size=1 then vs[0] else .tuple vs):Sem Value):=by
 unfold results;exact congrArg (λg:ResultVar->Sem Value=>(do let vs ← fn.results.mapM g;pure (if h:vs.size=1 then vs[0] else .tuple vs):Sem Value)) (funext λx=>by cases x<;>rfl)
theorem Kf {st:St}{a:Act}(hst:tV C G w st a):∀{rs:List ResultVar} {vs:List TV},jb C st rs=some vs->
 ∃us:List Value,(rs.mapM (FN a.tmps):Sem (List Value)).run C.P w=.ok us w/\cr G vs us:=by
 intro rs
 induction rs with
 |nil=>intro vs h;simp[jb] at h;subst h;exact⟨[],by simp,cr.nil G⟩
 | cons r rs ih=>
  intro vs h
  cases r with
  |tmp t=>
   simp only[jb] at h
   cases h1:jb C st rs<;>simp only[h1,reduceCtorEq] at h
   simp only[Option.some.injEq] at h
   subst h
   obtain⟨us,h2,h3⟩:=ih h1
   refine⟨a.tmps.getD t undef::us, ?_,cr.cons (hst.slots.getD t) h3⟩
   rw[List.mapM_cons]
   rw[gA (a:=a.tmps.getD t undef) (w':=w) rfl,gA h2]
   rfl
  |cell x t=>
   simp only[jb] at h
   cases h0:loadT C.P st.H t (st.slots.getD x bR)<;>cases h1:jb C st rs<;>simp only[h0,h1,reduceCtorEq] at h
   simp only[Option.some.injEq] at h
   subst h
   obtain⟨us,h2,h3⟩:=ih h1
   obtain⟨u,h4,h5⟩:=Am hst.heap hst.wf (hst.slots.getD x) h0
   refine⟨u::us, ?_,cr.cons h5 h3⟩
   have h4':(FN a.tmps (.cell x t)).run C.P w=.ok u w:=h4
   rw[List.mapM_cons]
   rw[gA h4',gA h2]
   rfl
theorem w6 {st:St}{a:Act}{fn:Func}{vs:List TV}(hst:tV C G w st a)(h:jb C st fn.results.toList=some vs):∃v,(results fn a.tmps).run C.P w=.ok v w/\VR G (tJ vs) v:=by
 obtain⟨us,h1,h2⟩:=Kf hst h;rw[Ke,Array.mapM_eq_mapM_toList];have h3:(List.toArray<$>(fn.results.toList.mapM (FN a.tmps):Sem (List Value))).run C.P w=.ok us.toArray w:=by
  rw[map_eq_pure_bind];rw[gA h1];rfl
 refine⟨_,gA h3, ?_⟩;cases vs with
 |nil=>
  have:=h2.1;simp at this;subst this
  exact mg h2
 | cons x r=>
  cases r with
  |nil=>
   obtain⟨u,us',rfl,h5,h6⟩:=h2.gQ
   have:=h6.1;simp at this;subst this
   exact h5
  |cons y r=>
   have hl:=h2.1
   simp at hl
   rw[dif_neg (by simp;omega)]
   exact mg h2
theorem uG {H:Heap}:∀{n i:Nat} {os:List aO},nh H i n=some os->os.length=n/\∀j o,os[j]?=some o->H.get (.arg (i+j))=some o:=by
 intro n;induction n with
 |zero=>intro i os h;simp[nh] at h;subst h;simp
 | succ n ih=>
  intro i os h
  simp only[nh] at h
  cases h1:H.get (.arg i)<;>cases h2:nh H (i+1) n<;>simp[h1,h2] at h
  subst h
  obtain⟨e1,e2⟩:=ih h2
  refine⟨by simp[e1],λj o hj=> ?_⟩
  cases j with
  |zero=>simp at hj;subst hj;exact h1
  |succ j=>
   have:=e2 j o (by simpa using hj)
   rw[show i+1+j=i+(j+1) from by omega] at this
   exact this
theorem sN {H:Heap}:∀{n i:Nat} {j:Nat} {o:aO},(qA H i n)[j]?=some (some o)->H.get (.arg (i+j))=some o:=by
 intro n;induction n with
 |zero=>intro i j o h;simp[qA] at h
 | succ n ih=>
   intro i j o h
   simp only[qA] at h
   cases j with
   | zero=>
     simp at h
     split at h
     · rename_i o' ho
       split at h
       · simp at h
       · simp at h;subst h;exact ho
     · simp at h
   | succ j=>
     have:=ih (i:=i+1) (j:=j) (o:=o) (by simpa using h)
     rw[show i+1+j=i+(j+1) from by omega] at this
     exact this
theorem qE {H:Heap}:∀{ks:List Nm} {h:Heap},ke H ks=some h->∀k o,(k,o)∈h->k.eR=true/\H.get k=some o:=by
 intro ks;induction ks with
 |nil=>intro h hh;simp[ke] at hh;subst hh;simp
 | cons x r ih=>
   intro h hh k o hm
   simp only[ke] at hh
   cases h1:ke H r with
   |none=>simp[h1] at hh
   | some h'=>
     simp only[h1] at hh
     split at hh
     · rename_i hl
       cases h2:H.get x with
       |none=>simp[h2] at hh
       | some o'=>
         simp[h2] at hh
         subst hh
         rcases List.mem_cons.1 hm with e|hm
         · simp at e;obtain⟨rfl,rfl⟩:=e;exact⟨hl,h2⟩
         · exact ih h1 k o hm
     · simp at hh;subst hh;exact ih h1 k o hm
theorem pQ {fn:Func}{n:Nat}{st:St}{a:Act}{r:bz}{G0:Gh}{w0:World}(h:finish C fn n st=some r)(hs:cx G0 w0 G w)(hst:tV C G w st a):
 ∃v,(results fn a.tmps).run C.P w=.ok v w/\p9 G0 w0 n r (.returned v) w:=by
 unfold finish at h
 split at h
 ·simp at h
 rename_i vs hvs
 obtain⟨v,hv,hr⟩:=w6 hst hvs
 refine⟨v,hv, ?_⟩
 dsimp only at h
 have main:∀(x:TV) (ks:List Nm),VR (G.frozen w st.H ks) x v->(match nh (st.H.dH (cH st.H ks)) 0 n with
  |none=>none
  | some os=>match reach (st.H.dH (cH st.H ks)) eE [] (x.names++os.flatMap aO.names) with
    |none=>none
    |some R=>(ke (st.H.dH (cH st.H ks)) R).map λh=>bz.ret x os h)=some r->p9 G0 w0 n r (.returned v) w:=by
  intro x ks hx h
  have nr:=iJ hst.wf hst.heap ks
  have U2:HR (G.frozen w st.H ks) w (st.H.dH (cH st.H ks)):=HR.dH nr hst.wf hst.heap (λk o hm=>rB hst.wf hst.heap hm) (λk _ hk=>mC hk.1 hk.2)
  split at h
  ·simp at h
  rename_i os hos
  split at h
  ·simp at h
  rename_i R hR
  cases J3:ke (st.H.dH (cH st.H ks)) R with
  |none=>rw[J3] at h;simp at h
  | some nw=>
    rw[J3] at h
    simp only[Option.map_some,Option.some.injEq] at h
    subst h
    obtain⟨e1,e2⟩:=uG hos
    refine⟨v,G.frozen w st.H ks,rfl,hs.comp (nr.mono (λ_ _ _=>trivial) (λ_ hk=>hk.elim)),e1,λi o ho=> ?_,λk o hm=> ?_,hx⟩
    · have:=e2 i o ho
      rw[Nat.zero_add] at this
      exact U2 _ _ this
    · obtain⟨e3,e4⟩:=qE J3 k o hm
      exact⟨e3,U2 _ _ e4⟩
 cases hfz:pq st.H gl (tJ vs) with
 | none=>
   rw[hfz] at h
   exact main (tJ vs) [] (hr.mono (iJ hst.wf hst.heap []).le) h
 | some q=>
   obtain⟨x,ks⟩:=q
   rw[hfz] at h
   exact main (.t x) ks (.t _ _ (zx hst.wf hst.heap ks gl _ _ _ _ hfz (λ_ hk=>hk) hr)) h
theorem Qw (hm:C.P.prog.follows .mixedOrders=true)(az:aF C ev){fuel:Nat}{args:List TV}{aP:List aO}{r:bz}(h:Hz C ev fuel f args aP=some r){vs:List Value}(hw:WF G w)(hg:iA C G)(had:uD G aP.length)
 (hH:HR G w (bK 0 aP))(hv:cr G args vs):mG C.P f vs.toArray w (p9 G w aP.length r):=by
 unfold Hz at h
 split at h
 ·simp at h
 rename_i fn zF
 have hfn:=C.P.Nh _ _ zF
 split at h
 ·simp at h
 rename_i body hbody
 split at h
 ·simp at h
 rename_i hname
 have hst:tV C G w {slots:=args++List.replicate (fn.ntmps - args.length) bR,H:=bK 0 aP,tick:=0} {tmps:=vs.toArray++Array.replicate (fn.ntmps - vs.toArray.size) undef,defers:=[]}:=by
  refine⟨hw,hg, ?_,hH,λp hp=>absurd hp (had.2 p)⟩;have e:(vs.toArray++Array.replicate (fn.ntmps - vs.toArray.size) undef).toList=vs++List.replicate (fn.ntmps - args.length) undef:=by simp[hv.1]
  unfold SR;rw[e];refine cr.append hv ⟨by simp,λj c u hc hu=> ?_⟩;rw[List.getElem?_replicate] at hc hu;by_cases hl:j<fn.ntmps - args.length
  ·rw[if_pos hl] at hc hu;simp at hc hu;subst hc;subst hu;exact mB G
  ·rw[if_neg hl] at hc;simp at hc
 refine .inl ⟨?_,calls_of_wp hfn hbody ?_⟩
 ·simp[callFunc,hfn,hname,hbody]
 ·split at h
  ·rename_i st he;refine wp_mono (lU hm az body _ _ _ he G w _ hst) λex a' w' hgd=> ?_
   obtain⟨G',hs,hd,rfl,lK⟩:=hgd;exact⟨hd,pQ h hs lK⟩
  ·rename_i st he;refine wp_mono (lU hm az body _ _ _ he G w _ hst) λex a' w' hgd=> ?_
   obtain⟨G',hs,hd,rfl,lK⟩:=hgd;exact⟨hd,pQ h hs lK⟩
  ·rename_i v st he;split at h
   ·simp at h
   ·simp only[Option.some.injEq] at h;subst h;refine wp_mono (lU hm az body _ _ _ he G w _ hst) λex a' w' hgd=> ?_
    obtain⟨G',hs,hd,x,rfl,hx,Vw,_⟩:=hgd;refine⟨hd,x,G',rfl,hs,λi o ho=> ?_,hx⟩;have:=sN ho;rw[Nat.zero_add] at this;exact Vw _ _ this
  ·simp at h
def Ao (C:cE)(X:Ext):Prop:=∀g s,X g=some s->∀ev,aF C ev->∀args aP r,s ev args aP=some r->∀(G:Gh) (w:World) (vs:List Value),WF G w->iA C G->uD G aP.length->
 HR G w (bK 0 aP)->cr G args vs->mG C.P g vs.toArray w (p9 G w aP.length r)
theorem rH (hm:C.P.prog.follows .mixedOrders=true){X:Ext}(hX:Ao C X):∀n,aF C (BD C X n):=by
 intro n;induction n with
 |zero=>intro g args aP r h;simp[BD] at h
 | succ n ih=>
   intro g args aP r h G w vs hw hg had hH hv
   simp only[BD] at h
   split at h
   · rename_i s hs
     exact hX g s hs _ ih args aP r h G w vs hw hg had hH hv
   · exact Qw hm ih h hw hg had hH hv
end
end Go.Abs
