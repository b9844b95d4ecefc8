/- Regions that draw their order are right. -/
import Derived.Test.YtfdnciimclnncaaGreatDoorC
import Derived.LoopN
set_option linter.unusedVariables false
set_option linter.unusedSimpArgs false
namespace Go.Abs
open Go
section
variable {C:ew}{ev:bp}{f:FuncId}{ops:Array Oper}{st:St}{recs:List Rec}
abbrev s0 (st:St):xE:={slots:=st.slots,H:=st.H}
def Y8 (C:ew)(ev:bp)(f:FuncId)(ops:Array Oper)(st:St)(recs:List Rec)(i:Nat)(x:Oper)(rx ry:Rec):Prop:=
 ∃nm ob v w,rx.fp=[nm]/\rx.res=.val v []/\ry.res=.val w [(nm,ob)]/\bk C ev f [(nm,ob)] (kU (x.looksAt ops) 0 (jr ops.toList recs (s0 st) (λ_=>true) i).slots) (st.tick+i) x=some (.val v [])
structure zu (C:ew)(ev:bp)(f:FuncId)(ops:Array Oper)(st:St)(recs:List Rec):Prop where
 len:recs.length=ops.size
 at':∀(j:Nat) (o:Oper),ops.toList[j]?=some o->∃r,recs[j]?=some r/\YA C ev f ops (nO ops.toList []) st.tick j o (jr ops.toList recs {slots:=st.slots,H:=st.H} (λ_=>true) j) (Fu recs j)=some r
 free:∀(i j:Nat) (x y:Oper) (rx ry:Rec),i<j->ops.toList[i]?=some x->ops.toList[j]?=some y->recs[i]?=some rx->recs[j]?=some ry->
  iD (nO ops.toList []) i j=true\/vE ops x y rx ry=true\/(mh ops x y=true/\Y8 C ev f ops st recs i x rx ry)
 back:xF 0 ops.toList=true
theorem U8 {i j:Nat}{x y:Oper}{rx ry:Rec}(h:oh ops ops.toList recs (nO ops.toList []) ops.toList recs 0=true)(hij:i<j)(hx:ops.toList[i]?=some x)(hy:ops.toList[j]?=some y)(C6:recs[i]?=some rx)(hry:recs[j]?=some ry):
 iD (nO ops.toList []) i j=true\/vE ops x y rx ry=true:=by
 obtain⟨hl,_,_⟩:=LZ ops.toList []
 have hjl:j<(nO ops.toList []).length:=by rw[hl];have:=(List.getElem?_eq_some_iff.1 hy).1;simpa using this
 have h1:=Nn h j _ y ry (List.getElem?_eq_getElem hjl) hy hry
 have h2:=S4 h1 i x rx (by rw[Nat.zero_add,List.getElem?_take,if_pos hij];exact hx) (by rw[Nat.zero_add,List.getElem?_take,if_pos hij];exact C6)
 rw[Nat.zero_add] at h2
 refine h2.imp (λh=> ?_) id
 unfold iD
 rw[List.getD,List.getElem?_eq_getElem hjl]
 exact h
theorem zu.U9 (h:zu C ev f ops st recs){i j:Nat}{x y:Oper}{rx ry:Rec}(hij:i<j)(hx:ops.toList[i]?=some x)(hy:ops.toList[j]?=some y)(C6:recs[i]?=some rx)(hry:recs[j]?=some ry):
 iD (nO ops.toList []) i j=true\/mh ops x y=true:=by
 rcases h.free i j x y rx ry hij hx hy C6 hry with h|h|h
 ·exact .inl h
 ·simp only[vE,Bool.and_eq_true] at h;exact .inr h.1.1.1
 ·exact .inr h.1
def S6 (ops:Array Oper)(D:Nat->Bool):Prop:=∀(j:Nat) o,D j=true->ops.toList[j]?=some o->∀e∈o.after.toList,Region.binds .any e=true->D e.on=true
theorem S6.before {D:Nat->Bool}(h:S6 ops D):∀(n i j:Nat) (o:Oper),j<n->ops.toList[j]?=some o->(∀e∈o.after.toList,Region.binds .any e=true->D e.on=true)->iD (nO ops.toList []) i j=true->D i=true:=by
 intro n;induction n with
 |zero=>intro i j o hl;omega
 | succ n ih=>
   intro i j o hl ho he hb
   obtain⟨_,_,h3⟩:=LZ ops.toList []
   obtain⟨e,h4,h5,h6⟩:=h3 j o i ho (by simpa using hb)
   have hd:=he e h4 h5
   rcases h6 with rfl|⟨h6,h7⟩
   · exact hd
   · simp at h6
     cases ho':ops.toList[e.on]? with
     | none=>
       have:=List.getElem?_eq_none_iff.1 ho'
       have:=(List.getElem?_eq_some_iff.1 ho).1
       omega
     |some o'=>exact ih i e.on o' (by omega) ho' (h e.on o' hd ho') h7
theorem xM {a b:List Nm}(h:M7 a b=true){k:Nm}(ha:k∈a):k∉b:=by
 have:=List.all_eq_true.1 h k ha;simpa using this
theorem yJ {x y:Oper}(h:mh ops x y=true):(∀d,x.dst=some d->d∉y.looksAt ops)/\(∀d,x.dst=some d->y.dst≠some d)/\(∀d,y.dst=some d->d∉x.looksAt ops):=
 Oper.apart_spec (by unfold mh at h;unfold Oper.apart;cases hx:x.dst<;>cases hy:y.dst<;>simp only[hx,hy] at h ⊢<;>exact h)
structure yW (C:ew)(ops:Array Oper)(st:St)(recs:List Rec)(G0:Gh)(w0:World)(a0:Act)(D:Nat->Bool)(G:Gh)(w:World)(a:Act):Prop where
 step:dW G0 w0 G w
 ku:jK C G
 defers:a.defers=a0.defers
 slots:SR G (jr ops.toList recs (s0 st) D ops.size).slots a
 heap:HR G w (jr ops.toList recs (s0 st) D ops.size).H
 fresh:∀p,G.dom (.loc p)->∃n q,p=n::q/\(n<st.tick\/∃j,D j=true/\j<ops.size/\n=st.tick+j)
 closed:S6 ops D
 calm:∀j r v u l,D j=true->recs[j]?=some r->r.res≠ .panic v u l
def nR (D:Nat->Bool)(i:Nat):Nat->Bool:=λj=>if j=i then true else D j
section step
variable {G0 G:Gh}{w0 w:World}{a0 a:Act}{D:Nat->Bool}{i:Nat}{o:Oper}{r:Rec}
theorem yW.Y9 (hd:zu C ev f ops st recs)(hi:yW C ops st recs G0 w0 a0 D G w a)(hni:D i=false)(ho:ops.toList[i]?=some o)(hr:recs[i]?=some r)(he:∀e∈o.after.toList,Region.binds .any e=true->D e.on=true)
 {t:Nat}(ht:t∈o.looksAt ops\/o.dst=some t)(hw:∀j,i<=j->j<ops.size->D j=true->True):
 ∀j x,j<ops.size->ops.toList[j]?=some x->x.dst=some t->(D j=true->j<i)/\(j<i->(t∈o.looksAt ops->D j=true)):=by
 intro j x hj hx PY
 obtain⟨rx,C6⟩:∃rx,recs[j]?=some rx:=⟨_,List.getElem?_eq_getElem (by rw[hd.len];exact hj)⟩
 refine⟨λhD=> ?_,λhlt hlk=> ?_⟩
 ·rcases Nat.lt_trichotomy j i with h|h|h
  ·exact h
  ·subst h;rw[hni] at hD;cases hD
  ·rcases hd.U9 h ho hx hr C6 with hb|hb
   ·have:=hi.closed.before (j+1) i j x (by omega) hx (hi.closed j x hD hx) hb;rw[hni] at this;cases this
   ·obtain⟨s1,s2,s3⟩:=yJ hb;rcases ht with ht|ht
    ·exact absurd ht (s3 t PY)
    ·exact absurd PY (s2 t ht)
 ·rcases hd.U9 hlt hx ho C6 hr with hb|hb
  ·exact hi.closed.before (i+1) j i o (by omega) ho he hb
  ·obtain⟨s1,s2,s3⟩:=yJ hb;exact absurd hlk (s1 t PY)
theorem yW.S7 (hd:zu C ev f ops st recs)(hi:yW C ops st recs G0 w0 a0 D G w a)(hni:D i=false)(ho:ops.toList[i]?=some o)(hr:recs[i]?=some r)(he:∀e∈o.after.toList,Region.binds .any e=true->D e.on=true)
 {k:Nm}(hk:k∈r.fp\/k∈r.res.keys):
 ∀j x rx,j<ops.size->ops.toList[j]?=some x->recs[j]?=some rx->k∈rx.res.keys->(D j=true->j<i\/(i<j/\Y8 C ev f ops st recs i o r rx))/\(j<i->D j=true):=by
 intro j x rx hj hx C6 hkx
 refine⟨λhD=> ?_,λhlt=> ?_⟩
 ·rcases Nat.lt_trichotomy j i with h|h|h
  ·exact .inl h
  ·subst h;rw[hni] at hD;cases hD
  ·rcases hd.free i j o x r rx h ho hx hr C6 with hb|hb|hb
   ·have:=hi.closed.before (j+1) i j x (by omega) hx (hi.closed j x hD hx) hb;rw[hni] at this;cases this
   ·simp only[vE,Bool.and_eq_true] at hb;obtain⟨⟨⟨_,h1⟩,h2⟩,h3⟩:=hb;rcases hk with hk|hk
    ·exact absurd hk (xM h3 hkx)
    ·exact absurd hkx (xM h2 hk)
   ·exact .inr ⟨h,hb.2⟩
 ·rcases hd.free j i x o rx r hlt hx ho C6 hr with hb|hb|hb
  ·exact hi.closed.before (i+1) j i o (by omega) ho he hb
  rotate_left
  ·obtain⟨_,nm,ob,v,w,_,e2,_,_⟩:=hb;rw[e2] at hkx;cases hkx
  ·simp only[vE,Bool.and_eq_true] at hb;obtain⟨⟨⟨_,h1⟩,h2⟩,h3⟩:=hb;rcases hk with hk|hk
   ·exact absurd hk (xM h1 hkx)
   ·exact absurd hk (xM h2 hkx)
theorem PZ {l:List Oper}{s:xE}{n:Nat}(hin:i<=n):jr l recs s (λ_=>true) i=jr l recs s (λj=>decide (j<i)) n:=by
 rw[tH (D:=λj=>decide (j<i)) hin (λj h1 h2=>by simp;omega)];exact AG λj hj=>by simp[hj]
theorem yW.look (hd:zu C ev f ops st recs)(hi:yW C ops st recs G0 w0 a0 D G w a)(hni:D i=false)(ho:ops.toList[i]?=some o)(hr:recs[i]?=some r)(he:∀e∈o.after.toList,Region.binds .any e=true->D e.on=true):
 kU (o.looksAt ops) 0 (jr ops.toList recs (s0 st) (λ_=>true) i).slots=kU (o.looksAt ops) 0 (jr ops.toList recs (s0 st) D ops.size).slots:=by
 have hin:i<=ops.size:=by have:=(List.getElem?_eq_some_iff.1 ho).1;simp at this;omega
 refine PX (by rw[Jl,Jl]) λt ht=> ?_
 rw[PZ hin]
 refine C3 λj x hj hx PY=> ?_
 obtain⟨h1,h2⟩:=hi.Y9 hd hni ho hr he (.inl ht) (λ_ _ _ _=>trivial) j x hj hx PY
 by_cases hlt:j<i
 ·simp[hlt,h2 hlt ht]
 ·have:D j=false:=by
   cases hD:D j with
   |false=>rfl
   |true=>exact absurd (h1 hD) hlt
  simp[hlt,this]
theorem Za {P:Nat->Prop}:∀n,(∃j,j<n/\P j)->∃j,j<n/\P j/\∀k,j<k->k<n->¬P k
 |0,⟨_,h,_⟩=>by omega
 | n + 1,⟨j,h1,h2⟩=>by
   by_cases hn:P n
   · exact⟨n,by omega,hn,λk h3 h4=>by omega⟩
   · obtain⟨k,h3,h4,h5⟩:=Za n ⟨j,by
       rcases Nat.lt_or_ge j n with h|h
       · exact h
       · have:j=n:=by omega
         subst this;exact absurd h2 hn,h2⟩
     exact⟨k,by omega,h4,λl h6 h7=>by
       rcases Nat.lt_or_ge l n with h|h
       · exact h5 l h6 h
       · have:l=n:=by omega
         subst this;exact hn⟩
theorem yW.aqG (hd:zu C ev f ops st recs)(hi:yW C ops st recs G0 w0 a0 D G w a)(hni:D i=false)(ho:ops.toList[i]?=some o)(hr:recs[i]?=some r)(he:∀e∈o.after.toList,Region.binds .any e=true->D e.on=true):
 (∀k∈r.fp,(jr ops.toList recs (s0 st) (λ_=>true) i).H.get k=(jr ops.toList recs (s0 st) D ops.size).H.get k)\/
 ∃nm ob v,r.fp=[nm]/\r.res=.val v []/\(jr ops.toList recs (s0 st) D ops.size).H.get nm=some ob/\bk C ev f [(nm,ob)] (kU (o.looksAt ops) 0 (jr ops.toList recs (s0 st) (λ_=>true) i).slots) (st.tick+i) o=some (.val v []):=by
 have hin:i<=ops.size:=by have:=(List.getElem?_eq_some_iff.1 ho).1;simp at this;omega
 by_cases hex:∃j,j<ops.size/\(D j=true/\i<j/\∃rj,recs[j]?=some rj/\∃k∈r.fp,k∈rj.res.keys)
 ·obtain⟨ j,hj,⟨hD,hlt,rj,hrj,k,hk,hkj⟩,Na⟩:=Za ops.size hex;obtain⟨x,hx⟩:∃x,ops.toList[j]?=some x:=⟨_,List.getElem?_eq_getElem (by simpa using hj)⟩;rcases(hi.S7 hd hni ho hr he (.inl hk) j x rj hj hx hrj hkj).1 hD with h|⟨_,nm,ob,v,w,e1,e2,e3,e4⟩
  ·omega
  ·refine .inr ⟨nm,ob,v,e1,e2, ?_,e4⟩;have h1:(jr ops.toList recs (s0 st) D ops.size).H.get nm=(jr ops.toList recs (s0 st) (λt=>decide (t<j+1)&&D t) ops.size).H.get nm:=by
    refine AF λt rt ht hrt hkt=> ?_
    by_cases hlt2:t<j+1
    ·simp[hlt2]
    ·have hDt:D t=false:=by
      cases hDt:D t with
      |false=>rfl
      |true=>exact absurd ⟨hDt,by omega,rt,hrt,nm,by rw[e1];exact List.mem_singleton_self _,hkt⟩ (Na t (by omega) ht)
     simp[hlt2,hDt]
   have h2:jr ops.toList recs (s0 st) (λt=>decide (t<j+1)&&D t) ops.size=jr ops.toList recs (s0 st) (λt=>decide (t<j+1)&&D t) (j+1):=
    tH (by omega) λt h1 h2=>by
     have:¬t<j+1:=by omega
     simp[this]
   rw[h1,h2];simp only[jr,hx,hrj,hD,Nat.lt_succ_self,decide_true,Bool.and_self,if_true];simp only[xE.after,e3,Heap.fk,List.foldl];rw[Heap.CP,if_pos rfl]
 ·refine .inl λk hk=> ?_
  rw[PZ hin];refine AF λj rx hj C6 hkx=> ?_
  obtain⟨x,hx⟩:∃x,ops.toList[j]?=some x:=⟨_,List.getElem?_eq_getElem (by simpa using hj)⟩;obtain⟨h1,h2⟩:=hi.S7 hd hni ho hr he (.inl hk) j x rx hj hx C6 hkx;by_cases hlt:j<i
  ·simp[hlt,h2 hlt]
  ·have:D j=false:=by
    cases hD:D j with
    |false=>rfl
    | true=>
      rcases h1 hD with h|⟨h,_⟩
      · exact absurd h hlt
      · exact absurd ⟨j,hj,hD,h,rx,C6,k,hk,hkx⟩ hex
   simp[hlt,this]
theorem yW.W7 (hd:zu C ev f ops st recs)(hi:yW C ops st recs G0 w0 a0 D G w a)(hni:D i=false)(ho:ops.toList[i]?=some o)(hr:recs[i]?=some r)(he:∀e∈o.after.toList,Region.binds .any e=true->D e.on=true)
 (t:Nat):(jr ops.toList recs (s0 st) (nR D i) ops.size).slots[t]?=((jr ops.toList recs (s0 st) D ops.size).after o r.res).slots[t]?:=by
 have hin:i<ops.size:=by have:=(List.getElem?_eq_some_iff.1 ho).1;simpa using this
 by_cases aik:o.dst=some t
 ·have key:∀j x,j<ops.size->ops.toList[j]?=some x->x.dst=some t->D j=true->j<i:=λj x hj hx PY=>(hi.Y9 hd hni ho hr he (.inr aik) (λ_ _ _ _=>trivial) j x hj hx PY).1
  have e1:(jr ops.toList recs (s0 st) (nR D i) ops.size).slots[t]?=(jr ops.toList recs (s0 st) (λj=>decide (j<i+1)&&nR D i j) ops.size).slots[t]?:=by
   refine C3 λj x hj hx PY=> ?_
   by_cases hlt:j<i+1
   ·simp[hlt]
   ·have hD:D j=false:=by
     cases hD:D j with
     |false=>rfl
     |true=>exact absurd (key j x hj hx PY hD) (by omega)
    have:j≠i:=by omega
    simp[hlt,nR,this,hD]
  have e2:(jr ops.toList recs (s0 st) D ops.size).slots[t]?=(jr ops.toList recs (s0 st) (λj=>decide (j<i)&&D j) ops.size).slots[t]?:=by
   refine C3 λj x hj hx PY=> ?_
   by_cases hlt:j<i
   ·simp[hlt]
   ·have hD:D j=false:=by
     cases hD:D j with
     |false=>rfl
     |true=>exact absurd (key j x hj hx PY hD) (by omega)
    simp[hlt,hD]
  have e3:jr ops.toList recs (s0 st) (λj=>decide (j<i+1)&&nR D i j) ops.size=jr ops.toList recs (s0 st) (λj=>decide (j<i+1)&&nR D i j) (i+1):=
   tH (by omega) λj h1 h2=>by
    have:¬j<i+1:=by omega
    simp[this]
  have e4:jr ops.toList recs (s0 st) (λj=>decide (j<i)&&D j) ops.size=jr ops.toList recs (s0 st) (λj=>decide (j<i)&&D j) i:=
   tH (by omega) λj h1 h2=>by
    have:¬j<i:=by omega
    simp[this]
  have e5:jr ops.toList recs (s0 st) (λj=>decide (j<i+1)&&nR D i j) i=jr ops.toList recs (s0 st) (λj=>decide (j<i)&&D j) i:=
   AG λj hj=>by
    have h1:j<i+1:=by omega
    have h2:j≠i:=by omega
    simp[h1,hj,nR,h2]
  rw[e1,e3];rw[qE (e2.trans (by rw[e4]))];simp only[jr,ho,hr];rw[e5];simp[nR]
 ·rw[BO aik];refine C3 λj x hj hx PY=> ?_
  have:j≠i:=λe=>by
   subst e;rw[ho] at hx;simp at hx;subst hx;exact aik PY
  simp[nR,this]
theorem yW.Zb (hd:zu C ev f ops st recs)(hi:yW C ops st recs G0 w0 a0 D G w a)(hni:D i=false)(ho:ops.toList[i]?=some o)(hr:recs[i]?=some r)(he:∀e∈o.after.toList,Region.binds .any e=true->D e.on=true)
 (k:Nm):(jr ops.toList recs (s0 st) (nR D i) ops.size).H.get k=((jr ops.toList recs (s0 st) D ops.size).after o r.res).H.get k:=by
 have hin:i<ops.size:=by have:=(List.getElem?_eq_some_iff.1 ho).1;simpa using this
 by_cases hk:k∈r.res.keys
 ·have key:∀j rx,j<ops.size->recs[j]?=some rx->k∈rx.res.keys->D j=true->j<i:=λj rx hj C6 hkx=>by
   obtain⟨x,hx⟩:∃x,ops.toList[j]?=some x:=⟨_,List.getElem?_eq_getElem (by simpa using hj)⟩;intro hD;rcases(hi.S7 hd hni ho hr he (.inr hk) j x rx hj hx C6 hkx).1 hD with h|⟨_,nm,ob,v,w,_,e2,_,_⟩
   ·exact h
   ·rw[e2] at hk;cases hk
  have e1:(jr ops.toList recs (s0 st) (nR D i) ops.size).H.get k=(jr ops.toList recs (s0 st) (λj=>decide (j<i+1)&&nR D i j) ops.size).H.get k:=by
   refine AF λj x hj hx PY=> ?_
   by_cases hlt:j<i+1
   ·simp[hlt]
   ·have hD:D j=false:=by
     cases hD:D j with
     |false=>rfl
     |true=>exact absurd (key j x hj hx PY hD) (by omega)
    have:j≠i:=by omega
    simp[hlt,nR,this,hD]
  have e2:(jr ops.toList recs (s0 st) D ops.size).H.get k=(jr ops.toList recs (s0 st) (λj=>decide (j<i)&&D j) ops.size).H.get k:=by
   refine AF λj x hj hx PY=> ?_
   by_cases hlt:j<i
   ·simp[hlt]
   ·have hD:D j=false:=by
     cases hD:D j with
     |false=>rfl
     |true=>exact absurd (key j x hj hx PY hD) (by omega)
    simp[hlt,hD]
  have e3:jr ops.toList recs (s0 st) (λj=>decide (j<i+1)&&nR D i j) ops.size=jr ops.toList recs (s0 st) (λj=>decide (j<i+1)&&nR D i j) (i+1):=
   tH (by omega) λj h1 h2=>by
    have:¬j<i+1:=by omega
    simp[this]
  have e4:jr ops.toList recs (s0 st) (λj=>decide (j<i)&&D j) ops.size=jr ops.toList recs (s0 st) (λj=>decide (j<i)&&D j) i:=
   tH (by omega) λj h1 h2=>by
    have:¬j<i:=by omega
    simp[this]
  have e5:jr ops.toList recs (s0 st) (λj=>decide (j<i+1)&&nR D i j) i=jr ops.toList recs (s0 st) (λj=>decide (j<i)&&D j) i:=
   AG λj hj=>by
    have h1:j<i+1:=by omega
    have h2:j≠i:=by omega
    simp[h1,hj,nR,h2]
  rw[e1,e3];rw[rX (e2.trans (by rw[e4]))];simp only[jr,ho,hr];rw[e5];simp[nR]
 ·rw[L3 hk];refine AF λj rx hj C6 hkx=> ?_
  have:j≠i:=λe=>by
   subst e;rw[hr] at C6;simp at C6;subst C6;exact hk hkx
  simp[nR,this]
theorem yW.next (hd:zu C ev f ops st recs)(hi:yW C ops st recs G0 w0 a0 D G w a)(hni:D i=false)(ho:ops.toList[i]?=some o)(hr:recs[i]?=some r)(he:∀e∈o.after.toList,Region.binds .any e=true->D e.on=true)
 (alK:∀v u l,r.res≠ .panic v u l){G':Gh}{w':World}{a':Act}(hs:dW G w G' w')(hde:a'.defers=a.defers)(hg:jK C G')
 (GB:SR G' ((jr ops.toList recs (s0 st) D ops.size).after o r.res).slots a')(hh:HR G' w' ((jr ops.toList recs (s0 st) D ops.size).after o r.res).H)
 (hfr:∀p,G'.dom (.loc p)->G.dom (.loc p)\/∃q,p=(st.tick+i)::q):yW C ops st recs G0 w0 a0 (nR D i) G' w' a':=by
 have hin:i<ops.size:=by have:=(List.getElem?_eq_some_iff.1 ho).1;simpa using this
 refine⟨hi.step.comp hs,hg,hde.trans hi.defers, ?_,λk ob hk=>hh k ob (by rw[← hi.Zb hd hni ho hr he];exact hk),λp hp=> ?_,λj x hD hx e he' hb=> ?_,λj rx v u l hD C6=> ?_⟩
 ·have:(jr ops.toList recs (s0 st) (nR D i) ops.size).slots=((jr ops.toList recs (s0 st) D ops.size).after o r.res).slots:=List.ext_getElem? (hi.W7 hd hni ho hr he);rw[this];exact GB
 ·rcases hfr p hp with h|⟨q,e⟩
  ·obtain⟨n,q,e,h1⟩:=hi.fresh p h;refine⟨n,q,e,h1.imp id λ⟨j,h2,h3,h4⟩=>⟨j, ?_,h3,h4⟩⟩;simp only[nR];split<;>simp_all
  ·exact⟨_,q,e,.inr ⟨i,by simp[nR],hin,rfl⟩⟩
 ·by_cases e1:e.on=i
  ·simp[nR,e1]
  ·simp only[nR,if_neg e1];by_cases e2:j=i
   ·subst e2;rw[ho] at hx;simp at hx;subst hx;exact he e he' hb
   ·simp only[nR,if_neg e2] at hD;exact hi.closed j x hD hx e he' hb
 ·by_cases e2:j=i
  ·subst e2;rw[hr] at C6;simp at C6;subst C6;exact alK v u l
  ·simp only[nR,if_neg e2] at hD;exact hi.calm j rx v u l hD C6
end step
theorem Zc {bs:List Nat}{t0 i:Nat}{o:Oper}{s:xE}{uD:Option Nat}{r:Rec}(h:YA C ev f ops bs t0 i o s uD=some r):
 (∃j,uD=some j/\iD bs j i=true/\r.res=.Aw)\/
 (eX ops (kU (o.looksAt ops) 0 s.slots) o=some false/\r.res=.unwanted)\/
 (eX ops (kU (o.looksAt ops) 0 s.slots) o=some true/\∃v u,bk C ev f (pg s.H r.fp) (kU (o.looksAt ops) 0 s.slots) (t0+i) o=some (.val v u)/\r.res=.val v u)\/
 (eX ops (kU (o.looksAt ops) 0 s.slots) o=some true/\∃v u l,bk C ev f (pg s.H r.fp) (kU (o.looksAt ops) 0 s.slots) (t0+i) o=some (.panic v u l)/\r.res=.panic v u l/\uD=none):=by
 unfold YA at h
 split at h
 ·rename_i hp;simp at h;subst h;split at hp
  ·rename_i j;exact .inl ⟨j,rfl,hp,rfl⟩
  ·simp at hp
 ·split at h
  ·simp at h
  ·rename_i hw;simp at h;subst h;exact .inr (.inl ⟨hw,rfl⟩)
  ·rename_i hw;split at h
   ·simp at h
   ·rename_i fp Va;split at h
    ·simp at h
    ·rename_i v u hx;simp at h;subst h;exact .inr (.inr (.inl ⟨hw,v,u,hx,rfl⟩))
    ·rename_i v u l hx;split at h
     ·simp at h
     ·simp at h;subst h;exact .inr (.inr (.inr ⟨hw,v,u,l,hx,rfl,rfl⟩))
theorem Bj {H:Heap}{slots:List TV}{t:Nat}{o:Oper}{r:tv}(h:bk C ev f H slots t o=some r):∀cs b,o.op≠ .select cs b:=by
 intro cs b e;unfold bk at h;rw[e] at h;simp[evalOp,e] at h
theorem L5:∀(l:List Oper) (s:List TV),(IK l s).length=s.length
 | [],_=>rfl
 |o::r,s=>by
  show(IK r (eu s o.dst .any)).length=_
  rw[L5 r]
  cases o.dst with
  |none=>rfl
  |some d=>simp[eu,qY]
theorem P0:∀{l:List Oper} {s:List TV} {t:Nat} {c:TV},(IK l s)[t]?=some c->c=.any\/(s[t]?=some c/\∀o∈l,o.dst≠some t)
 | [],_,_,_,h=>.inr ⟨h,λ_ h=>by cases h⟩
 | o ::r,s,t,c,h=>by
   rcases P0 (l:=r) (s:=eu s o.dst .any) h with e|⟨e,hr⟩
   · exact .inl e
   · by_cases hd:o.dst=some t
     · rw[hd] at e
       simp only[eu,qY,List.getElem?_set] at e
       split at e
       · split at e
         · cases e;exact .inl rfl
         · cases e
       · rename_i hne;exact absurd trivial hne
     · rw[Ji hd] at e
       exact .inr ⟨e,λx hx=>by
         rcases List.mem_cons.1 hx with rfl|hx
         · exact hd
         · exact hr x hx⟩
theorem AH {l:List Oper}{recs:List Rec}{s0:xE}{D:Nat->Bool}{t:Nat}(h:∀o∈l,o.dst≠some t):∀n,(jr l recs s0 D n).slots[t]?=s0.slots[t]?
 |0=>rfl
 | n +1=>by
   simp only[jr]
   split
   · rename_i o r ho hr
     split
     · rw[BO (h o (List.mem_of_getElem? ho))];exact AH h n
     · exact AH h n
   · exact AH h n
theorem W8 (s:xE)(o:Oper)(r:HE):(s.after o r).slots.length=s.slots.length:=by
 cases r with
 |Aw=>rfl
 |unwanted=>simp only[xE.after];cases o.dst<;>simp[eu,qY]
 |val v u=>simp only[xE.after];cases o.dst<;>simp[eu,qY]
 |panic v u l=>rfl
theorem Ib {l:List Oper}{recs:List Rec}{s0:xE}{D:Nat->Bool}:∀n,(jr l recs s0 D n).slots.length=s0.slots.length
 |0=>rfl
 | n +1=>by
   simp only[jr]
   split
   · split
     · rw[W8];exact Ib n
     · exact Ib n
   · exact Ib n
theorem Zd {G':Gh}{a:Act}{D:Nat->Bool}{n:Nat}(h:SR G' (jr ops.toList recs (s0 st) D n).slots a):SR G' (IK ops.toList st.slots) a:=by
 have hl:(jr ops.toList recs (s0 st) D n).slots.length=st.slots.length:=Ib n;refine⟨by rw[L5,← hl];exact h.1,λt c v hc hv=> ?_⟩;rcases P0 hc with rfl|⟨e,hn⟩
 ·exact .any _
 ·exact h.2 t c v (by rw[AH hn];exact e) hv
theorem Ze (aI:aC C ev)(hd:zu C ev f ops st recs){G0:Gh}{w0:World}{a0:Act}(hst:y5 C G0 w0 st a0){e:aR}{st':St}{Q:Exit->Act->World->Prop}
 (hQ:∀ex a' w',Good C G0 w0 a0 e st' ex a' w'->Q ex a' w')
 (hend:lY 0 recs=none->e=.normal/\st'={slots:=(jr ops.toList recs (s0 st) (λ_=>true) ops.size).slots,H:=(jr ops.toList recs (s0 st) (λ_=>true) ops.size).H,tick:=st.tick+ops.size})
 (aqH:∀j v u l,lY 0 recs=some (j,v,u,l)->e=.panic v/\st'={slots:=IK ops.toList st.slots,H:=((jr ops.toList recs (s0 st) (λ_=>true) ops.size).H.yU (l++Fl ((nO ops.toList []).getD j 0) 0 recs)).fk u,tick:=st.tick+ops.size}):
 ∀(fuel:Nat) (listed:Array Bool) (G:Gh) (w:World) (a:Act),listed.size=ops.size->listed.toList.countP (· ==false)<=fuel->yW C ops st recs G0 w0 a0 (λj=>listed.getD j false) G w a->wpAny C.P .any ops Q fuel listed a w:=by
 have hat:∀(i:Nat) (o:Oper),ops[i]?=some o↔ops.toList[i]?=some o:=λi o=>by simp
 have hall :∀(listed:Array Bool),listed.size=ops.size->Region.ready .any ops listed=[]->∀j,j<ops.size->listed.getD j false=true:=by
  intro listed hsz hr j;induction j using Nat.strongRecOn with
  | _ j ih=>
    intro hj
    cases hD:listed.getD j false with
    |true=>rfl
    | false=>
      have:j∈Region.ready .any ops listed:=by
        rw[mem_ready]
        refine⟨?_,ops[j],Array.getElem?_eq_getElem hj,λe he hb=> ?_⟩
        · rw[Array.getD_eq_getD_getElem?] at hD ⊢
          rw[Array.getElem?_eq_getElem (by omega)] at hD ⊢
          exact hD
        · have:=WX hd.back j ops[j] (by simp[hj]) e (by simpa using he) hb
          exact ih e.on (by omega) (by omega)
      rw[hr] at this
      simp at this
 have hdone:∀(listed:Array Bool) (G:Gh) (w:World) (a:Act),listed.size=ops.size->yW C ops st recs G0 w0 a0 (λj=>listed.getD j false) G w a->Region.ready .any ops listed=[]->Q .normal a w:=by
  intro listed G w a hsz hi hr;have hl:=hall listed hsz hr;cases hp:lY 0 recs with
  | some q=>
    obtain⟨j,v,u,l⟩:=q
    obtain⟨k,r,h1,h2,h3⟩:=C4 hp
    have hk:k<ops.size:=by rw[← hd.len];exact(List.getElem?_eq_some_iff.1 h2).1
    exact absurd h3 (hi.calm k r v u l (hl k hk) h2)
  | none=>
    obtain⟨rfl,rfl⟩:=hend hp
    have hsame:jr ops.toList recs (s0 st) (λj=>listed.getD j false) ops.size=jr ops.toList recs (s0 st) (λ_=>true) ops.size:=AG λj hj=>hl j hj
    refine hQ _ _ _ ⟨G,hi.step,hi.defers,rfl,hi.step.wf,hi.ku, ?_, ?_,λp hp=> ?_⟩
    · have:=hi.slots;rw[hsame] at this;exact this
    · have:=hi.heap;rw[hsame] at this;exact this
    · obtain⟨n,q,e,h⟩:=hi.fresh p hp
      refine⟨n,q,e, ?_⟩
      rcases h with h|⟨j,_,h,rfl⟩
      · simp only;omega
      · simp only;omega
 intro fuel
 induction fuel with
 | zero=>
   intro listed G w a hsz hc hi
   have hcz:listed.toList.countP (· ==false)=0:=by omega
   have hl:∀j,j<ops.size->listed.getD j true=true:=by
     intro j hj
     rw[List.countP_eq_zero] at hcz
     have:=hcz listed[j] (by simp)
     rw[Array.getD_eq_getD_getElem?,Array.getElem?_eq_getElem (by omega)]
     simpa using this
   have hr:Region.ready .any ops listed=[]:=by
     refine List.eq_nil_iff_forall_not_mem.2 λj hj=> ?_
     rw[mem_ready] at hj
     obtain⟨h1,o,h2,_⟩:=hj
     have:=hl j (Array.getElem?_eq_some_iff.1 h2).1
     rw[this] at h1;cases h1
   exact⟨hr,hdone listed G w a hsz hi hr⟩
 | succ fuel ih=>
   intro listed G w a hsz hc hi
   refine⟨hdone listed G w a hsz hi,λi hmem=> ?_⟩
   rw[mem_ready] at hmem
   obtain⟨ail,o,ho',aim⟩:=hmem
   have hin:i<ops.size:=(Array.getElem?_eq_some_iff.1 ho').1
   have hni:listed.getD i false=false:=by
     rw[Array.getD_eq_getD_getElem?] at ail ⊢
     rw[Array.getElem?_eq_getElem (by omega)] at ail ⊢
     exact ail
   have ho:=(hat i o).1 ho'
   have he:∀e∈o.after.toList,Region.binds .any e=true->listed.getD e.on false=true:=λe h1 h2=>aim e (by simpa using h1) h2
   obtain⟨r,hr,hop⟩:=hd.at' i o ho
   have alL:=hi.look hd hni ho hr he
   have L6:=ad8 hi.slots (o.looksAt ops)
   rw[← alL] at L6
   have alM:=hi.aqG hd hni ho hr he
   have Zf:(∀k∈r.fp,(jr ops.toList recs (s0 st) (λ_=>true) i).H.get k=(jr ops.toList recs (s0 st) (λj=>listed.getD j false) ops.size).H.get k)->HR G w (pg (jr ops.toList recs (s0 st) (λ_=>true) i).H r.fp):=by
     intro hs k ob hk
     obtain⟨h1,h2⟩:=W6 hk
     rw[hs k h1] at h2
     exact hi.heap k ob h2
   have hfresh:∀p,¬G.dom (.loc ((st.tick+i)::p)):=by
     intro p uH
     obtain⟨n,q,e1,h⟩:=hi.fresh _ uH
     simp at e1
     rcases h with h|⟨j,h1,h2,h3⟩
     · omega
     · have:j=i:=by omega
       subst this
       rw[hni] at h1;cases h1
   have aqI:(listed.setIfInBounds i true).toList.countP (· ==false)<=fuel:=by
     rw[Array.toList_setIfInBounds,List.countP_set (by simp;omega)]
     have h1:(listed.toList[i]'(by simp;omega)==false)=true:=by
       rw[Array.getD_eq_getD_getElem?,Array.getElem?_eq_getElem (by omega)] at hni
       simpa using hni
     rw[if_pos h1]
     have h2:(if((true:Bool)==false)=true then 1 else 0)=0:=rfl
     rw[h2]
     omega
   have alN:(λj=>(listed.setIfInBounds i true).getD j false)=nR (λj=>listed.getD j false) i:=by
     funext j
     simp only[nR]
     by_cases e1:j=i
     · subst e1
       rw[Array.getD_eq_getD_getElem?,Array.getElem?_setIfInBounds_self_of_lt (by omega)]
       simp
     · rw[if_neg e1,getD_set_ne false (λh=>e1 h.symm)]
   have hnext:∀{G':Gh} {w':World} {a':Act},yW C ops st recs G0 w0 a0 (nR (λj=>listed.getD j false) i) G' w' a'->wpAny C.P .any ops Q fuel (listed.setIfInBounds i true) a' w':=by
     intro G' w' a' hi'
     rw[← alN] at hi'
     exact ih _ G' w' a' (by simpa using hsz) aqI hi'
   unfold wpOp
   rw[ho']
   simp only
   rcases Zc hop with ⟨j,hp,hb,hres⟩|⟨hw,hres⟩|⟨hw,v,u,hx,hres⟩|⟨hw,v,u,l,hx,hres,hp⟩
   ·
     obtain⟨_,rj,vj,uj,lj,h1,h2⟩:=WZ hp
     have hD:=hi.closed.before (i+1) j i o (by omega) ho he hb
     exact absurd h2 (hi.calm j rj vj uj lj hD h1)
   · have:=jA hw L6
     rw[zq] at this
     rw[this]
     refine hnext (hi.next hd hni ho hr he (by rw[hres];simp) (Step.refl hi.step.wf _ _) (put_defers _ _ _) hi.ku ?_ ?_ (λp h=>.inl h))
     · rw[hres];exact hi.slots.put o.dst (rA G)
     · rw[hres];exact hi.heap
   · have:=jA hw L6
     rw[zq] at this
     rw[this]
     refine .inl ?_
     obtain⟨Hx,hx,hheap⟩:∃Hx,bk C ev f Hx (kU (o.looksAt ops) 0 (jr ops.toList recs (s0 st) (λ_=>true) i).slots) (st.tick+i) o=some (.val v u)/\HR G w Hx:=by
       rcases alM with hs|⟨nm,ob,v2,_,e2,e3,e4⟩
       · exact⟨_,hx,Zf hs⟩
       · rw[hres] at e2
         cases e2
         refine⟨_,e4,λk ob2 hk=> ?_⟩
         simp only[Heap.get] at hk
         split at hk
         · rename_i e5
           cases hk
           subst e5
           exact hi.heap _ _ e3
         · cases hk
     have hex:=tG aI hx hi.step.wf hi.ku L6 hheap hfresh
     unfold mz at hex
     rw[L4 (Bj hx)] at hex
     refine mz.wp (R:=nu (st.tick+i) G w (.val v u)) hex nu.no (λx w' hR=> ?_) (λch w' hR=> ?_)
     · obtain⟨x',G',e1,hs,hu,hv⟩:=hR
       simp at e1;subst e1
       refine hnext (hi.next hd hni ho hr he (by rw[hres];simp) hs.any (put_defers _ _ _) (hi.ku.mono hs.le) ?_ ?_ (λp h=> ?_))
       · rw[hres];exact(hi.slots.mono hs.le).put o.dst hv
       · rw[hres];exact HR.fk hs hi.step.wf hi.heap hu (λk _ hk=>hk)
       · rcases hs.news _ h with h|⟨q,e2⟩
         · exact .inl h
         · simp at e2;exact .inr ⟨q,e2⟩
     · obtain⟨x',G',e1,_⟩:=hR
       simp at e1
   · have:=  jA hw L6
     rw[zq] at this
     rw[this]
     refine .inl ?_
     have hheap:HR G w (pg (jr ops.toList recs (s0 st) (λ_=>true) i).H r.fp):=by
       rcases alM with hs|⟨nm,ob,v2,_,e2,_,_⟩
       · exact Zf hs
       · rw[hres] at e2
         cases e2
     have hex:=tG aI hx hi.step.wf hi.ku L6 hheap hfresh
     unfold mz at hex
     rw[L4 (Bj hx)] at hex
     refine mz.wp (R:=nu (st.tick+i) G w (.panic v u l)) hex nu.no (λx w' hR=> ?_) (λch w' hR=> ?_)
     · obtain⟨x',G',e1,_⟩:=hR
       simp at e1
     · obtain⟨x',G',e1,hs,hu,hv⟩:=hR
       simp at e1;subst e1
       have hpa:lY 0 recs=some (i,v,u,l):=by
         cases hpa:lY 0 recs with
         |none=>exact absurd hres (Nr hpa r (List.mem_of_getElem? hr) v u l)
         | some q=>
           obtain⟨j,v',u',l'⟩:=q
           obtain⟨k,rk,h1,h2,h3⟩:=C4 hpa
           rcases Nat.lt_trichotomy k i with h|h|h
           · have:=GH h h2 h3
             rw[hp] at this;simp at this
           · subst h
             rw[hr] at h2;simp at h2;subst h2
             rw[hres] at h3
             simp at h3
             obtain⟨rfl,rfl,rfl⟩:=h3
             simp at h1;subst h1;rfl
           · obtain⟨ok,hok⟩:∃ok,ops.toList[k]?=some ok:=⟨_,List.getElem?_eq_getElem (by have:=(List.getElem?_eq_some_iff.1 h2).1;rw[hd.len] at this;simpa using this)⟩
             obtain⟨rk',hrk,aqJ⟩:=hd.at' k ok hok
             rw[h2] at hrk;simp at hrk;subst hrk
             have hsome:=GH h hr hres
             rcases Zc aqJ with ⟨_,_,_,q⟩|⟨_,q⟩|⟨_,_,_,_,q⟩|⟨_,_,_,_,_,_,q⟩
             · rw[h3] at q;simp at q
             · rw[h3] at q;simp at q
             · rw[h3] at q;simp at q
             · rw[q] at hsome;simp at hsome
       obtain⟨rfl,rfl⟩:=aqH i v u l hpa
       refine hQ _ _ _ ⟨G',hi.step.comp hs.any,hi.defers,x',rfl,hv, ?_,Zd (hi.slots.mono hs.le),st.tick+ops.size,λp hp=> ?_⟩
       rotate_left
       · have hsz:i<ops.size:=by have:=(List.getElem?_eq_some_iff.1 ho).1;simpa using this
         rcases hs.news _ hp with d|⟨q,e⟩
         · obtain⟨n,q,e1,h|⟨j,_,hj,h⟩⟩:=hi.fresh p d
           · exact⟨n,q,e1,by omega⟩
           · exact⟨n,q,e1,by omega⟩
         · exact⟨_,q,Nm.loc.inj e,by omega⟩
       intro k ob hk
       rcases Heap.wo _ u k ob hk with h1|⟨h1,hn⟩
       · exact hu k ob h1
       · rw[ Heap.zg] at h1
         split at h1
         · simp at h1
         rename_i hl
         simp only[List.mem_append,not_or] at hl
         have hsame:(jr ops.toList recs (s0 st) (λ_=>true) ops.size).H.get k=(jr ops.toList recs (s0 st) (λj=>listed.getD j false) ops.size).H.get k:=by
           refine AF λj rj hj hrj hkj=> ?_
           have hji:j≠i:=λe1=>by
             subst e1
             rw[hr] at hrj;simp at hrj;subst hrj
             rw[hres] at hkj
             simp only[HE.keys,List.mem_append] at hkj
             exact hkj.elim hn hl.1
           have:=S5 hl.2 j rj hrj hkj
           rw[Nat.zero_add] at this
           exact(hi.closed.before (i+1) j i o (by omega) ho he this).symm
         rw[hsame] at h1
         obtain⟨d,Y4⟩:=hi.heap k ob h1
         exact⟨hs.le.dom _ d,hs.keeps hi.step.wf d (λhx=>by rcases List.mem_append.1 hx with hx|hx;exact hn hx;exact hl.1 hx) Y4⟩
noncomputable def W9 (ops:Array Oper)(st:St)(recs:List Rec):aR×St:=
 let s:=CM ops.toList recs {slots:=st.slots,H:=st.H}
 match lY 0 recs with
 |none=>(.normal,{slots:=s.slots,H:=s.H,tick:=st.tick+ops.size})
 |some (j,v,u,lost)=>(.panic v,{slots:=IK ops.toList st.slots,H:=(s.H.yU (lost++Fl ((nO ops.toList []).getD j 0) 0 recs)).fk u,tick:=st.tick+ops.size})
theorem BP (hm:C.P.prog.follows .mixedOrders=true)(aI:aC C ev){e:aR}{st':St}(L7:HF C ev f ops (nO ops.toList []) st.tick 0 ops.toList {slots:=st.slots,H:=st.H} none=some recs)
 (hfree:∀(i j:Nat) (x y:Oper) (rx ry:Rec),i<j->ops.toList[i]?=some x->ops.toList[j]?=some y->recs[i]?=some rx->recs[j]?=some ry->iD (nO ops.toList []) i j=true\/vE ops x y rx ry=true\/(mh ops x y=true/\Y8 C ev f ops st recs i x rx ry))
 (alO:xF 0 ops.toList=true)(h:W9 ops st recs=(e,st')){G:Gh}{w:World}{a:Act}(hst:y5 C G w st a){id:Nat}
 {Q:Exit->Act->World->Prop}(hQ:∀ex a' w',Good C G w a e st' ex a' w'->Q ex a' w'):(Code.region id ops true).wp C.P Q a w:=by
 obtain⟨h1,h2⟩:=ad7 (l:=ops.toList) (recs:=recs) (s0:=s0 st) (D:=λ_=>true) (λ_=>rfl) (i:=0) L7 (by simp) (by simp)
 have hd:zu C ev f ops st recs:=⟨by simpa using h1,λj o ho=>by have:=h2 j o ho;simpa using this,hfree,alO⟩
 have ahb:CM ops.toList recs {slots:=st.slots,H:=st.H}=jr ops.toList recs (s0 st) (λ_=>true) ops.size:=by
  have:=WY (l:=ops.toList) (recs:=recs) (s0:=s0 st) (D:=λ_=>true) (λ_=>rfl) (os:=ops.toList) (rs:=recs) (i:=0) h1.symm (by simp) (by simp);simpa [jr] using this
 refine wp_region_any hm ?_
 have hw':World:={w with drawn:=w.drawn+1}
 have hstep:dW G w G {w with drawn:=w.drawn+1}:=⟨.refl G,⟨hst.wf.F,hst.wf.inj,hst.wf.lt⟩,λ_ _ _=>⟨rfl,rfl⟩,λ_ _ _=>⟨rfl,λ_=>rfl⟩,λ_ h=>.inl h,λk h=>.inl ⟨k,h,rfl,.inl rfl⟩,Nat.le_refl _,rfl,rfl,rfl⟩
 have qF:y5 C G {w with drawn:=w.drawn+1} st a:=⟨hstep.wf,hst.ku,hst.slots,hst.heap,hst.fresh⟩
 refine Ze aI hd qF (Q:=Q) (e:=e) (st':=st') (λex a' w' hg=>hQ ex a' w' (Good.comp hstep rfl hg)) (λhp=> ?_) (λj v u l hp=> ?_) ops.size _ G _ a (by simp) ?_ ?_
 ·simp only[W9,hp,ahb,Prod.mk.injEq] at h;exact⟨h.1.symm,h.2.symm⟩
 ·simp only[W9,hp,ahb,Prod.mk.injEq] at h;exact⟨h.1.symm,h.2.symm⟩
 ·simp[List.countP_replicate]
 ·have hnone:jr ops.toList recs (s0 st) (λj=>(Array.replicate ops.size false).getD j false) ops.size=s0 st:=by
   rw[tH (m:=0) (by omega) (λj _ hj=>by simp[Array.getD_eq_getD_getElem?,Array.getElem?_replicate,hj])];rfl
  refine⟨Step.refl qF.wf _ _,qF.ku,rfl,by rw[hnone];exact qF.slots,by rw[hnone];exact qF.heap,λp hp=> ?_,λj x hD=> ?_,λj r v u l hD=> ?_⟩
  ·obtain⟨n,q,e1,h3⟩:=qF.fresh p hp;exact⟨n,q,e1,.inl h3⟩
  ·exfalso;simp only[Array.getD_eq_getD_getElem?,Array.getElem?_replicate] at hD;split at hD<;>simp at hD
  ·exfalso;simp only[Array.getD_eq_getD_getElem?,Array.getElem?_replicate] at hD;split at hD<;>simp at hD
theorem Jm (hm:C.P.prog.follows .mixedOrders=true)(aI:aC C ev){e:aR}{st':St}(h:Ax C ev f ops st=some (e,st')){G:Gh}{w:World}{a:Act}(hst:y5 C G w st a){id:Nat}
 {Q:Exit->Act->World->Prop}(hQ:∀ex a' w',Good C G w a e st' ex a' w'->Q ex a' w'):(Code.region id ops true).wp C.P Q a w:=by
 unfold Ax at h
 simp only at h
 split at h
 ·simp at h
 rename_i recs L7
 split at h
 case isFalse=>simp at h
 rename_i hfree
 refine BP hm aI L7 (λi j x y rx ry hij hx hy C6 hry=>(U8 hfree.1 hij hx hy C6 hry).imp (λh=>h) .inl) hfree.2 ?_ hst hQ
 unfold W9
 simp only
 split at h
 ·rename_i hp;cases h;simp only[hp]
 ·rename_i hp;cases h;simp only[hp]
end
end Go.Abs
namespace Go.Abs
open Go
section
variable {C:ew}{ev:bp}{f:FuncId}
theorem Good.nS {G:Gh}{w:World}{a:Act}{st':St}{ex:Exit}{a':Act}{w':World}(h:Good C G w a .normal st' ex a' w'):ex=.normal/\a'.defers=a.defers/\∃G',dW G w G' w'/\y5 C G' w' st' a':=by
 obtain⟨G',h1,h2,h3,h4⟩:=h;exact⟨h3,h2,G',h1,h4⟩
theorem Good.gO {G:Gh}{w:World}{a:Act}{e:aR}{st':St}{ex:Exit}{a':Act}{w':World}(h:Good C G w a e st' ex a' w')(he:e≠ .normal):ex≠ .normal:=by
 obtain⟨G',h1,h2,h3⟩:=h;cases e with
 |normal=>exact absurd rfl he
 |exit id=>intro e;simp only at h3;rw[e] at h3;simp at h3
 |ret=>intro e;simp only at h3;rw[e] at h3;simp at h3
 |panic v=>intro e;obtain⟨x,h4,_⟩:=h3;rw[e] at h4;simp at h4
theorem gP {next:Act->World->Prop}{Q:Exit->Act->World->Prop}{ex:Exit}{a:Act}{w:World}(h:ex≠ .normal)(hq:Q ex a w):Exit.then next Q ex a w:=by
 cases ex<;>first|exact hq|exact absurd rfl h
def Zg (C:ew)(c:Code)(body:St->Option (aR×St)):Prop:=∀st e st',body st=some (e,st')->∀(G:Gh) (w:World) (a:Act),y5 C G w st a->c.wp C.P (Good C G w a e st') a w
theorem Zh {c:Code}{body:St->Option (aR×St)}(h:Zg C c body):∀(n:Nat) (st:St) (e:aR) (st':St),IL body n st=some (e,st')->∀(G:Gh) (w:World) (a:Act),y5 C G w st a->
 ∀Q:Exit->Act->World->Prop,(∀ex a' w',Good C G w a e st' ex a' w'->Q ex a' w')->Code.rounds C.P c Q n a w:=by
 intro n
 induction n with
 |zero=>intro st e st' hi;simp[IL] at hi
 | succ n ih=>
   intro st e st' hi G w a hst Q hQ
   simp only[IL] at hi
   rw[rounds_succ]
   split at hi
   · rename_i st1 hb
     refine wp_mono (h st _ _ hb G w a hst) λex a1 w1 hg=> ?_
     obtain⟨rfl,hd,G1,hs,jk⟩:=hg.nS
     exact ih st1 e st' hi G1 w1 a1 jk Q λex a' w' hg'=>hQ _ _ _ (Good.comp hs hd hg')
   · rename_i hne
     have he:e≠ .normal:=λe1=>by subst e1;exact hne st' hi
     refine wp_mono (h st _ _ hi G w a hst) λex a1 w1 hg=>gP (hg.gO he) (hQ _ _ _ hg)
theorem uU (hm:C.P.prog.follows .mixedOrders=true)(aI:aC C ev){fuel:Nat}:∀(c:Code),Zg C c (evalCode C ev f fuel c):=by
 intro c;induction c with
 | skip=>
   intro st e st' h G w a hst
   simp[evalCode] at h
   obtain⟨rfl,rfl⟩:=h
   exact wp_skip ⟨G,Step.refl hst.wf _ _,rfl,rfl,hst⟩
 | label l=>
   intro st e st' h G w a hst
   simp[evalCode] at h
   obtain⟨rfl,rfl⟩:=h
   exact wp_label ⟨G,Step.refl hst.wf _ _,rfl,rfl,hst⟩
 | region id ops draw=>
   intro st e st' h G w a hst
   simp only[evalCode] at h
   cases draw with
   | true=>
     rw[if_pos rfl] at h
     exact Jm hm aI h hst λ_ _ _ hg=>hg
   | false=>
     simp only[Bool.false_eq_true,if_false] at h
     exact wp_region_list (ad5 aI _ _ _ _ h G w a hst _ λ_ _ _ hg=>hg)
 | seq x y ihx ihy=>
   intro st e st' h G w a hst
   simp only[evalCode] at h
   refine wp_seq ?_
   split at h
   · rename_i st1 hb
     refine wp_mono (ihx st _ _ hb G w a hst) λex a1 w1 hg=> ?_
     obtain⟨rfl,hd,G1,hs,jk⟩:=hg.nS
     exact wp_mono (ihy st1 _ _ h G1 w1 a1 jk) λex a' w' hg'=>Good.comp hs hd hg'
   · rename_i hne
     have he:e≠ .normal:=λe1=>by subst e1;exact hne st' h
     exact wp_mono (ihx st _ _ h G w a hst) λex a1 w1 hg=>gP (hg.gO he) hg
 | cond c x y ihx ihy=>
   intro st e st' h G w a hst
   simp only[evalCode] at h
   split at h
   · rename_i hc
     exact wp_cond_true (cH hst.slots hst.ku hc).bool (ihx st _ _ h G w a hst)
   · rename_i hc
     exact wp_cond_false (cH hst.slots hst.ku hc).bool (ihy st _ _ h G w a hst)
   · simp at h
 | block id x ihx=>
   intro st e st' h G w a hst
   simp only[evalCode] at h
   refine wp_block ?_
   split at h
   · rename_i id' st1 hb
     refine wp_mono (ihx st _ _ hb G w a hst) λex a1 w1 hg=> ?_
     obtain⟨G1,hs,hd,rfl,jk⟩:=hg
     split at h
     · rename_i e1
       simp at h
       obtain⟨rfl,rfl⟩:=h
       simp only[Exit.inBlock,e1,if_true]
       exact⟨G1,hs,hd,rfl,jk⟩
     · rename_i e1
       simp at h
       obtain⟨rfl,rfl⟩:=h
       simp only[Exit.inBlock,e1,if_false]
       exact⟨G1,hs,hd,rfl,jk⟩
   · rename_i hne
     refine wp_mono (ihx st _ _ h G w a hst) λex a1 w1 hg=> ?_
     cases e with
     |normal=>obtain⟨G1,hs,hd,rfl,jk⟩:=hg;exact⟨G1,hs,hd,rfl,jk⟩
     |exit id'=>exact absurd h (hne id' st')
     |ret=>obtain⟨G1,hs,hd,rfl,jk⟩:=hg;exact⟨G1,hs,hd,rfl,jk⟩
     |panic v=>obtain⟨G1,hs,hd,x,rfl,jk⟩:=hg;exact⟨G1,hs,hd,x,rfl,jk⟩
 | loop x ihx=>
   intro st e st' h G w a hst
   simp only[evalCode] at h
   exact wp_loop_rounds fuel (Zh ihx fuel st e st' h G w a hst _ λ_ _ _ hg=>hg)
 | exit id=>
   intro st e st' h G w a hst
   simp[evalCode] at h
   obtain⟨rfl,rfl⟩:=h
   exact wp_exit ⟨G,Step.refl hst.wf _ _,rfl,rfl,hst⟩
 | ret=>
   intro st e st' h G w a hst
   simp[evalCode] at h
   obtain⟨rfl,rfl⟩:=h
   exact wp_ret ⟨G,Step.refl hst.wf _ _,rfl,rfl,hst⟩
 |_=>intro st e st' h;simp[evalCode] at h
end
end Go.Abs
namespace Go.Abs
open Go
section
variable {C:ew}{ev:bp}{f:FuncId}{G:Gh}{w:World}
def Nt (tmps:Array Value):ResultVar->Sem Value
 |.tmp t=>pure (tmps.getD t undef)
 |.cell x t=>do loadVar t (← asAddr (tmps.getD x undef))
theorem S8 (fn:Func)(tmps:Array Value):results fn tmps=(do let vs ← fn.results.mapM (Nt tmps);pure (if h:vs.size=1 then vs[0] else .tuple vs):Sem Value):=by
 unfold results;exact congrArg (λg:ResultVar->Sem Value=>(do let vs ← fn.results.mapM g;pure (if h:vs.size=1 then vs[0] else .tuple vs):Sem Value)) (funext λx=>by cases x<;>rfl)
theorem S9 {st:St}{a:Act}(hst:y5 C G w st a):∀{rs:List ResultVar} {vs:List TV},l5 C st rs=some vs->
 ∃us:List Value,(rs.mapM (Nt a.tmps):Sem (List Value)).run C.P w=.ok us w/\dU G vs us:=by
 intro rs
 induction rs with
 |nil=>intro vs h;simp[l5] at h;subst h;exact⟨[],by simp,dU.nil G⟩
 | cons r rs ih=>
  intro vs h
  cases r with
  |tmp t=>
   simp only[l5] at h
   cases h1:l5 C st rs<;>simp only[h1,reduceCtorEq] at h
   simp only[Option.some.injEq] at h
   subst h
   obtain⟨us,h2,h3⟩:=ih h1
   refine⟨a.tmps.getD t undef::us, ?_,dU.cons (hst.slots.getD t) h3⟩
   rw[List.mapM_cons]
   rw[iU (a:=a.tmps.getD t undef) (w':=w) rfl,iU h2]
   rfl
  |cell x t=>
   simp only[l5] at h
   cases h0:loadT C.P st.H t (st.slots.getD x dc)<;>cases h1:l5 C st rs<;>simp only[h0,h1,reduceCtorEq] at h
   simp only[Option.some.injEq] at h
   subst h
   obtain⟨us,h2,h3⟩:=ih h1
   obtain⟨u,h4,h5⟩:=GG hst.heap hst.wf (hst.slots.getD x) h0
   refine⟨u::us, ?_,dU.cons h5 h3⟩
   have h4':(Nt a.tmps (.cell x t)).run C.P w=.ok u w:=h4
   rw[List.mapM_cons]
   rw[iU h4',iU h2]
   rfl
theorem Jn {st:St}{a:Act}{fn:Func}{vs:List TV}(hst:y5 C G w st a)(h:l5 C st fn.results.toList=some vs):∃v,(results fn a.tmps).run C.P w=.ok v w/\VR G (CN vs) v:=by
 obtain⟨us,h1,h2⟩:=S9 hst h;rw[S8,Array.mapM_eq_mapM_toList];have h3:(List.toArray<$>(fn.results.toList.mapM (Nt a.tmps):Sem (List Value))).run C.P w=.ok us.toArray w:=by
  rw[map_eq_pure_bind];rw[iU h1];rfl
 refine⟨_,iU h3, ?_⟩;cases vs with
 |nil=>
  have:=h2.1;simp at this;subst this
  exact pz h2
 | cons x r=>
  cases r with
  |nil=>
   obtain⟨u,us',rfl,h5,h6⟩:=h2.j5
   have:=h6.1;simp at this;subst this
   exact h5
  |cons y r=>
   have hl:=h2.1
   simp at hl
   rw[dif_neg (by simp;omega)]
   exact pz h2
theorem GI {H:Heap}:∀{n i:Nat} {os:List aP},tA H i n=some os->os.length=n/\∀j o,os[j]?=some o->H.get (.arg (i+j))=some o:=by
 intro n;induction n with
 |zero=>intro i os h;simp[tA] at h;subst h;simp
 | succ n ih=>
  intro i os h
  simp only[tA] at h
  cases h1:H.get (.arg i)<;>cases h2:tA H (i+1) n<;>simp[h1,h2] at h
  subst h
  obtain⟨e1,e2⟩:=ih h2
  refine⟨by simp[e1],λj o hj=> ?_⟩
  cases j with
  |zero=>simp at hj;subst hj;exact h1
  |succ j=>
   have:=e2 j o (by simpa using hj)
   rw[show i+1+j=i+(j+1) from by omega] at this
   exact this
theorem xN {H:Heap}:∀{n i:Nat} {j:Nat} {o:aP},(uQ H i n)[j]?=some (some o)->H.get (.arg (i+j))=some o:=by
 intro n;induction n with
 |zero=>intro i j o h;simp[uQ] at h
 | succ n ih=>
   intro i j o h
   simp only[uQ] at h
   cases j with
   | zero=>
     simp at h
     split at h
     · rename_i o' ho
       split at h
       · simp at h
       · simp at h;subst h;exact ho
     · simp at h
   | succ j=>
     have:=ih (i:=i+1) (j:=j) (o:=o) (by simpa using h)
     rw[show i+1+j=i+(j+1) from by omega] at this
     exact this
theorem zw {H:Heap}:∀{ks:List Nm} {h:Heap},pn H ks=some h->∀k o,(k,o)∈h->k.jf=true/\H.get k=some o:=by
 intro ks;induction ks with
 |nil=>intro h hh;simp[pn] at hh;subst hh;simp
 | cons x r ih=>
   intro h hh k o hm
   simp only[pn] at hh
   cases h1:pn H r with
   |none=>simp[h1] at hh
   | some h'=>
     simp only[h1] at hh
     split at hh
     · rename_i hl
       cases h2:H.get x with
       |none=>simp[h2] at hh
       | some o'=>
         simp[h2] at hh
         subst hh
         rcases List.mem_cons.1 hm with e|hm
         · simp at e;obtain⟨rfl,rfl⟩:=e;exact⟨hl,h2⟩
         · exact ih h1 k o hm
     · simp at hh;subst hh;exact ih h1 k o hm
theorem s7 {fn:Func}{n:Nat}{st:St}{a:Act}{r:br}{G0:Gh}{w0:World}(h:finish C fn n st=some r)(hs:dW G0 w0 G w)(hst:y5 C G w st a):
 ∃v,(results fn a.tmps).run C.P w=.ok v w/\yV G0 w0 n r (.returned v) w:=by
 unfold finish at h
 split at h
 ·simp at h
 rename_i vs hvs
 obtain⟨v,hv,hr⟩:=Jn hst hvs
 refine⟨v,hv, ?_⟩
 dsimp only at h
 have main:∀(x:TV) (ks:List Nm),VR (G.frozen w st.H ks) x v->(match tA (st.H.fk (eU st.H ks)) 0 n with
  |none=>none
  | some os=>match reach (st.H.fk (eU st.H ks)) iK [] (x.names++os.flatMap aP.names) with
    |none=>none
    |some R=>(pn (st.H.fk (eU st.H ks)) R).map λh=>br.ret x os h)=some r->yV G0 w0 n r (.returned v) w:=by
  intro x ks hx h
  have qG:=kV hst.wf hst.heap ks
  have hH1:HR (G.frozen w st.H ks) w (st.H.fk (eU st.H ks)):=HR.fk qG hst.wf hst.heap (λk o hm=>wq hst.wf hst.heap hm) (λk _ hk=>pJ hk.1 hk.2)
  split at h
  ·simp at h
  rename_i os hos
  split at h
  ·simp at h
  rename_i R hR
  cases Y5:pn (st.H.fk (eU st.H ks)) R with
  |none=>rw[Y5] at h;simp at h
  | some nw=>
    rw[Y5] at h
    simp only[Option.map_some,Option.some.injEq] at h
    subst h
    obtain⟨e1,e2⟩:=GI hos
    refine⟨v,G.frozen w st.H ks,rfl,hs.comp (qG.mono (λ_ _ _=>trivial) (λ_ hk=>hk.elim)),e1,λi o ho=> ?_,λk o hm=> ?_,hx⟩
    · have:=e2 i o ho
      rw[Nat.zero_add] at this
      exact hH1 _ _ this
    · obtain⟨e3,e4⟩:=zw Y5 k o hm
      exact⟨e3,hH1 _ _ e4⟩
 cases hfz:sG st.H ji (CN vs) with
 | none=>
   rw[hfz] at h
   exact main (CN vs) [] (hr.mono (kV hst.wf hst.heap []).le) h
 | some q=>
   obtain⟨x,ks⟩:=q
   rw[hfz] at h
   exact main (.t x) ks (.t _ _ (IY hst.wf hst.heap ks ji _ _ _ _ hfz (λ_ hk=>hk) hr)) h
theorem Zi (hm:C.P.prog.follows .mixedOrders=true)(aI:aC C ev){fuel:Nat}{args:List TV}{bq:List aP}{r:br}(h:Pt C ev fuel f args bq=some r){vs:List Value}(hw:WF G w)(hg:jK C G)(had:Ft G bq.length)
 (hH:HR G w (dw 0 bq))(hv:dU G args vs):qD C.P f vs.toArray w (yV G w bq.length r):=by
 unfold Pt at h
 split at h
 ·simp at h
 rename_i fn Nu
 have hfn:=C.P.Yw _ _ Nu
 split at h
 ·simp at h
 rename_i body hbody
 split at h
 ·simp at h
 rename_i hname
 have hst:y5 C G w {slots:=args++List.replicate (fn.ntmps - args.length) dc,H:=dw 0 bq,tick:=0} {tmps:=vs.toArray++Array.replicate (fn.ntmps - vs.toArray.size) undef,defers:=[]}:=by
  refine⟨hw,hg, ?_,hH,λp hp=>absurd hp (had.2 p)⟩;have e:(vs.toArray++Array.replicate (fn.ntmps - vs.toArray.size) undef).toList=vs++List.replicate (fn.ntmps - args.length) undef:=by simp[hv.1]
  unfold SR;rw[e];refine dU.append hv ⟨by simp,λj c u hc hu=> ?_⟩;rw[List.getElem?_replicate] at hc hu;by_cases hl:j<fn.ntmps - args.length
  ·rw[if_pos hl] at hc hu;simp at hc hu;subst hc;subst hu;exact rA G
  ·rw[if_neg hl] at hc;simp at hc
 refine .inl ⟨?_,calls_of_wp hfn hbody ?_⟩
 ·simp[callFunc,hfn,hname,hbody]
 ·split at h
  ·rename_i st he;refine wp_mono (uU hm aI body _ _ _ he G w _ hst) λex a' w' hgd=> ?_
   obtain⟨G',hs,hd,rfl,qF⟩:=hgd;exact⟨hd,s7 h hs qF⟩
  ·rename_i st he;refine wp_mono (uU hm aI body _ _ _ he G w _ hst) λex a' w' hgd=> ?_
   obtain⟨G',hs,hd,rfl,qF⟩:=hgd;exact⟨hd,s7 h hs qF⟩
  ·rename_i v st he;split at h
   ·simp at h
   ·simp only[Option.some.injEq] at h;subst h;refine wp_mono (uU hm aI body _ _ _ he G w _ hst) λex a' w' hgd=> ?_
    obtain⟨G',hs,hd,x,rfl,hx,hH',_⟩:=hgd;refine⟨hd,x,G',rfl,hs,λi o ho=> ?_,hx⟩;have:=xN ho;rw[Nat.zero_add] at this;exact hH' _ _ this
  ·simp at h
def GJ (C:ew)(X:Ext):Prop:=∀g s,X g=some s->∀ev,aC C ev->∀args bq r,s ev args bq=some r->∀(G:Gh) (w:World) (vs:List Value),WF G w->jK C G->Ft G bq.length->
 HR G w (dw 0 bq)->dU G args vs->qD C.P g vs.toArray w (yV G w bq.length r)
theorem C7 (hm:C.P.prog.follows .mixedOrders=true){X:Ext}(hX:GJ C X):∀n,aC C (IM C X n):=by
 intro n;induction n with
 |zero=>intro g args bq r h;simp[IM] at h
 | succ n ih=>
   intro g args bq r h G w vs hw hg had hH hv
   simp only[IM] at h
   split at h
   · rename_i s hs
     exact hX g s hs _ ih args bq r h G w vs hw hg had hH hv
   · exact Zi hm ih h hw hg had hH hv
end
end Go.Abs
