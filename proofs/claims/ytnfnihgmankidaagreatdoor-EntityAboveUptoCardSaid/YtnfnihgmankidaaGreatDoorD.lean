/- Regions that draw their order are right. -/
import Derived.Test.YtnfnihgmankidaaGreatDoorC
import Derived.LoopN
set_option linter.unusedVariables false
set_option linter.unusedSimpArgs false
namespace Go.Abs
open Go
section
variable {C:cE}{ev:aT}{f:FuncId}{ops:Array Oper}{st:St}{recs:List Rec}
abbrev s0 (st:St):sG:={slots:=st.slots,H:=st.H}
def SS (C:cE)(ev:aT)(f:FuncId)(ops:Array Oper)(st:St)(recs:List Rec)(i:Nat)(x:Oper)(rx ry:Rec):Prop:=
 ∃nm ob v w,rx.fp=[nm]/\rx.res=.val v []/\ry.res=.val w [(nm,ob)]/\aP C ev f [(nm,ob)] (iN (x.looksAt ops) 0 (fh ops.toList recs (s0 st) (λ_=>true) i).slots) (st.tick+i) x=some (.val v [])
structure rG (C:cE)(ev:aT)(f:FuncId)(ops:Array Oper)(st:St)(recs:List Rec):Prop where
 len:recs.length=ops.size
 at':∀(j:Nat) (o:Oper),ops.toList[j]?=some o->∃r,recs[j]?=some r/\Sd C ev f ops (jt ops.toList []) st.tick j o (fh ops.toList recs {slots:=st.slots,H:=st.H} (λ_=>true) j) (Au recs j)=some r
 free:∀(i j:Nat) (x y:Oper) (rx ry:Rec),i<j->ops.toList[i]?=some x->ops.toList[j]?=some y->recs[i]?=some rx->recs[j]?=some ry->
  eU (jt ops.toList []) i j=true\/qQ ops x y rx ry=true\/(jH ops x y=true/\SS C ev f ops st recs i x rx ry)
 back:pM 0 ops.toList=true
theorem HG {i j:Nat}{x y:Oper}{rx ry:Rec}(h:jk ops ops.toList recs (jt ops.toList []) ops.toList recs 0=true)(hij:i<j)(hx:ops.toList[i]?=some x)(hy:ops.toList[j]?=some y)(xY:recs[i]?=some rx)(SU:recs[j]?=some ry):
 eU (jt ops.toList []) i j=true\/qQ ops x y rx ry=true:=by
 obtain⟨hl,_,_⟩:=Gi ops.toList []
 have hjl:j<(jt ops.toList []).length:=by rw[hl];have:=(List.getElem?_eq_some_iff.1 hy).1;simpa using this
 have h1:=HB h j _ y ry (List.getElem?_eq_getElem hjl) hy SU
 have h2:=Ml h1 i x rx (by rw[Nat.zero_add,List.getElem?_take,if_pos hij];exact hx) (by rw[Nat.zero_add,List.getElem?_take,if_pos hij];exact xY)
 rw[Nat.zero_add] at h2
 refine h2.imp (λh=> ?_) id
 unfold eU
 rw[List.getD,List.getElem?_eq_getElem hjl]
 exact h
theorem rG.OC (h:rG C ev f ops st recs){i j:Nat}{x y:Oper}{rx ry:Rec}(hij:i<j)(hx:ops.toList[i]?=some x)(hy:ops.toList[j]?=some y)(xY:recs[i]?=some rx)(SU:recs[j]?=some ry):
 eU (jt ops.toList []) i j=true\/jH ops x y=true:=by
 rcases h.free i j x y rx ry hij hx hy xY SU with h|h|h
 ·exact .inl h
 ·simp only[qQ,Bool.and_eq_true] at h;exact .inr h.1.1.1
 ·exact .inr h.1
def Mn (ops:Array Oper)(D:Nat->Bool):Prop:=∀(j:Nat) o,D j=true->ops.toList[j]?=some o->∀e∈o.after.toList,Region.binds .any e=true->D e.on=true
theorem Mn.before {D:Nat->Bool}(h:Mn ops D):∀(n i j:Nat) (o:Oper),j<n->ops.toList[j]?=some o->(∀e∈o.after.toList,Region.binds .any e=true->D e.on=true)->eU (jt ops.toList []) i j=true->D i=true:=by
 intro n;induction n with
 |zero=>intro i j o hl;omega
 | succ n ih=>
   intro i j o hl ho he hb
   obtain⟨_,_,h3⟩:=Gi ops.toList []
   obtain⟨e,h4,h5,h6⟩:=h3 j o i ho (by simpa using hb)
   have hd:=he e h4 h5
   rcases h6 with rfl|⟨h6,h7⟩
   · exact hd
   · simp at h6
     cases ho':ops.toList[e.on]? with
     | none=>
       have:=List.getElem?_eq_none_iff.1 ho'
       have:=(List.getElem?_eq_some_iff.1 ho).1
       omega
     |some o'=>exact ih i e.on o' (by omega) ho' (h e.on o' hd ho') h7
theorem sU {a b:List Nm}(h:Hg a b=true){k:Nm}(ha:k∈a):k∉b:=by
 have:=List.all_eq_true.1 h k ha;simpa using this
theorem uh {x y:Oper}(h:jH ops x y=true):(∀d,x.dst=some d->d∉y.looksAt ops)/\(∀d,x.dst=some d->y.dst≠some d)/\(∀d,y.dst=some d->d∉x.looksAt ops):=
 Oper.apart_spec (by unfold jH at h;unfold Oper.apart;cases hx:x.dst<;>cases hy:y.dst<;>simp only[hx,hy] at h ⊢<;>exact h)
structure nT (C:cE)(ops:Array Oper)(st:St)(recs:List Rec)(G0:Gh)(w0:World)(a0:Act)(D:Nat->Bool)(G:Gh)(w:World)(a:Act):Prop where
 step:dw G0 w0 G w
 iL:jJ C G
 defers:a.defers=a0.defers
 slots:SR G (fh ops.toList recs (s0 st) D ops.size).slots a
 heap:HR G w (fh ops.toList recs (s0 st) D ops.size).H
 fresh:∀p,G.dom (.loc p)->∃n q,p=n::q/\(n<st.tick\/∃j,D j=true/\j<ops.size/\n=st.tick+j)
 closed:Mn ops D
 calm:∀j r v u l,D j=true->recs[j]?=some r->r.res≠ .panic v u l
def jM (D:Nat->Bool)(i:Nat):Nat->Bool:=λj=>if j=i then true else D j
section step
variable {G0 G:Gh}{w0 w:World}{a0 a:Act}{D:Nat->Bool}{i:Nat}{o:Oper}{r:Rec}
theorem nT.SV (hd:rG C ev f ops st recs)(hi:nT C ops st recs G0 w0 a0 D G w a)(hni:D i=false)(ho:ops.toList[i]?=some o)(hr:recs[i]?=some r)(he:∀e∈o.after.toList,Region.binds .any e=true->D e.on=true)
 {t:Nat}(ht:t∈o.looksAt ops\/o.dst=some t)(hw:∀j,i<=j->j<ops.size->D j=true->True):
 ∀j x,j<ops.size->ops.toList[j]?=some x->x.dst=some t->(D j=true->j<i)/\(j<i->(t∈o.looksAt ops->D j=true)):=by
 intro j x hj hx JQ
 obtain⟨rx,xY⟩:∃rx,recs[j]?=some rx:=⟨_,List.getElem?_eq_getElem (by rw[hd.len];exact hj)⟩
 refine⟨λhD=> ?_,λhlt hlk=> ?_⟩
 ·rcases Nat.lt_trichotomy j i with h|h|h
  ·exact h
  ·subst h;rw[hni] at hD;cases hD
  ·rcases hd.OC h ho hx hr xY with hb|hb
   ·have:=hi.closed.before (j+1) i j x (by omega) hx (hi.closed j x hD hx) hb;rw[hni] at this;cases this
   ·obtain⟨s1,s2,s3⟩:=uh hb;rcases ht with ht|ht
    ·exact absurd ht (s3 t JQ)
    ·exact absurd JQ (s2 t ht)
 ·rcases hd.OC hlt hx ho xY hr with hb|hb
  ·exact hi.closed.before (i+1) j i o (by omega) ho he hb
  ·obtain⟨s1,s2,s3⟩:=uh hb;exact absurd hlk (s1 t JQ)
theorem nT.Mp (hd:rG C ev f ops st recs)(hi:nT C ops st recs G0 w0 a0 D G w a)(hni:D i=false)(ho:ops.toList[i]?=some o)(hr:recs[i]?=some r)(he:∀e∈o.after.toList,Region.binds .any e=true->D e.on=true)
 {k:Nm}(hk:k∈r.fp\/k∈r.res.keys):
 ∀j x rx,j<ops.size->ops.toList[j]?=some x->recs[j]?=some rx->k∈rx.res.keys->(D j=true->j<i\/(i<j/\SS C ev f ops st recs i o r rx))/\(j<i->D j=true):=by
 intro j x rx hj hx xY hkx
 refine⟨λhD=> ?_,λhlt=> ?_⟩
 ·rcases Nat.lt_trichotomy j i with h|h|h
  ·exact .inl h
  ·subst h;rw[hni] at hD;cases hD
  ·rcases hd.free i j o x r rx h ho hx hr xY with hb|hb|hb
   ·have:=hi.closed.before (j+1) i j x (by omega) hx (hi.closed j x hD hx) hb;rw[hni] at this;cases this
   ·simp only[qQ,Bool.and_eq_true] at hb;obtain⟨⟨⟨_,h1⟩,h2⟩,h3⟩:=hb;rcases hk with hk|hk
    ·exact absurd hk (sU h3 hkx)
    ·exact absurd hkx (sU h2 hk)
   ·exact .inr ⟨h,hb.2⟩
 ·rcases hd.free j i x o rx r hlt hx ho xY hr with hb|hb|hb
  ·exact hi.closed.before (i+1) j i o (by omega) ho he hb
  rotate_left
  ·obtain⟨_,nm,ob,v,w,_,e2,_,_⟩:=hb;rw[e2] at hkx;cases hkx
  ·simp only[qQ,Bool.and_eq_true] at hb;obtain⟨⟨⟨_,h1⟩,h2⟩,h3⟩:=hb;rcases hk with hk|hk
   ·exact absurd hk (sU h1 hkx)
   ·exact absurd hk (sU h2 hkx)
theorem JR {l:List Oper}{s:sG}{n:Nat}(hin:i<=n):fh l recs s (λ_=>true) i=fh l recs s (λj=>decide (j<i)) n:=by
 rw[nA (D:=λj=>decide (j<i)) hin (λj h1 h2=>by simp;omega)];exact wq λj hj=>by simp[hj]
theorem nT.look (hd:rG C ev f ops st recs)(hi:nT C ops st recs G0 w0 a0 D G w a)(hni:D i=false)(ho:ops.toList[i]?=some o)(hr:recs[i]?=some r)(he:∀e∈o.after.toList,Region.binds .any e=true->D e.on=true):
 iN (o.looksAt ops) 0 (fh ops.toList recs (s0 st) (λ_=>true) i).slots=iN (o.looksAt ops) 0 (fh ops.toList recs (s0 st) D ops.size).slots:=by
 have hin:i<=ops.size:=by have:=(List.getElem?_eq_some_iff.1 ho).1;simp at this;omega
 refine JP (by rw[Dd,Dd]) λt ht=> ?_
 rw[JR hin]
 refine yS λj x hj hx JQ=> ?_
 obtain⟨h1,h2⟩:=hi.SV hd hni ho hr he (.inl ht) (λ_ _ _ _=>trivial) j x hj hx JQ
 by_cases hlt:j<i
 ·simp[hlt,h2 hlt ht]
 ·have:D j=false:=by
   cases hD:D j with
   |false=>rfl
   |true=>exact absurd (h1 hD) hlt
  simp[hlt,this]
theorem SX {P:Nat->Prop}:∀n,(∃j,j<n/\P j)->∃j,j<n/\P j/\∀k,j<k->k<n->¬P k
 |0,⟨_,h,_⟩=>by omega
 | n + 1,⟨j,h1,h2⟩=>by
   by_cases hn:P n
   · exact⟨n,by omega,hn,λk h3 h4=>by omega⟩
   · obtain⟨k,h3,h4,h5⟩:=SX n ⟨j,by
       rcases Nat.lt_or_ge j n with h|h
       · exact h
       · have:j=n:=by omega
         subst this;exact absurd h2 hn,h2⟩
     exact⟨k,by omega,h4,λl h6 h7=>by
       rcases Nat.lt_or_ge l n with h|h
       · exact h5 l h6 h
       · have:l=n:=by omega
         subst this;exact hn⟩
theorem nT.ahK (hd:rG C ev f ops st recs)(hi:nT C ops st recs G0 w0 a0 D G w a)(hni:D i=false)(ho:ops.toList[i]?=some o)(hr:recs[i]?=some r)(he:∀e∈o.after.toList,Region.binds .any e=true->D e.on=true):
 (∀k∈r.fp,(fh ops.toList recs (s0 st) (λ_=>true) i).H.get k=(fh ops.toList recs (s0 st) D ops.size).H.get k)\/
 ∃nm ob v,r.fp=[nm]/\r.res=.val v []/\(fh ops.toList recs (s0 st) D ops.size).H.get nm=some ob/\aP C ev f [(nm,ob)] (iN (o.looksAt ops) 0 (fh ops.toList recs (s0 st) (λ_=>true) i).slots) (st.tick+i) o=some (.val v []):=by
 have hin:i<=ops.size:=by have:=(List.getElem?_eq_some_iff.1 ho).1;simp at this;omega
 by_cases hex:∃j,j<ops.size/\(D j=true/\i<j/\∃rj,recs[j]?=some rj/\∃k∈r.fp,k∈rj.res.keys)
 ·obtain⟨ j,hj,⟨hD,hlt,rj,hrj,k,hk,hkj⟩,Hp⟩:=SX ops.size hex;obtain⟨x,hx⟩:∃x,ops.toList[j]?=some x:=⟨_,List.getElem?_eq_getElem (by simpa using hj)⟩;rcases(hi.Mp hd hni ho hr he (.inl hk) j x rj hj hx hrj hkj).1 hD with h|⟨_,nm,ob,v,w,e1,e2,e3,e4⟩
  ·omega
  ·refine .inr ⟨nm,ob,v,e1,e2, ?_,e4⟩;have h1:(fh ops.toList recs (s0 st) D ops.size).H.get nm=(fh ops.toList recs (s0 st) (λt=>decide (t<j+1)&&D t) ops.size).H.get nm:=by
    refine wo λt rt ht hrt hkt=> ?_
    by_cases hlt2:t<j+1
    ·simp[hlt2]
    ·have hDt:D t=false:=by
      cases hDt:D t with
      |false=>rfl
      |true=>exact absurd ⟨hDt,by omega,rt,hrt,nm,by rw[e1];exact List.mem_singleton_self _,hkt⟩ (Hp t (by omega) ht)
     simp[hlt2,hDt]
   have h2:fh ops.toList recs (s0 st) (λt=>decide (t<j+1)&&D t) ops.size=fh ops.toList recs (s0 st) (λt=>decide (t<j+1)&&D t) (j+1):=
    nA (by omega) λt h1 h2=>by
     have:¬t<j+1:=by omega
     simp[this]
   rw[h1,h2];simp only[fh,hx,hrj,hD,Nat.lt_succ_self,decide_true,Bool.and_self,if_true];simp only[sG.after,e3,Heap.dR,List.foldl];rw[Heap.yI,if_pos rfl]
 ·refine .inl λk hk=> ?_
  rw[JR hin];refine wo λj rx hj xY hkx=> ?_
  obtain⟨x,hx⟩:∃x,ops.toList[j]?=some x:=⟨_,List.getElem?_eq_getElem (by simpa using hj)⟩;obtain⟨h1,h2⟩:=hi.Mp hd hni ho hr he (.inl hk) j x rx hj hx xY hkx;by_cases hlt:j<i
  ·simp[hlt,h2 hlt]
  ·have:D j=false:=by
    cases hD:D j with
    |false=>rfl
    | true=>
      rcases h1 hD with h|⟨h,_⟩
      · exact absurd h hlt
      · exact absurd ⟨j,hj,hD,h,rx,xY,k,hk,hkx⟩ hex
   simp[hlt,this]
theorem nT.QC (hd:rG C ev f ops st recs)(hi:nT C ops st recs G0 w0 a0 D G w a)(hni:D i=false)(ho:ops.toList[i]?=some o)(hr:recs[i]?=some r)(he:∀e∈o.after.toList,Region.binds .any e=true->D e.on=true)
 (t:Nat):(fh ops.toList recs (s0 st) (jM D i) ops.size).slots[t]?=((fh ops.toList recs (s0 st) D ops.size).after o r.res).slots[t]?:=by
 have hin:i<ops.size:=by have:=(List.getElem?_eq_some_iff.1 ho).1;simpa using this
 by_cases aaJ:o.dst=some t
 ·have key:∀j x,j<ops.size->ops.toList[j]?=some x->x.dst=some t->D j=true->j<i:=λj x hj hx JQ=>(hi.SV hd hni ho hr he (.inr aaJ) (λ_ _ _ _=>trivial) j x hj hx JQ).1
  have e1:(fh ops.toList recs (s0 st) (jM D i) ops.size).slots[t]?=(fh ops.toList recs (s0 st) (λj=>decide (j<i+1)&&jM D i j) ops.size).slots[t]?:=by
   refine yS λj x hj hx JQ=> ?_
   by_cases hlt:j<i+1
   ·simp[hlt]
   ·have hD:D j=false:=by
     cases hD:D j with
     |false=>rfl
     |true=>exact absurd (key j x hj hx JQ hD) (by omega)
    have:j≠i:=by omega
    simp[hlt,jM,this,hD]
  have e2:(fh ops.toList recs (s0 st) D ops.size).slots[t]?=(fh ops.toList recs (s0 st) (λj=>decide (j<i)&&D j) ops.size).slots[t]?:=by
   refine yS λj x hj hx JQ=> ?_
   by_cases hlt:j<i
   ·simp[hlt]
   ·have hD:D j=false:=by
     cases hD:D j with
     |false=>rfl
     |true=>exact absurd (key j x hj hx JQ hD) (by omega)
    simp[hlt,hD]
  have e3:fh ops.toList recs (s0 st) (λj=>decide (j<i+1)&&jM D i j) ops.size=fh ops.toList recs (s0 st) (λj=>decide (j<i+1)&&jM D i j) (i+1):=
   nA (by omega) λj h1 h2=>by
    have:¬j<i+1:=by omega
    simp[this]
  have e4:fh ops.toList recs (s0 st) (λj=>decide (j<i)&&D j) ops.size=fh ops.toList recs (s0 st) (λj=>decide (j<i)&&D j) i:=
   nA (by omega) λj h1 h2=>by
    have:¬j<i:=by omega
    simp[this]
  have e5:fh ops.toList recs (s0 st) (λj=>decide (j<i+1)&&jM D i j) i=fh ops.toList recs (s0 st) (λj=>decide (j<i)&&D j) i:=
   wq λj hj=>by
    have h1:j<i+1:=by omega
    have h2:j≠i:=by omega
    simp[h1,hj,jM,h2]
  rw[e1,e3];rw[mJ (e2.trans (by rw[e4]))];simp only[fh,ho,hr];rw[e5];simp[jM]
 ·rw[xX aaJ];refine yS λj x hj hx JQ=> ?_
  have:j≠i:=λe=>by
   subst e;rw[ho] at hx;simp at hx;subst hx;exact aaJ JQ
  simp[jM,this]
theorem nT.SY (hd:rG C ev f ops st recs)(hi:nT C ops st recs G0 w0 a0 D G w a)(hni:D i=false)(ho:ops.toList[i]?=some o)(hr:recs[i]?=some r)(he:∀e∈o.after.toList,Region.binds .any e=true->D e.on=true)
 (k:Nm):(fh ops.toList recs (s0 st) (jM D i) ops.size).H.get k=((fh ops.toList recs (s0 st) D ops.size).after o r.res).H.get k:=by
 have hin:i<ops.size:=by have:=(List.getElem?_eq_some_iff.1 ho).1;simpa using this
 by_cases hk:k∈r.res.keys
 ·have key:∀j rx,j<ops.size->recs[j]?=some rx->k∈rx.res.keys->D j=true->j<i:=λj rx hj xY hkx=>by
   obtain⟨x,hx⟩:∃x,ops.toList[j]?=some x:=⟨_,List.getElem?_eq_getElem (by simpa using hj)⟩;intro hD;rcases(hi.Mp hd hni ho hr he (.inr hk) j x rx hj hx xY hkx).1 hD with h|⟨_,nm,ob,v,w,_,e2,_,_⟩
   ·exact h
   ·rw[e2] at hk;cases hk
  have e1:(fh ops.toList recs (s0 st) (jM D i) ops.size).H.get k=(fh ops.toList recs (s0 st) (λj=>decide (j<i+1)&&jM D i j) ops.size).H.get k:=by
   refine wo λj x hj hx JQ=> ?_
   by_cases hlt:j<i+1
   ·simp[hlt]
   ·have hD:D j=false:=by
     cases hD:D j with
     |false=>rfl
     |true=>exact absurd (key j x hj hx JQ hD) (by omega)
    have:j≠i:=by omega
    simp[hlt,jM,this,hD]
  have e2:(fh ops.toList recs (s0 st) D ops.size).H.get k=(fh ops.toList recs (s0 st) (λj=>decide (j<i)&&D j) ops.size).H.get k:=by
   refine wo λj x hj hx JQ=> ?_
   by_cases hlt:j<i
   ·simp[hlt]
   ·have hD:D j=false:=by
     cases hD:D j with
     |false=>rfl
     |true=>exact absurd (key j x hj hx JQ hD) (by omega)
    simp[hlt,hD]
  have e3:fh ops.toList recs (s0 st) (λj=>decide (j<i+1)&&jM D i j) ops.size=fh ops.toList recs (s0 st) (λj=>decide (j<i+1)&&jM D i j) (i+1):=
   nA (by omega) λj h1 h2=>by
    have:¬j<i+1:=by omega
    simp[this]
  have e4:fh ops.toList recs (s0 st) (λj=>decide (j<i)&&D j) ops.size=fh ops.toList recs (s0 st) (λj=>decide (j<i)&&D j) i:=
   nA (by omega) λj h1 h2=>by
    have:¬j<i:=by omega
    simp[this]
  have e5:fh ops.toList recs (s0 st) (λj=>decide (j<i+1)&&jM D i j) i=fh ops.toList recs (s0 st) (λj=>decide (j<i)&&D j) i:=
   wq λj hj=>by
    have h1:j<i+1:=by omega
    have h2:j≠i:=by omega
    simp[h1,hj,jM,h2]
  rw[e1,e3];rw[nS (e2.trans (by rw[e4]))];simp only[fh,ho,hr];rw[e5];simp[jM]
 ·rw[Gj hk];refine wo λj rx hj xY hkx=> ?_
  have:j≠i:=λe=>by
   subst e;rw[hr] at xY;simp at xY;subst xY;exact hk hkx
  simp[jM,this]
theorem nT.next (hd:rG C ev f ops st recs)(hi:nT C ops st recs G0 w0 a0 D G w a)(hni:D i=false)(ho:ops.toList[i]?=some o)(hr:recs[i]?=some r)(he:∀e∈o.after.toList,Region.binds .any e=true->D e.on=true)
 (ac7:∀v u l,r.res≠ .panic v u l){G':Gh}{w':World}{a':Act}(hs:dw G w G' w')(hde:a'.defers=a.defers)(hg:jJ C G')
 (Hl:SR G' ((fh ops.toList recs (s0 st) D ops.size).after o r.res).slots a')(hh:HR G' w' ((fh ops.toList recs (s0 st) D ops.size).after o r.res).H)
 (hfr:∀p,G'.dom (.loc p)->G.dom (.loc p)\/∃q,p=(st.tick+i)::q):nT C ops st recs G0 w0 a0 (jM D i) G' w' a':=by
 have hin:i<ops.size:=by have:=(List.getElem?_eq_some_iff.1 ho).1;simpa using this
 refine⟨hi.step.comp hs,hg,hde.trans hi.defers, ?_,λk ob hk=>hh k ob (by rw[← hi.SY hd hni ho hr he];exact hk),λp hp=> ?_,λj x hD hx e he' hb=> ?_,λj rx v u l hD xY=> ?_⟩
 ·have:(fh ops.toList recs (s0 st) (jM D i) ops.size).slots=((fh ops.toList recs (s0 st) D ops.size).after o r.res).slots:=List.ext_getElem? (hi.QC hd hni ho hr he);rw[this];exact Hl
 ·rcases hfr p hp with h|⟨q,e⟩
  ·obtain⟨n,q,e,h1⟩:=hi.fresh p h;refine⟨n,q,e,h1.imp id λ⟨j,h2,h3,h4⟩=>⟨j, ?_,h3,h4⟩⟩;simp only[jM];split<;>simp_all
  ·exact⟨_,q,e,.inr ⟨i,by simp[jM],hin,rfl⟩⟩
 ·by_cases e1:e.on=i
  ·simp[jM,e1]
  ·simp only[jM,if_neg e1];by_cases e2:j=i
   ·subst e2;rw[ho] at hx;simp at hx;subst hx;exact he e he' hb
   ·simp only[jM,if_neg e2] at hD;exact hi.closed j x hD hx e he' hb
 ·by_cases e2:j=i
  ·subst e2;rw[hr] at xY;simp at xY;subst xY;exact ac7 v u l
  ·simp only[jM,if_neg e2] at hD;exact hi.calm j rx v u l hD xY
end step
theorem SZ {bs:List Nat}{t0 i:Nat}{o:Oper}{s:sG}{sH:Option Nat}{r:Rec}(h:Sd C ev f ops bs t0 i o s sH=some r):
 (∃j,sH=some j/\eU bs j i=true/\r.res=.wg)\/
 (dF ops (iN (o.looksAt ops) 0 s.slots) o=some false/\r.res=.unwanted)\/
 (dF ops (iN (o.looksAt ops) 0 s.slots) o=some true/\∃v u,aP C ev f (lu s.H r.fp) (iN (o.looksAt ops) 0 s.slots) (t0+i) o=some (.val v u)/\r.res=.val v u)\/
 (dF ops (iN (o.looksAt ops) 0 s.slots) o=some true/\∃v u l,aP C ev f (lu s.H r.fp) (iN (o.looksAt ops) 0 s.slots) (t0+i) o=some (.panic v u l)/\r.res=.panic v u l/\sH=none):=by
 unfold Sd at h
 split at h
 ·rename_i hp;simp at h;subst h;split at hp
  ·rename_i j;exact .inl ⟨j,rfl,hp,rfl⟩
  ·simp at hp
 ·split at h
  ·simp at h
  ·rename_i hw;simp at h;subst h;exact .inr (.inl ⟨hw,rfl⟩)
  ·rename_i hw;split at h
   ·simp at h
   ·rename_i fp OD;split at h
    ·simp at h
    ·rename_i v u hx;simp at h;subst h;exact .inr (.inr (.inl ⟨hw,v,u,hx,rfl⟩))
    ·rename_i v u l hx;split at h
     ·simp at h
     ·simp at h;subst h;exact .inr (.inr (.inr ⟨hw,v,u,l,hx,rfl,rfl⟩))
theorem xg {H:Heap}{slots:List TV}{t:Nat}{o:Oper}{r:pL}(h:aP C ev f H slots t o=some r):∀cs b,o.op≠ .select cs b:=by
 intro cs b e;unfold aP at h;rw[e] at h;simp[evalOp,e] at h
theorem Gm:∀(l:List Oper) (s:List TV),(Bi l s).length=s.length
 | [],_=>rfl
 |o::r,s=>by
  show(Bi r (cZ s o.dst .any)).length=_
  rw[Gm r]
  cases o.dst with
  |none=>rfl
  |some d=>simp[cZ,mZ]
theorem JS:∀{l:List Oper} {s:List TV} {t:Nat} {c:TV},(Bi l s)[t]?=some c->c=.any\/(s[t]?=some c/\∀o∈l,o.dst≠some t)
 | [],_,_,_,h=>.inr ⟨h,λ_ h=>by cases h⟩
 | o ::r,s,t,c,h=>by
   rcases JS (l:=r) (s:=cZ s o.dst .any) h with e|⟨e,hr⟩
   · exact .inl e
   · by_cases hd:o.dst=some t
     · rw[hd] at e
       simp only[cZ,mZ,List.getElem?_set] at e
       split at e
       · split at e
         · cases e;exact .inl rfl
         · cases e
       · rename_i hne;exact absurd trivial hne
     · rw[Da hd] at e
       exact .inr ⟨e,λx hx=>by
         rcases List.mem_cons.1 hx with rfl|hx
         · exact hd
         · exact hr x hx⟩
theorem wu {l:List Oper}{recs:List Rec}{s0:sG}{D:Nat->Bool}{t:Nat}(h:∀o∈l,o.dst≠some t):∀n,(fh l recs s0 D n).slots[t]?=s0.slots[t]?
 |0=>rfl
 | n +1=>by
   simp only[fh]
   split
   · rename_i o r ho hr
     split
     · rw[xX (h o (List.mem_of_getElem? ho))];exact wu h n
     · exact wu h n
   · exact wu h n
theorem QD (s:sG)(o:Oper)(r:BU):(s.after o r).slots.length=s.slots.length:=by
 cases r with
 |wg=>rfl
 |unwanted=>simp only[sG.after];cases o.dst<;>simp[cZ,mZ]
 |val v u=>simp only[sG.after];cases o.dst<;>simp[cZ,mZ]
 |panic v u l=>rfl
theorem Cf {l:List Oper}{recs:List Rec}{s0:sG}{D:Nat->Bool}:∀n,(fh l recs s0 D n).slots.length=s0.slots.length
 |0=>rfl
 | n +1=>by
   simp only[fh]
   split
   · split
     · rw[QD];exact Cf n
     · exact Cf n
   · exact Cf n
theorem S0 {G':Gh}{a:Act}{D:Nat->Bool}{n:Nat}(h:SR G' (fh ops.toList recs (s0 st) D n).slots a):SR G' (Bi ops.toList st.slots) a:=by
 have hl:(fh ops.toList recs (s0 st) D n).slots.length=st.slots.length:=Cf n;refine⟨by rw[Gm,← hl];exact h.1,λt c v hc hv=> ?_⟩;rcases JS hc with rfl|⟨e,hn⟩
 ·exact .any _
 ·exact h.2 t c v (by rw[wu hn];exact e) hv
theorem De (aC:aF C ev)(hd:rG C ev f ops st recs){G0:Gh}{w0:World}{a0:Act}{e:aI}{st':St}{Q:Exit->Act->World->Prop}
 (hQ:∀ex a' w',Good C G0 w0 a0 e st' ex a' w'->Q ex a' w')
 (aaK:∀j v u l,gX 0 recs=some (j,v,u,l)->e=.panic v/\st'={slots:=Bi ops.toList st.slots,H:=((fh ops.toList recs (s0 st) (λ_=>true) ops.size).H.sL (l++xR ((jt ops.toList []).getD j 0) 0 recs)).dR u,tick:=st.tick+ops.size})
 {listed:Array Bool}{G:Gh}{w:World}{a:Act}(hsz:listed.size=ops.size)(hi:nT C ops st recs G0 w0 a0 (λj=>listed.getD j false) G w a){i:Nat}(hmem:i∈Region.ready .any ops listed){K:Act->World->Prop}
 (hnext:∀{G':Gh} {w':World} {a':Act},nT C ops st recs G0 w0 a0 (jM (λj=>listed.getD j false) i) G' w' a'->K a' w'):wpOp C.P ops Q i K a w:=by
 have hat:∀(i:Nat) (o:Oper),ops[i]?=some o↔ops.toList[i]?=some o:=λi o=>by simp
 rw[mem_ready] at hmem
 obtain⟨Mq,o,ho',aaL⟩:=hmem
 have hin:i<ops.size:=(Array.getElem?_eq_some_iff.1 ho').1
 have hni:listed.getD i false=false:=by
  rw[Array.getD_eq_getD_getElem?] at Mq ⊢;rw[Array.getElem?_eq_getElem (by omega)] at Mq ⊢;exact Mq
 have ho:=(hat i o).1 ho'
 have he:∀e∈o.after.toList,Region.binds .any e=true->listed.getD e.on false=true:=λe h1 h2=>aaL e (by simpa using h1) h2
 obtain⟨r,hr,hop⟩:=hd.at' i o ho
 have ac8:=hi.look hd hni ho hr he
 have Gn:=Xu hi.slots (o.looksAt ops)
 rw[← ac8] at Gn
 have ac9:=hi.ahK hd hni ho hr he
 have S1:(∀k∈r.fp,(fh ops.toList recs (s0 st) (λ_=>true) i).H.get k=(fh ops.toList recs (s0 st) (λj=>listed.getD j false) ops.size).H.get k)->HR G w (lu (fh ops.toList recs (s0 st) (λ_=>true) i).H r.fp):=by
  intro hs k ob hk;obtain⟨h1,h2⟩:=QB hk;rw[hs k h1] at h2;exact hi.heap k ob h2
 have hfresh:∀p,¬G.dom (.loc ((st.tick+i)::p)):=by
  intro p ql;obtain⟨n,q,e1,h⟩:=hi.fresh _ ql;simp at e1;rcases h with h|⟨j,h1,h2,h3⟩
  ·omega
  ·have:j=i:=by omega
   subst this;rw[hni] at h1;cases h1
 unfold wpOp
 rw[ho']
 simp only
 rcases SZ hop with ⟨j,hp,hb,hres⟩|⟨hw,hres⟩|⟨hw,v,u,hx,hres⟩|⟨hw,v,u,l,hx,hres,hp⟩
 ·obtain⟨_,rj,vj,uj,lj,h1,h2⟩:=Qy hp;have hD:=hi.closed.before (i+1) j i o (by omega) ho he hb;exact absurd h2 (hi.calm j rj vj uj lj hD h1)
 ·have:=iW hw Gn;rw[u6] at this;rw[this];refine hnext (hi.next hd hni ho hr he (by rw[hres];simp) (Step.refl hi.step.wf _ _) (put_defers _ _ _) hi.iL ?_ ?_ (λp h=>.inl h))
  ·rw[hres];exact hi.slots.put o.dst (lG G)
  ·rw[hres];exact hi.heap
 ·have:=iW hw Gn;rw[u6] at this;rw[this];refine .inl ?_;obtain⟨Hx,hx,hheap⟩:∃Hx,aP C ev f Hx (iN (o.looksAt ops) 0 (fh ops.toList recs (s0 st) (λ_=>true) i).slots) (st.tick+i) o=some (.val v u)/\HR G w Hx:=by
   rcases ac9 with hs|⟨nm,ob,v2,_,e2,e3,e4⟩
   ·exact⟨_,hx,S1 hs⟩
   ·rw[hres] at e2;cases e2;refine⟨_,e4,λk ob2 hk=> ?_⟩;simp only[Heap.get] at hk;split at hk
    ·rename_i e5;cases hk;subst e5;exact hi.heap _ _ e3
    ·cases hk
  have hex:=rE aC hx hi.step.wf hi.iL Gn hheap hfresh;unfold j7 at hex;rw[Gl (xg hx)] at hex;refine j7.wp (R:=ny (st.tick+i) G w (.val v u)) hex ny.no (λx w' hR=> ?_) (λch w' hR=> ?_)
  ·obtain⟨x',G',e1,hs,hu,hv⟩:=hR;simp at e1;subst e1;refine hnext (hi.next hd hni ho hr he (by rw[hres];simp) hs.any (put_defers _ _ _) (hi.iL.mono hs.le) ?_ ?_ (λp h=> ?_))
   ·rw[hres];exact(hi.slots.mono hs.le).put o.dst hv
   ·rw[hres];exact HR.dR hs hi.step.wf hi.heap hu (λk _ hk=>hk)
   ·rcases hs.news _ h with h|⟨q,e2⟩
    ·exact .inl h
    ·simp at e2;exact .inr ⟨q,e2⟩
  ·obtain⟨x',G',e1,_⟩:=hR;simp at e1
 ·have:=  iW hw Gn;rw[u6] at this;rw[this];refine .inl ?_;have hheap:HR G w (lu (fh ops.toList recs (s0 st) (λ_=>true) i).H r.fp):=by
   rcases ac9 with hs|⟨nm,ob,v2,_,e2,_,_⟩
   ·exact S1 hs
   ·rw[hres] at e2;cases e2
  have hex:=rE aC hx hi.step.wf hi.iL Gn hheap hfresh;unfold j7 at hex;rw[Gl (xg hx)] at hex;refine j7.wp (R:=ny (st.tick+i) G w (.panic v u l)) hex ny.no (λx w' hR=> ?_) (λch w' hR=> ?_)
  ·obtain⟨x',G',e1,_⟩:=hR;simp at e1
  ·obtain⟨x',G',e1,hs,hu,hv⟩:=hR;simp at e1;subst e1;have hpa:gX 0 recs=some (i,v,u,l):=by
    cases hpa:gX 0 recs with
    |none=>exact absurd hres (HE hpa r (List.mem_of_getElem? hr) v u l)
    | some q=>
      obtain⟨j,v',u',l'⟩:=q
      obtain⟨k,rk,h1,h2,h3⟩:=yT hpa
      rcases Nat.lt_trichotomy k i with h|h|h
      · have:=Br h h2 h3
        rw[hp] at this;simp at this
      · subst h
        rw[hr] at h2;simp at h2;subst h2
        rw[hres] at h3
        simp at h3
        obtain⟨rfl,rfl,rfl⟩:=h3
        simp at h1;subst h1;rfl
      · obtain⟨ok,hok⟩:∃ok,ops.toList[k]?=some ok:=⟨_,List.getElem?_eq_getElem (by have:=(List.getElem?_eq_some_iff.1 h2).1;rw[hd.len] at this;simpa using this)⟩
        obtain⟨rk',hrk,ahL⟩:=hd.at' k ok hok
        rw[h2] at hrk;simp at hrk;subst hrk
        have hsome:=Br h hr hres
        rcases SZ ahL with ⟨_,_,_,q⟩|⟨_,q⟩|⟨_,_,_,_,q⟩|⟨_,_,_,_,_,_,q⟩
        · rw[h3] at q;simp at q
        · rw[h3] at q;simp at q
        · rw[h3] at q;simp at q
        · rw[q] at hsome;simp at hsome
   obtain⟨rfl,rfl⟩:=aaK i v u l hpa;refine hQ _ _ _ ⟨G',hi.step.comp hs.any,hi.defers,x',rfl,hv, ?_,S0 (hi.slots.mono hs.le),st.tick+ops.size,λp hp=> ?_⟩;rotate_left
   ·have hsz:i<ops.size:=by have:=(List.getElem?_eq_some_iff.1 ho).1;simpa using this
    rcases hs.news _ hp with d|⟨q,e⟩
    ·obtain⟨n,q,e1,h|⟨j,_,hj,h⟩⟩:=hi.fresh p d
     ·exact⟨n,q,e1,by omega⟩
     ·exact⟨n,q,e1,by omega⟩
    ·exact⟨_,q,Nm.loc.inj e,by omega⟩
   intro k ob hk;rcases Heap.q6 _ u k ob hk with h1|⟨h1,hn⟩
   ·exact hu k ob h1
   ·rw[ Heap.uQ] at h1;split at h1
    ·simp at h1
    rename_i hl;simp only[List.mem_append,not_or] at hl;have hsame:(fh ops.toList recs (s0 st) (λ_=>true) ops.size).H.get k=(fh ops.toList recs (s0 st) (λj=>listed.getD j false) ops.size).H.get k:=by
     refine wo λj rj hj hrj hkj=> ?_
     have hji:j≠i:=λe1=>by
      subst e1;rw[hr] at hrj;simp at hrj;subst hrj;rw[hres] at hkj;simp only[BU.keys,List.mem_append] at hkj;exact hkj.elim hn hl.1
     have:=Mm hl.2 j rj hrj hkj;rw[Nat.zero_add] at this;exact(hi.closed.before (i+1) j i o (by omega) ho he this).symm
    rw[hsame] at h1;obtain⟨d,hob⟩:=hi.heap k ob h1;exact⟨hs.le.dom _ d,hs.keeps hi.step.wf d (λhx=>by rcases List.mem_append.1 hx with hx|hx;exact hn hx;exact hl.1 hx) hob⟩
theorem JT (aC:aF C ev)(hd:rG C ev f ops st recs){G0:Gh}{w0:World}{a0:Act}(hst:uI C G0 w0 st a0){e:aI}{st':St}{Q:Exit->Act->World->Prop}
 (hQ:∀ex a' w',Good C G0 w0 a0 e st' ex a' w'->Q ex a' w')
 (hend:gX 0 recs=none->e=.normal/\st'={slots:=(fh ops.toList recs (s0 st) (λ_=>true) ops.size).slots,H:=(fh ops.toList recs (s0 st) (λ_=>true) ops.size).H,tick:=st.tick+ops.size})
 (aaK:∀j v u l,gX 0 recs=some (j,v,u,l)->e=.panic v/\st'={slots:=Bi ops.toList st.slots,H:=((fh ops.toList recs (s0 st) (λ_=>true) ops.size).H.sL (l++xR ((jt ops.toList []).getD j 0) 0 recs)).dR u,tick:=st.tick+ops.size}):
 ∀(fuel:Nat) (listed:Array Bool) (G:Gh) (w:World) (a:Act),listed.size=ops.size->listed.toList.countP (· ==false)<=fuel->nT C ops st recs G0 w0 a0 (λj=>listed.getD j false) G w a->wpAny C.P .any ops Q fuel listed a w:=by
 have hat:∀(i:Nat) (o:Oper),ops[i]?=some o↔ops.toList[i]?=some o:=λi o=>by simp
 have hall :∀(listed:Array Bool),listed.size=ops.size->Region.ready .any ops listed=[]->∀j,j<ops.size->listed.getD j false=true:=by
  intro listed hsz hr j;induction j using Nat.strongRecOn with
  | _ j ih=>
    intro hj
    cases hD:listed.getD j false with
    |true=>rfl
    | false=>
      have:j∈Region.ready .any ops listed:=by
        rw[mem_ready]
        refine⟨?_,ops[j],Array.getElem?_eq_getElem hj,λe he hb=> ?_⟩
        · rw[Array.getD_eq_getD_getElem?] at hD ⊢
          rw[Array.getElem?_eq_getElem (by omega)] at hD ⊢
          exact hD
        · have:=Qx hd.back j ops[j] (by simp[hj]) e (by simpa using he) hb
          exact ih e.on (by omega) (by omega)
      rw[hr] at this
      simp at this
 have hdone:∀(listed:Array Bool) (G:Gh) (w:World) (a:Act),listed.size=ops.size->nT C ops st recs G0 w0 a0 (λj=>listed.getD j false) G w a->Region.ready .any ops listed=[]->Q .normal a w:=by
  intro listed G w a hsz hi hr;have hl:=hall listed hsz hr;cases hp:gX 0 recs with
  | some q=>
    obtain⟨j,v,u,l⟩:=q
    obtain⟨k,r,h1,h2,h3⟩:=yT hp
    have hk:k<ops.size:=by rw[← hd.len];exact(List.getElem?_eq_some_iff.1 h2).1
    exact absurd h3 (hi.calm k r v u l (hl k hk) h2)
  | none=>
    obtain⟨rfl,rfl⟩:=hend hp
    have hsame:fh ops.toList recs (s0 st) (λj=>listed.getD j false) ops.size=fh ops.toList recs (s0 st) (λ_=>true) ops.size:=wq λj hj=>hl j hj
    refine hQ _ _ _ ⟨G,hi.step,hi.defers,rfl,hi.step.wf,hi.iL, ?_, ?_,λp hp=> ?_⟩
    · have:=hi.slots;rw[hsame] at this;exact this
    · have:=hi.heap;rw[hsame] at this;exact this
    · obtain⟨n,q,e,h⟩:=hi.fresh p hp
      refine⟨n,q,e, ?_⟩
      rcases h with h|⟨j,_,h,rfl⟩
      · simp only;omega
      · simp only;omega
 intro fuel
 induction fuel with
 | zero=>
   intro listed G w a hsz hc hi
   have hcz:listed.toList.countP (· ==false)=0:=by omega
   have hl:∀j,j<ops.size->listed.getD j true=true:=by
     intro j hj
     rw[List.countP_eq_zero] at hcz
     have:=hcz listed[j] (by simp)
     rw[Array.getD_eq_getD_getElem?,Array.getElem?_eq_getElem (by omega)]
     simpa using this
   have hr:Region.ready .any ops listed=[]:=by
     refine List.eq_nil_iff_forall_not_mem.2 λj hj=> ?_
     rw[mem_ready] at hj
     obtain⟨h1,o,h2,_⟩:=hj
     have:=hl j (Array.getElem?_eq_some_iff.1 h2).1
     rw[this] at h1;cases h1
   exact⟨hr,hdone listed G w a hsz hi hr⟩
 | succ fuel ih=>
   intro listed G w a hsz hc hi
   refine⟨hdone listed G w a hsz hi,λi hmem=> ?_⟩
   have hin:i<ops.size:=by
     rw[mem_ready] at hmem
     obtain⟨_,o,ho',_⟩:=hmem
     exact(Array.getElem?_eq_some_iff.1 ho').1
   have hni:listed.getD i false=false:=by
     rw[mem_ready] at hmem
     have Mq:=hmem.1
     rw[Array.getD_eq_getD_getElem?] at Mq ⊢
     rw[Array.getElem?_eq_getElem (by omega)] at Mq ⊢
     exact Mq
   have Xv:(listed.setIfInBounds i true).toList.countP (· ==false)<=fuel:=by
     rw[Array.toList_setIfInBounds,List.countP_set (by simp;omega)]
     have h1:(listed.toList[i]'(by simp;omega)==false)=true:=by
       rw[Array.getD_eq_getD_getElem?,Array.getElem?_eq_getElem (by omega)] at hni
       simpa using hni
     rw[if_pos h1]
     have h2:(if((true:Bool)==false)=true then 1 else 0)=0:=rfl
     rw[h2]
     omega
   have ada:(λj=>(listed.setIfInBounds i true).getD j false)=jM (λj=>listed.getD j false) i:=by
     funext j
     simp only[jM]
     by_cases e1:j=i
     · subst e1
       rw[Array.getD_eq_getD_getElem?,Array.getElem?_setIfInBounds_self_of_lt (by omega)]
       simp
     · rw[if_neg e1,getD_set_ne false (λh=>e1 h.symm)]
   have hnext:∀{G':Gh} {w':World} {a':Act},nT C ops st recs G0 w0 a0 (jM (λj=>listed.getD j false) i) G' w' a'->wpAny C.P .any ops Q fuel (listed.setIfInBounds i true) a' w':=by
     intro G' w' a' hi'
     rw[← ada] at hi'
     exact ih _ G' w' a' (by simpa using hsz) Xv hi'
   exact De aC hd hQ aaK hsz hi hmem hnext
noncomputable def QE (ops:Array Oper)(st:St)(recs:List Rec):aI×St:=
 let s:=uf ops.toList recs {slots:=st.slots,H:=st.H}
 match gX 0 recs with
 |none=>(.normal,{slots:=s.slots,H:=s.H,tick:=st.tick+ops.size})
 |some (j,v,u,lost)=>(.panic v,{slots:=Bi ops.toList st.slots,H:=(s.H.sL (lost++xR ((jt ops.toList []).getD j 0) 0 recs)).dR u,tick:=st.tick+ops.size})
theorem xZ (hm:C.P.prog.follows .mixedOrders=true)(aC:aF C ev){e:aI}{st':St}(Gp:xQ C ev f ops (jt ops.toList []) st.tick 0 ops.toList {slots:=st.slots,H:=st.H} none=some recs)
 (hfree:∀(i j:Nat) (x y:Oper) (rx ry:Rec),i<j->ops.toList[i]?=some x->ops.toList[j]?=some y->recs[i]?=some rx->recs[j]?=some ry->eU (jt ops.toList []) i j=true\/qQ ops x y rx ry=true\/(jH ops x y=true/\SS C ev f ops st recs i x rx ry))
 (adb:pM 0 ops.toList=true)(h:QE ops st recs=(e,st')){G:Gh}{w:World}{a:Act}(hst:uI C G w st a){id:Nat}
 {Q:Exit->Act->World->Prop}(hQ:∀ex a' w',Good C G w a e st' ex a' w'->Q ex a' w'):(Code.region id ops true).wp C.P Q a w:=by
 obtain⟨h1,h2⟩:=OB (l:=ops.toList) (recs:=recs) (s0:=s0 st) (D:=λ_=>true) (λ_=>rfl) (i:=0) Gp (by simp) (by simp)
 have hd:rG C ev f ops st recs:=⟨by simpa using h1,λj o ho=>by have:=h2 j o ho;simpa using this,hfree,adb⟩
 have Df:uf ops.toList recs {slots:=st.slots,H:=st.H}=fh ops.toList recs (s0 st) (λ_=>true) ops.size:=by
  have:=Gk (l:=ops.toList) (recs:=recs) (s0:=s0 st) (D:=λ_=>true) (λ_=>rfl) (os:=ops.toList) (rs:=recs) (i:=0) h1.symm (by simp) (by simp);simpa [fh] using this
 refine wp_region_any hm ?_
 have hw':World:={w with drawn:=w.drawn+1}
 have hstep:dw G w G {w with drawn:=w.drawn+1}:=⟨.refl G,⟨hst.wf.F,hst.wf.inj,hst.wf.lt⟩,λ_ _ _=>⟨rfl,rfl⟩,λ_ _ _=>⟨rfl,λ_=>rfl⟩,λ_ h=>.inl h,λk h=>.inl ⟨k,h,rfl,.inl rfl⟩,Nat.le_refl _,rfl,rfl,rfl⟩
 have iX:uI C G {w with drawn:=w.drawn+1} st a:=⟨hstep.wf,hst.iL,hst.slots,hst.heap,hst.fresh⟩
 refine JT aC hd iX (Q:=Q) (e:=e) (st':=st') (λex a' w' hg=>hQ ex a' w' (Good.comp hstep rfl hg)) (λhp=> ?_) (λj v u l hp=> ?_) ops.size _ G _ a (by simp) ?_ ?_
 ·simp only[QE,hp,Df,Prod.mk.injEq] at h;exact⟨h.1.symm,h.2.symm⟩
 ·simp only[QE,hp,Df,Prod.mk.injEq] at h;exact⟨h.1.symm,h.2.symm⟩
 ·simp[List.countP_replicate]
 ·have hnone:fh ops.toList recs (s0 st) (λj=>(Array.replicate ops.size false).getD j false) ops.size=s0 st:=by
   rw[nA (m:=0) (by omega) (λj _ hj=>by simp[Array.getD_eq_getD_getElem?,Array.getElem?_replicate,hj])];rfl
  refine⟨Step.refl iX.wf _ _,iX.iL,rfl,by rw[hnone];exact iX.slots,by rw[hnone];exact iX.heap,λp hp=> ?_,λj x hD=> ?_,λj r v u l hD=> ?_⟩
  ·obtain⟨n,q,e1,h3⟩:=iX.fresh p hp;exact⟨n,q,e1,.inl h3⟩
  ·exfalso;simp only[Array.getD_eq_getD_getElem?,Array.getElem?_replicate] at hD;split at hD<;>simp at hD
  ·exfalso;simp only[Array.getD_eq_getD_getElem?,Array.getElem?_replicate] at hD;split at hD<;>simp at hD
theorem Dg (hm:C.P.prog.follows .mixedOrders=true)(aC:aF C ev){e:aI}{st':St}(h:wh C ev f ops st=some (e,st')){G:Gh}{w:World}{a:Act}(hst:uI C G w st a){id:Nat}
 {Q:Exit->Act->World->Prop}(hQ:∀ex a' w',Good C G w a e st' ex a' w'->Q ex a' w'):(Code.region id ops true).wp C.P Q a w:=by
 unfold wh at h
 simp only at h
 split at h
 ·simp at h
 rename_i recs Gp
 split at h
 case isFalse=>simp at h
 rename_i hfree
 refine xZ hm aC Gp (λi j x y rx ry hij hx hy xY SU=>(HG hfree.1 hij hx hy xY SU).imp (λh=>h) .inl) hfree.2 ?_ hst hQ
 unfold QE
 simp only
 split at h
 ·rename_i hp;cases h;simp only[hp]
 ·rename_i hp;cases h;simp only[hp]
end
end Go.Abs
namespace Go.Abs
open Go
section
variable {C:cE}{ev:aT}{f:FuncId}
theorem Good.pS {G:Gh}{w:World}{a:Act}{st':St}{ex:Exit}{a':Act}{w':World}(h:Good C G w a .normal st' ex a' w'):ex=.normal/\a'.defers=a.defers/\∃G',dw G w G' w'/\uI C G' w' st' a':=by
 obtain⟨G',h1,h2,h3,h4⟩:=h;exact⟨h3,h2,G',h1,h4⟩
theorem Good.gx {G:Gh}{w:World}{a:Act}{e:aI}{st':St}{ex:Exit}{a':Act}{w':World}(h:Good C G w a e st' ex a' w')(he:e≠ .normal):ex≠ .normal:=by
 obtain⟨G',h1,h2,h3⟩:=h;cases e with
 |normal=>exact absurd rfl he
 |exit id=>intro e;simp only at h3;rw[e] at h3;simp at h3
 |ret=>intro e;simp only at h3;rw[e] at h3;simp at h3
 |panic v=>intro e;obtain⟨x,h4,_⟩:=h3;rw[e] at h4;simp at h4
theorem gy {next:Act->World->Prop}{Q:Exit->Act->World->Prop}{ex:Exit}{a:Act}{w:World}(h:ex≠ .normal)(hq:Q ex a w):Exit.then next Q ex a w:=by
 cases ex<;>first|exact hq|exact absurd rfl h
def S2 (C:cE)(c:Code)(body:St->Option (aI×St)):Prop:=∀st e st',body st=some (e,st')->∀(G:Gh) (w:World) (a:Act),uI C G w st a->c.wp C.P (Good C G w a e st') a w
theorem S3 {c:Code}{body:St->Option (aI×St)}(h:S2 C c body):∀(n:Nat) (st:St) (e:aI) (st':St),CG body n st=some (e,st')->∀(G:Gh) (w:World) (a:Act),uI C G w st a->
 ∀Q:Exit->Act->World->Prop,(∀ex a' w',Good C G w a e st' ex a' w'->Q ex a' w')->Code.rounds C.P c Q n a w:=by
 intro n
 induction n with
 |zero=>intro st e st' hi;simp[CG] at hi
 | succ n ih=>
   intro st e st' hi G w a hst Q hQ
   simp only[CG] at hi
   rw[rounds_succ]
   split at hi
   · rename_i st1 hb
     refine wp_mono (h st _ _ hb G w a hst) λex a1 w1 hg=> ?_
     obtain⟨rfl,hd,G1,hs,jN⟩:=hg.pS
     exact ih st1 e st' hi G1 w1 a1 jN Q λex a' w' hg'=>hQ _ _ _ (Good.comp hs hd hg')
   · rename_i hne
     have he:e≠ .normal:=λe1=>by subst e1;exact hne st' hi
     refine wp_mono (h st _ _ hi G w a hst) λex a1 w1 hg=>gy (hg.gx he) (hQ _ _ _ hg)
theorem kY (hm:C.P.prog.follows .mixedOrders=true)(aC:aF C ev){fuel:Nat}:∀(c:Code),S2 C c (evalCode C ev f fuel c):=by
 intro c;induction c with
 | skip=>
   intro st e st' h G w a hst
   simp[evalCode] at h
   obtain⟨rfl,rfl⟩:=h
   exact wp_skip ⟨G,Step.refl hst.wf _ _,rfl,rfl,hst⟩
 | label l=>
   intro st e st' h G w a hst
   simp[evalCode] at h
   obtain⟨rfl,rfl⟩:=h
   exact wp_label ⟨G,Step.refl hst.wf _ _,rfl,rfl,hst⟩
 | region id ops draw=>
   intro st e st' h G w a hst
   simp only[evalCode] at h
   cases draw with
   | true=>
     rw[if_pos rfl] at h
     exact Dg hm aC h hst λ_ _ _ hg=>hg
   | false=>
     simp only[Bool.false_eq_true,if_false] at h
     exact wp_region_list (Xs aC _ _ _ _ h G w a hst _ λ_ _ _ hg=>hg)
 | seq x y Xw ihy=>
   intro st e st' h G w a hst
   simp only[evalCode] at h
   refine wp_seq ?_
   split at h
   · rename_i st1 hb
     refine wp_mono (Xw st _ _ hb G w a hst) λex a1 w1 hg=> ?_
     obtain⟨rfl,hd,G1,hs,jN⟩:=hg.pS
     exact wp_mono (ihy st1 _ _ h G1 w1 a1 jN) λex a' w' hg'=>Good.comp hs hd hg'
   · rename_i hne
     have he:e≠ .normal:=λe1=>by subst e1;exact hne st' h
     exact wp_mono (Xw st _ _ h G w a hst) λex a1 w1 hg=>gy (hg.gx he) hg
 | cond c x y Xw ihy=>
   intro st e st' h G w a hst
   simp only[evalCode] at h
   split at h
   · rename_i hc
     exact wp_cond_true (bL hst.slots hst.iL hc).bool (Xw st _ _ h G w a hst)
   · rename_i hc
     exact wp_cond_false (bL hst.slots hst.iL hc).bool (ihy st _ _ h G w a hst)
   · simp at h
 | block id x Xw=>
   intro st e st' h G w a hst
   simp only[evalCode] at h
   refine wp_block ?_
   split at h
   · rename_i id' st1 hb
     refine wp_mono (Xw st _ _ hb G w a hst) λex a1 w1 hg=> ?_
     obtain⟨G1,hs,hd,rfl,jN⟩:=hg
     split at h
     · rename_i e1
       simp at h
       obtain⟨rfl,rfl⟩:=h
       simp only[Exit.inBlock,e1,if_true]
       exact⟨G1,hs,hd,rfl,jN⟩
     · rename_i e1
       simp at h
       obtain⟨rfl,rfl⟩:=h
       simp only[Exit.inBlock,e1,if_false]
       exact⟨G1,hs,hd,rfl,jN⟩
   · rename_i hne
     refine wp_mono (Xw st _ _ h G w a hst) λex a1 w1 hg=> ?_
     cases e with
     |normal=>obtain⟨G1,hs,hd,rfl,jN⟩:=hg;exact⟨G1,hs,hd,rfl,jN⟩
     |exit id'=>exact absurd h (hne id' st')
     |ret=>obtain⟨G1,hs,hd,rfl,jN⟩:=hg;exact⟨G1,hs,hd,rfl,jN⟩
     |panic v=>obtain⟨G1,hs,hd,x,rfl,jN⟩:=hg;exact⟨G1,hs,hd,x,rfl,jN⟩
 | loop x Xw=>
   intro st e st' h G w a hst
   simp only[evalCode] at h
   exact wp_loop_rounds fuel (S3 Xw fuel st e st' h G w a hst _ λ_ _ _ hg=>hg)
 | exit id=>
   intro st e st' h G w a hst
   simp[evalCode] at h
   obtain⟨rfl,rfl⟩:=h
   exact wp_exit ⟨G,Step.refl hst.wf _ _,rfl,rfl,hst⟩
 | ret=>
   intro st e st' h G w a hst
   simp[evalCode] at h
   obtain⟨rfl,rfl⟩:=h
   exact wp_ret ⟨G,Step.refl hst.wf _ _,rfl,rfl,hst⟩
 |_=>intro st e st' h;simp[evalCode] at h
end
end Go.Abs
namespace Go.Abs
open Go
section
variable {C:cE}{ev:aT}{f:FuncId}{G:Gh}{w:World}
def HH (tmps:Array Value):ResultVar->Sem Value
 |.tmp t=>pure (tmps.getD t undef)
 |.cell x t=>do loadVar t (← asAddr (tmps.getD x undef))
theorem Mr (fn:Func)(tmps:Array Value):results fn tmps=(do let vs ← fn.results.mapM (HH tmps);pure (if h:vs.size=1 then vs[0] else .tuple vs):Sem Value):=by
 unfold results;exact congrArg (λg:ResultVar->Sem Value=>(do let vs ← fn.results.mapM g;pure (if h:vs.size=1 then vs[0] else .tuple vs):Sem Value)) (funext λx=>by cases x<;>rfl)
theorem Ms {st:St}{a:Act}(hst:uI C G w st a):∀{rs:List ResultVar} {vs:List TV},iT C st rs=some vs->
 ∃us:List Value,(rs.mapM (HH a.tmps):Sem (List Value)).run C.P w=.ok us w/\cv G vs us:=by
 intro rs
 induction rs with
 |nil=>intro vs h;simp[iT] at h;subst h;exact⟨[],by simp,cv.nil G⟩
 | cons r rs ih=>
  intro vs h
  cases r with
  |tmp t=>
   simp only[iT] at h
   cases h1:iT C st rs<;>simp only[h1,reduceCtorEq] at h
   simp only[Option.some.injEq] at h
   subst h
   obtain⟨us,h2,h3⟩:=ih h1
   refine⟨a.tmps.getD t undef::us, ?_,cv.cons (hst.slots.getD t) h3⟩
   rw[List.mapM_cons]
   rw[fk (a:=a.tmps.getD t undef) (w':=w) rfl,fk h2]
   rfl
  |cell x t=>
   simp only[iT] at h
   cases h0:loadT C.P st.H t (st.slots.getD x bN)<;>cases h1:iT C st rs<;>simp only[h0,h1,reduceCtorEq] at h
   simp only[Option.some.injEq] at h
   subst h
   obtain⟨us,h2,h3⟩:=ih h1
   obtain⟨u,h4,h5⟩:=Bq hst.heap hst.wf (hst.slots.getD x) h0
   refine⟨u::us, ?_,cv.cons h5 h3⟩
   have h4':(HH a.tmps (.cell x t)).run C.P w=.ok u w:=h4
   rw[List.mapM_cons]
   rw[fk h4',fk h2]
   rfl
theorem x4 {st:St}{a:Act}{fn:Func}{vs:List TV}(hst:uI C G w st a)(h:iT C st fn.results.toList=some vs):∃v,(results fn a.tmps).run C.P w=.ok v w/\VR G (uN vs) v:=by
 obtain⟨us,h1,h2⟩:=Ms hst h;rw[Mr,Array.mapM_eq_mapM_toList];have h3:(List.toArray<$>(fn.results.toList.mapM (HH a.tmps):Sem (List Value))).run C.P w=.ok us.toArray w:=by
  rw[map_eq_pure_bind];rw[fk h1];rfl
 refine⟨_,fk h3, ?_⟩;cases vs with
 |nil=>
  have:=h2.1;simp at this;subst this
  exact lz h2
 | cons x r=>
  cases r with
  |nil=>
   obtain⟨u,us',rfl,h5,h6⟩:=h2.gq
   have:=h6.1;simp at this;subst this
   exact h5
  |cons y r=>
   have hl:=h2.1
   simp at hl
   rw[dif_neg (by simp;omega)]
   exact lz h2
theorem u7 {H:Heap}:∀{n i:Nat} {os:List aK},nO H i n=some os->os.length=n/\∀j o,os[j]?=some o->H.get (.arg (i+j))=some o:=by
 intro n;induction n with
 |zero=>intro i os h;simp[nO] at h;subst h;simp
 | succ n ih=>
  intro i os h
  simp only[nO] at h
  cases h1:H.get (.arg i)<;>cases h2:nO H (i+1) n<;>simp[h1,h2] at h
  subst h
  obtain⟨e1,e2⟩:=ih h2
  refine⟨by simp[e1],λj o hj=> ?_⟩
  cases j with
  |zero=>simp at hj;subst hj;exact h1
  |succ j=>
   have:=e2 j o (by simpa using hj)
   rw[show i+1+j=i+(j+1) from by omega] at this
   exact this
theorem sV {H:Heap}:∀{n i:Nat} {j:Nat} {o:aK},(oh H i n)[j]?=some (some o)->H.get (.arg (i+j))=some o:=by
 intro n;induction n with
 |zero=>intro i j o h;simp[oh] at h
 | succ n ih=>
   intro i j o h
   simp only[oh] at h
   cases j with
   | zero=>
     simp at h
     split at h
     · rename_i o' ho
       split at h
       · simp at h
       · simp at h;subst h;exact ho
     · simp at h
   | succ j=>
     have:=ih (i:=i+1) (j:=j) (o:=o) (by simpa using h)
     rw[show i+1+j=i+(j+1) from by omega] at this
     exact this
theorem qx {H:Heap}:∀{ks:List Nm} {h:Heap},j6 H ks=some h->∀k o,(k,o)∈h->k.eY=true/\H.get k=some o:=by
 intro ks;induction ks with
 |nil=>intro h hh;simp[j6] at hh;subst hh;simp
 | cons x r ih=>
   intro h hh k o hm
   simp only[j6] at hh
   cases h1:j6 H r with
   |none=>simp[h1] at hh
   | some h'=>
     simp only[h1] at hh
     split at hh
     · rename_i hl
       cases h2:H.get x with
       |none=>simp[h2] at hh
       | some o'=>
         simp[h2] at hh
         subst hh
         rcases List.mem_cons.1 hm with e|hm
         · simp at e;obtain⟨rfl,rfl⟩:=e;exact⟨hl,h2⟩
         · exact ih h1 k o hm
     · simp at hh;subst hh;exact ih h1 k o hm
theorem rH {fn:Func}{n:Nat}{st:St}{a:Act}{r:bB}{G0:Gh}{w0:World}(h:finish C fn n st=some r)(hs:dw G0 w0 G w)(hst:uI C G w st a):
 ∃v,(results fn a.tmps).run C.P w=.ok v w/\wT G0 w0 n r (.returned v) w:=by
 unfold finish at h
 split at h
 ·simp at h
 rename_i vs hvs
 obtain⟨v,hv,hr⟩:=x4 hst hvs
 refine⟨v,hv, ?_⟩
 dsimp only at h
 have main:∀(x:TV) (ks:List Nm),VR (G.frozen w st.H ks) x v->(match nO (st.H.dR (cW st.H ks)) 0 n with
  |none=>none
  | some os=>match reach (st.H.dR (cW st.H ks)) eN [] (x.names++os.flatMap aK.names) with
    |none=>none
    |some R=>(j6 (st.H.dR (cW st.H ks)) R).map λh=>bB.ret x os h)=some r->wT G0 w0 n r (.returned v) w:=by
  intro x ks hx h
  have Fo:=iO hst.wf hst.heap ks
  have W9:HR (G.frozen w st.H ks) w (st.H.dR (cW st.H ks)):=HR.dR Fo hst.wf hst.heap (λk o hm=>q8 hst.wf hst.heap hm) (λk _ hk=>lH hk.1 hk.2)
  split at h
  ·simp at h
  rename_i os hos
  split at h
  ·simp at h
  rename_i R hR
  cases Qv:j6 (st.H.dR (cW st.H ks)) R with
  |none=>rw[Qv] at h;simp at h
  | some nw=>
    rw[Qv] at h
    simp only[Option.map_some,Option.some.injEq] at h
    subst h
    obtain⟨e1,e2⟩:=u7 hos
    refine⟨v,G.frozen w st.H ks,rfl,hs.comp (Fo.mono (λ_ _ _=>trivial) (λ_ hk=>hk.elim)),e1,λi o ho=> ?_,λk o hm=> ?_,hx⟩
    · have:=e2 i o ho
      rw[Nat.zero_add] at this
      exact W9 _ _ this
    · obtain⟨e3,e4⟩:=qx Qv k o hm
      exact⟨e3,W9 _ _ e4⟩
 cases hfz:oe st.H fT (uN vs) with
 | none=>
   rw[hfz] at h
   exact main (uN vs) [] (hr.mono (iO hst.wf hst.heap []).le) h
 | some q=>
   obtain⟨x,ks⟩:=q
   rw[hfz] at h
   exact main (.t x) ks (.t _ _ (CP hst.wf hst.heap ks fT _ _ _ _ hfz (λ_ hk=>hk) hr)) h
theorem S4 (hm:C.P.prog.follows .mixedOrders=true)(aC:aF C ev){fuel:Nat}{args:List TV}{aQ:List aK}{r:bB}(h:Jv C ev fuel f args aQ=some r){vs:List Value}(hw:WF G w)(hg:jJ C G)(had:Ar G aQ.length)
 (hH:HR G w (cm 0 aQ))(hv:cv G args vs):mI C.P f vs.toArray w (wT G w aQ.length r):=by
 unfold Jv at h
 split at h
 ·simp at h
 rename_i fn Aw
 have hfn:=C.P.Qa _ _ Aw
 split at h
 ·simp at h
 rename_i body hbody
 split at h
 ·simp at h
 rename_i hname
 have hst:uI C G w {slots:=args++List.replicate (fn.ntmps - args.length) bN,H:=cm 0 aQ,tick:=0} {tmps:=vs.toArray++Array.replicate (fn.ntmps - vs.toArray.size) undef,defers:=[]}:=by
  refine⟨hw,hg, ?_,hH,λp hp=>absurd hp (had.2 p)⟩;have e:(vs.toArray++Array.replicate (fn.ntmps - vs.toArray.size) undef).toList=vs++List.replicate (fn.ntmps - args.length) undef:=by simp[hv.1]
  unfold SR;rw[e];refine cv.append hv ⟨by simp,λj c u hc hu=> ?_⟩;rw[List.getElem?_replicate] at hc hu;by_cases hl:j<fn.ntmps - args.length
  ·rw[if_pos hl] at hc hu;simp at hc hu;subst hc;subst hu;exact lG G
  ·rw[if_neg hl] at hc;simp at hc
 refine .inl ⟨?_,calls_of_wp hfn hbody ?_⟩
 ·simp[callFunc,hfn,hname,hbody]
 ·split at h
  ·rename_i st he;refine wp_mono (kY hm aC body _ _ _ he G w _ hst) λex a' w' hgd=> ?_
   obtain⟨G',hs,hd,rfl,iX⟩:=hgd;exact⟨hd,rH h hs iX⟩
  ·rename_i st he;refine wp_mono (kY hm aC body _ _ _ he G w _ hst) λex a' w' hgd=> ?_
   obtain⟨G',hs,hd,rfl,iX⟩:=hgd;exact⟨hd,rH h hs iX⟩
  ·rename_i v st he;split at h
   ·simp at h
   ·simp only[Option.some.injEq] at h;subst h;refine wp_mono (kY hm aC body _ _ _ he G w _ hst) λex a' w' hgd=> ?_
    obtain⟨G',hs,hd,x,rfl,hx,hH',_⟩:=hgd;refine⟨hd,x,G',rfl,hs,λi o ho=> ?_,hx⟩;have:=sV ho;rw[Nat.zero_add] at this;exact hH' _ _ this
  ·simp at h
def Dh (C:cE)(X:Ext):Prop:=∀g s,X g=some s->∀ev,aF C ev->∀args aQ r,s ev args aQ=some r->∀(G:Gh) (w:World) (vs:List Value),WF G w->jJ C G->Ar G aQ.length->
 HR G w (cm 0 aQ)->cv G args vs->mI C.P g vs.toArray w (wT G w aQ.length r)
theorem yV (hm:C.P.prog.follows .mixedOrders=true){X:Ext}(hX:Dh C X):∀n,aF C (CH C X n):=by
 intro n;induction n with
 |zero=>intro g args aQ r h;simp[CH] at h
 | succ n ih=>
   intro g args aQ r h G w vs hw hg had hH hv
   simp only[CH] at h
   split at h
   · rename_i s hs
     exact hX g s hs _ ih args aQ r h G w vs hw hg had hH hv
   · exact S4 hm ih h hw hg had hH hv
end
end Go.Abs
