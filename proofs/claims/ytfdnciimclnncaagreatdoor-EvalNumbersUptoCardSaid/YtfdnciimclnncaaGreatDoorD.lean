/- Regions that draw their order are right. -/
import Derived.Test.YtfdnciimclnncaaGreatDoorC
import Derived.LoopN
set_option linter.unusedVariables false
set_option linter.unusedSimpArgs false
namespace Go.Abs
open Go
section
variable {C:ez}{ev:bt}{f:FuncId}{ops:Array Oper}{st:St}{recs:List Rec}
abbrev s0 (st:St):xw:={slots:=st.slots,H:=st.H}
def Zb (C:ez)(ev:bt)(f:FuncId)(ops:Array Oper)(st:St)(recs:List Rec)(i:Nat)(x:Oper)(rx ry:Rec):Prop:=
 ∃nm ob v w,rx.fp=[nm]/\rx.res=.val v []/\ry.res=.val w [(nm,ob)]/\bp C ev f [(nm,ob)] (kM (x.looksAt ops) 0 (jt ops.toList recs (s0 st) (λ_=>true) i).slots) (st.tick+i) x=some (.val v [])
structure zf (C:ez)(ev:bt)(f:FuncId)(ops:Array Oper)(st:St)(recs:List Rec):Prop where
 len:recs.length=ops.size
 at':∀(j:Nat) (o:Oper),ops.toList[j]?=some o->∃r,recs[j]?=some r/\YF C ev f ops (nI ops.toList []) st.tick j o (jt ops.toList recs {slots:=st.slots,H:=st.H} (λ_=>true) j) (E4 recs j)=some r
 free:∀(i j:Nat) (x y:Oper) (rx ry:Rec),i<j->ops.toList[i]?=some x->ops.toList[j]?=some y->recs[i]?=some rx->recs[j]?=some ry->
  iC (nI ops.toList []) i j=true\/vL ops x y rx ry=true\/(mo ops x y=true/\Zb C ev f ops st recs i x rx ry)
 back:xy 0 ops.toList=true
theorem U4 {i j:Nat}{x y:Oper}{rx ry:Rec}(h:nW ops ops.toList recs (nI ops.toList []) ops.toList recs 0=true)(hij:i<j)(hx:ops.toList[i]?=some x)(hy:ops.toList[j]?=some y)(CN:recs[i]?=some rx)(hry:recs[j]?=some ry):
 iC (nI ops.toList []) i j=true\/vL ops x y rx ry=true:=by
 obtain⟨hl,_,_⟩:=L7 ops.toList []
 have hjl:j<(nI ops.toList []).length:=by rw[hl];have:=(List.getElem?_eq_some_iff.1 hy).1;simpa using this
 have h1:=Ny h j _ y ry (List.getElem?_eq_getElem hjl) hy hry
 have h2:=S4 h1 i x rx (by rw[Nat.zero_add,List.getElem?_take,if_pos hij];exact hx) (by rw[Nat.zero_add,List.getElem?_take,if_pos hij];exact CN)
 rw[Nat.zero_add] at h2
 refine h2.imp (λh=> ?_) id
 unfold iC
 rw[List.getD,List.getElem?_eq_getElem hjl]
 exact h
theorem zf.U5 (h:zf C ev f ops st recs){i j:Nat}{x y:Oper}{rx ry:Rec}(hij:i<j)(hx:ops.toList[i]?=some x)(hy:ops.toList[j]?=some y)(CN:recs[i]?=some rx)(hry:recs[j]?=some ry):
 iC (nI ops.toList []) i j=true\/mo ops x y=true:=by
 rcases h.free i j x y rx ry hij hx hy CN hry with h|h|h
 ·exact .inl h
 ·simp only[vL,Bool.and_eq_true] at h;exact .inr h.1.1.1
 ·exact .inr h.1
def S6 (ops:Array Oper)(D:Nat->Bool):Prop:=∀(j:Nat) o,D j=true->ops.toList[j]?=some o->∀e∈o.after.toList,Region.binds .any e=true->D e.on=true
theorem S6.before {D:Nat->Bool}(h:S6 ops D):∀(n i j:Nat) (o:Oper),j<n->ops.toList[j]?=some o->(∀e∈o.after.toList,Region.binds .any e=true->D e.on=true)->iC (nI ops.toList []) i j=true->D i=true:=by
 intro n;induction n with
 |zero=>intro i j o hl;omega
 | succ n ih=>
   intro i j o hl ho he hb
   obtain⟨_,_,h3⟩:=L7 ops.toList []
   obtain⟨e,h4,h5,h6⟩:=h3 j o i ho (by simpa using hb)
   have hd:=he e h4 h5
   rcases h6 with rfl|⟨h6,h7⟩
   · exact hd
   · simp at h6
     cases ho':ops.toList[e.on]? with
     | none=>
       have:=List.getElem?_eq_none_iff.1 ho'
       have:=(List.getElem?_eq_some_iff.1 ho).1
       omega
     |some o'=>exact ih i e.on o' (by omega) ho' (h e.on o' hd ho') h7
theorem xG {a b:List Nm}(h:Nj a b=true){k:Nm}(ha:k∈a):k∉b:=by
 have:=List.all_eq_true.1 h k ha;simpa using this
theorem yw {x y:Oper}(h:mo ops x y=true):(∀d,x.dst=some d->d∉y.looksAt ops)/\(∀d,x.dst=some d->y.dst≠some d)/\(∀d,y.dst=some d->d∉x.looksAt ops):=
 Oper.apart_spec (by unfold mo at h;unfold Oper.apart;cases hx:x.dst<;>cases hy:y.dst<;>simp only[hx,hy] at h ⊢<;>exact h)
structure yI (C:ez)(ops:Array Oper)(st:St)(recs:List Rec)(G0:Gh)(w0:World)(a0:Act)(D:Nat->Bool)(G:Gh)(w:World)(a:Act):Prop where
 step:ei G0 w0 G w
 kg:jK C G
 defers:a.defers=a0.defers
 slots:SR G (jt ops.toList recs (s0 st) D ops.size).slots a
 heap:HR G w (jt ops.toList recs (s0 st) D ops.size).H
 fresh:∀p,G.dom (.loc p)->∃n q,p=n::q/\(n<st.tick\/∃j,D j=true/\j<ops.size/\n=st.tick+j)
 closed:S6 ops D
 calm:∀j r v u l,D j=true->recs[j]?=some r->r.res≠ .panic v u l
def nL (D:Nat->Bool)(i:Nat):Nat->Bool:=λj=>if j=i then true else D j
section step
variable {G0 G:Gh}{w0 w:World}{a0 a:Act}{D:Nat->Bool}{i:Nat}{o:Oper}{r:Rec}
theorem yI.Zc (hd:zf C ev f ops st recs)(hi:yI C ops st recs G0 w0 a0 D G w a)(hni:D i=false)(ho:ops.toList[i]?=some o)(hr:recs[i]?=some r)(he:∀e∈o.after.toList,Region.binds .any e=true->D e.on=true)
 {t:Nat}(ht:t∈o.looksAt ops\/o.dst=some t)(hw:∀j,i<=j->j<ops.size->D j=true->True):
 ∀j x,j<ops.size->ops.toList[j]?=some x->x.dst=some t->(D j=true->j<i)/\(j<i->(t∈o.looksAt ops->D j=true)):=by
 intro j x hj hx P0
 obtain⟨rx,CN⟩:∃rx,recs[j]?=some rx:=⟨_,List.getElem?_eq_getElem (by rw[hd.len];exact hj)⟩
 refine⟨λhD=> ?_,λhlt hlk=> ?_⟩
 ·rcases Nat.lt_trichotomy j i with h|h|h
  ·exact h
  ·subst h;rw[hni] at hD;cases hD
  ·rcases hd.U5 h ho hx hr CN with hb|hb
   ·have:=hi.closed.before (j+1) i j x (by omega) hx (hi.closed j x hD hx) hb;rw[hni] at this;cases this
   ·obtain⟨s1,s2,s3⟩:=yw hb;rcases ht with ht|ht
    ·exact absurd ht (s3 t P0)
    ·exact absurd P0 (s2 t ht)
 ·rcases hd.U5 hlt hx ho CN hr with hb|hb
  ·exact hi.closed.before (i+1) j i o (by omega) ho he hb
  ·obtain⟨s1,s2,s3⟩:=yw hb;exact absurd hlk (s1 t P0)
theorem yI.S7 (hd:zf C ev f ops st recs)(hi:yI C ops st recs G0 w0 a0 D G w a)(hni:D i=false)(ho:ops.toList[i]?=some o)(hr:recs[i]?=some r)(he:∀e∈o.after.toList,Region.binds .any e=true->D e.on=true)
 {k:Nm}(hk:k∈r.fp\/k∈r.res.keys):
 ∀j x rx,j<ops.size->ops.toList[j]?=some x->recs[j]?=some rx->k∈rx.res.keys->(D j=true->j<i\/(i<j/\Zb C ev f ops st recs i o r rx))/\(j<i->D j=true):=by
 intro j x rx hj hx CN hkx
 refine⟨λhD=> ?_,λhlt=> ?_⟩
 ·rcases Nat.lt_trichotomy j i with h|h|h
  ·exact .inl h
  ·subst h;rw[hni] at hD;cases hD
  ·rcases hd.free i j o x r rx h ho hx hr CN with hb|hb|hb
   ·have:=hi.closed.before (j+1) i j x (by omega) hx (hi.closed j x hD hx) hb;rw[hni] at this;cases this
   ·simp only[vL,Bool.and_eq_true] at hb;obtain⟨⟨⟨_,h1⟩,h2⟩,h3⟩:=hb;rcases hk with hk|hk
    ·exact absurd hk (xG h3 hkx)
    ·exact absurd hkx (xG h2 hk)
   ·exact .inr ⟨h,hb.2⟩
 ·rcases hd.free j i x o rx r hlt hx ho CN hr with hb|hb|hb
  ·exact hi.closed.before (i+1) j i o (by omega) ho he hb
  rotate_left
  ·obtain⟨_,nm,ob,v,w,_,e2,_,_⟩:=hb;rw[e2] at hkx;cases hkx
  ·simp only[vL,Bool.and_eq_true] at hb;obtain⟨⟨⟨_,h1⟩,h2⟩,h3⟩:=hb;rcases hk with hk|hk
   ·exact absurd hk (xG h1 hkx)
   ·exact absurd hk (xG h2 hkx)
theorem P3 {l:List Oper}{s:xw}{n:Nat}(hin:i<=n):jt l recs s (λ_=>true) i=jt l recs s (λj=>decide (j<i)) n:=by
 rw[tL (D:=λj=>decide (j<i)) hin (λj h1 h2=>by simp;omega)];exact Ar λj hj=>by simp[hj]
theorem yI.look (hd:zf C ev f ops st recs)(hi:yI C ops st recs G0 w0 a0 D G w a)(hni:D i=false)(ho:ops.toList[i]?=some o)(hr:recs[i]?=some r)(he:∀e∈o.after.toList,Region.binds .any e=true->D e.on=true):
 kM (o.looksAt ops) 0 (jt ops.toList recs (s0 st) (λ_=>true) i).slots=kM (o.looksAt ops) 0 (jt ops.toList recs (s0 st) D ops.size).slots:=by
 have hin:i<=ops.size:=by have:=(List.getElem?_eq_some_iff.1 ho).1;simp at this;omega
 refine PZ (by rw[Je,Je]) λt ht=> ?_
 rw[P3 hin]
 refine CK λj x hj hx P0=> ?_
 obtain⟨h1,h2⟩:=hi.Zc hd hni ho hr he (.inl ht) (λ_ _ _ _=>trivial) j x hj hx P0
 by_cases hlt:j<i
 ·simp[hlt,h2 hlt ht]
 ·have:D j=false:=by
   cases hD:D j with
   |false=>rfl
   |true=>exact absurd (h1 hD) hlt
  simp[hlt,this]
theorem Zd {P:Nat->Prop}:∀n,(∃j,j<n/\P j)->∃j,j<n/\P j/\∀k,j<k->k<n->¬P k
 |0,⟨_,h,_⟩=>by omega
 | n + 1,⟨j,h1,h2⟩=>by
   by_cases hn:P n
   · exact⟨n,by omega,hn,λk h3 h4=>by omega⟩
   · obtain⟨k,h3,h4,h5⟩:=Zd n ⟨j,by
       rcases Nat.lt_or_ge j n with h|h
       · exact h
       · have:j=n:=by omega
         subst this;exact absurd h2 hn,h2⟩
     exact⟨k,by omega,h4,λl h6 h7=>by
       rcases Nat.lt_or_ge l n with h|h
       · exact h5 l h6 h
       · have:l=n:=by omega
         subst this;exact hn⟩
theorem yI.ap3 (hd:zf C ev f ops st recs)(hi:yI C ops st recs G0 w0 a0 D G w a)(hni:D i=false)(ho:ops.toList[i]?=some o)(hr:recs[i]?=some r)(he:∀e∈o.after.toList,Region.binds .any e=true->D e.on=true):
 (∀k∈r.fp,(jt ops.toList recs (s0 st) (λ_=>true) i).H.get k=(jt ops.toList recs (s0 st) D ops.size).H.get k)\/
 ∃nm ob v,r.fp=[nm]/\r.res=.val v []/\(jt ops.toList recs (s0 st) D ops.size).H.get nm=some ob/\bp C ev f [(nm,ob)] (kM (o.looksAt ops) 0 (jt ops.toList recs (s0 st) (λ_=>true) i).slots) (st.tick+i) o=some (.val v []):=by
 have hin:i<=ops.size:=by have:=(List.getElem?_eq_some_iff.1 ho).1;simp at this;omega
 by_cases hex:∃j,j<ops.size/\(D j=true/\i<j/\∃rj,recs[j]?=some rj/\∃k∈r.fp,k∈rj.res.keys)
 ·obtain⟨ j,hj,⟨hD,hlt,rj,hrj,k,hk,hkj⟩,Nn⟩:=Zd ops.size hex;obtain⟨x,hx⟩:∃x,ops.toList[j]?=some x:=⟨_,List.getElem?_eq_getElem (by simpa using hj)⟩;rcases(hi.S7 hd hni ho hr he (.inl hk) j x rj hj hx hrj hkj).1 hD with h|⟨_,nm,ob,v,w,e1,e2,e3,e4⟩
  ·omega
  ·refine .inr ⟨nm,ob,v,e1,e2, ?_,e4⟩;have h1:(jt ops.toList recs (s0 st) D ops.size).H.get nm=(jt ops.toList recs (s0 st) (λt=>decide (t<j+1)&&D t) ops.size).H.get nm:=by
    refine Aq λt rt ht hrt hkt=> ?_
    by_cases hlt2:t<j+1
    ·simp[hlt2]
    ·have hDt:D t=false:=by
      cases hDt:D t with
      |false=>rfl
      |true=>exact absurd ⟨hDt,by omega,rt,hrt,nm,by rw[e1];exact List.mem_singleton_self _,hkt⟩ (Nn t (by omega) ht)
     simp[hlt2,hDt]
   have h2:jt ops.toList recs (s0 st) (λt=>decide (t<j+1)&&D t) ops.size=jt ops.toList recs (s0 st) (λt=>decide (t<j+1)&&D t) (j+1):=
    tL (by omega) λt h1 h2=>by
     have:¬t<j+1:=by omega
     simp[this]
   rw[h1,h2];simp only[jt,hx,hrj,hD,Nat.lt_succ_self,decide_true,Bool.and_self,if_true];simp only[xw.after,e3,Heap.eY,List.foldl];rw[Heap.Cv,if_pos rfl]
 ·refine .inl λk hk=> ?_
  rw[P3 hin];refine Aq λj rx hj CN hkx=> ?_
  obtain⟨x,hx⟩:∃x,ops.toList[j]?=some x:=⟨_,List.getElem?_eq_getElem (by simpa using hj)⟩;obtain⟨h1,h2⟩:=hi.S7 hd hni ho hr he (.inl hk) j x rx hj hx CN hkx;by_cases hlt:j<i
  ·simp[hlt,h2 hlt]
  ·have:D j=false:=by
    cases hD:D j with
    |false=>rfl
    | true=>
      rcases h1 hD with h|⟨h,_⟩
      · exact absurd h hlt
      · exact absurd ⟨j,hj,hD,h,rx,CN,k,hk,hkx⟩ hex
   simp[hlt,this]
theorem yI.W7 (hd:zf C ev f ops st recs)(hi:yI C ops st recs G0 w0 a0 D G w a)(hni:D i=false)(ho:ops.toList[i]?=some o)(hr:recs[i]?=some r)(he:∀e∈o.after.toList,Region.binds .any e=true->D e.on=true)
 (t:Nat):(jt ops.toList recs (s0 st) (nL D i) ops.size).slots[t]?=((jt ops.toList recs (s0 st) D ops.size).after o r.res).slots[t]?:=by
 have hin:i<ops.size:=by have:=(List.getElem?_eq_some_iff.1 ho).1;simpa using this
 by_cases aie:o.dst=some t
 ·have key:∀j x,j<ops.size->ops.toList[j]?=some x->x.dst=some t->D j=true->j<i:=λj x hj hx P0=>(hi.Zc hd hni ho hr he (.inr aie) (λ_ _ _ _=>trivial) j x hj hx P0).1
  have e1:(jt ops.toList recs (s0 st) (nL D i) ops.size).slots[t]?=(jt ops.toList recs (s0 st) (λj=>decide (j<i+1)&&nL D i j) ops.size).slots[t]?:=by
   refine CK λj x hj hx P0=> ?_
   by_cases hlt:j<i+1
   ·simp[hlt]
   ·have hD:D j=false:=by
     cases hD:D j with
     |false=>rfl
     |true=>exact absurd (key j x hj hx P0 hD) (by omega)
    have:j≠i:=by omega
    simp[hlt,nL,this,hD]
  have e2:(jt ops.toList recs (s0 st) D ops.size).slots[t]?=(jt ops.toList recs (s0 st) (λj=>decide (j<i)&&D j) ops.size).slots[t]?:=by
   refine CK λj x hj hx P0=> ?_
   by_cases hlt:j<i
   ·simp[hlt]
   ·have hD:D j=false:=by
     cases hD:D j with
     |false=>rfl
     |true=>exact absurd (key j x hj hx P0 hD) (by omega)
    simp[hlt,hD]
  have e3:jt ops.toList recs (s0 st) (λj=>decide (j<i+1)&&nL D i j) ops.size=jt ops.toList recs (s0 st) (λj=>decide (j<i+1)&&nL D i j) (i+1):=
   tL (by omega) λj h1 h2=>by
    have:¬j<i+1:=by omega
    simp[this]
  have e4:jt ops.toList recs (s0 st) (λj=>decide (j<i)&&D j) ops.size=jt ops.toList recs (s0 st) (λj=>decide (j<i)&&D j) i:=
   tL (by omega) λj h1 h2=>by
    have:¬j<i:=by omega
    simp[this]
  have e5:jt ops.toList recs (s0 st) (λj=>decide (j<i+1)&&nL D i j) i=jt ops.toList recs (s0 st) (λj=>decide (j<i)&&D j) i:=
   Ar λj hj=>by
    have h1:j<i+1:=by omega
    have h2:j≠i:=by omega
    simp[h1,hj,nL,h2]
  rw[e1,e3];rw[qx (e2.trans (by rw[e4]))];simp only[jt,ho,hr];rw[e5];simp[nL]
 ·rw[Bz aie];refine CK λj x hj hx P0=> ?_
  have:j≠i:=λe=>by
   subst e;rw[ho] at hx;simp at hx;subst hx;exact aie P0
  simp[nL,this]
theorem yI.Ze (hd:zf C ev f ops st recs)(hi:yI C ops st recs G0 w0 a0 D G w a)(hni:D i=false)(ho:ops.toList[i]?=some o)(hr:recs[i]?=some r)(he:∀e∈o.after.toList,Region.binds .any e=true->D e.on=true)
 (k:Nm):(jt ops.toList recs (s0 st) (nL D i) ops.size).H.get k=((jt ops.toList recs (s0 st) D ops.size).after o r.res).H.get k:=by
 have hin:i<ops.size:=by have:=(List.getElem?_eq_some_iff.1 ho).1;simpa using this
 by_cases hk:k∈r.res.keys
 ·have key:∀j rx,j<ops.size->recs[j]?=some rx->k∈rx.res.keys->D j=true->j<i:=λj rx hj CN hkx=>by
   obtain⟨x,hx⟩:∃x,ops.toList[j]?=some x:=⟨_,List.getElem?_eq_getElem (by simpa using hj)⟩;intro hD;rcases(hi.S7 hd hni ho hr he (.inr hk) j x rx hj hx CN hkx).1 hD with h|⟨_,nm,ob,v,w,_,e2,_,_⟩
   ·exact h
   ·rw[e2] at hk;cases hk
  have e1:(jt ops.toList recs (s0 st) (nL D i) ops.size).H.get k=(jt ops.toList recs (s0 st) (λj=>decide (j<i+1)&&nL D i j) ops.size).H.get k:=by
   refine Aq λj x hj hx P0=> ?_
   by_cases hlt:j<i+1
   ·simp[hlt]
   ·have hD:D j=false:=by
     cases hD:D j with
     |false=>rfl
     |true=>exact absurd (key j x hj hx P0 hD) (by omega)
    have:j≠i:=by omega
    simp[hlt,nL,this,hD]
  have e2:(jt ops.toList recs (s0 st) D ops.size).H.get k=(jt ops.toList recs (s0 st) (λj=>decide (j<i)&&D j) ops.size).H.get k:=by
   refine Aq λj x hj hx P0=> ?_
   by_cases hlt:j<i
   ·simp[hlt]
   ·have hD:D j=false:=by
     cases hD:D j with
     |false=>rfl
     |true=>exact absurd (key j x hj hx P0 hD) (by omega)
    simp[hlt,hD]
  have e3:jt ops.toList recs (s0 st) (λj=>decide (j<i+1)&&nL D i j) ops.size=jt ops.toList recs (s0 st) (λj=>decide (j<i+1)&&nL D i j) (i+1):=
   tL (by omega) λj h1 h2=>by
    have:¬j<i+1:=by omega
    simp[this]
  have e4:jt ops.toList recs (s0 st) (λj=>decide (j<i)&&D j) ops.size=jt ops.toList recs (s0 st) (λj=>decide (j<i)&&D j) i:=
   tL (by omega) λj h1 h2=>by
    have:¬j<i:=by omega
    simp[this]
  have e5:jt ops.toList recs (s0 st) (λj=>decide (j<i+1)&&nL D i j) i=jt ops.toList recs (s0 st) (λj=>decide (j<i)&&D j) i:=
   Ar λj hj=>by
    have h1:j<i+1:=by omega
    have h2:j≠i:=by omega
    simp[h1,hj,nL,h2]
  rw[e1,e3];rw[rQ (e2.trans (by rw[e4]))];simp only[jt,ho,hr];rw[e5];simp[nL]
 ·rw[L8 hk];refine Aq λj rx hj CN hkx=> ?_
  have:j≠i:=λe=>by
   subst e;rw[hr] at CN;simp at CN;subst CN;exact hk hkx
  simp[nL,this]
theorem yI.next (hd:zf C ev f ops st recs)(hi:yI C ops st recs G0 w0 a0 D G w a)(hni:D i=false)(ho:ops.toList[i]?=some o)(hr:recs[i]?=some r)(he:∀e∈o.after.toList,Region.binds .any e=true->D e.on=true)
 (alu:∀v u l,r.res≠ .panic v u l){G':Gh}{w':World}{a':Act}(hs:ei G w G' w')(hde:a'.defers=a.defers)(hg:jK C G')
 (Gj:SR G' ((jt ops.toList recs (s0 st) D ops.size).after o r.res).slots a')(hh:HR G' w' ((jt ops.toList recs (s0 st) D ops.size).after o r.res).H)
 (hfr:∀p,G'.dom (.loc p)->G.dom (.loc p)\/∃q,p=(st.tick+i)::q):yI C ops st recs G0 w0 a0 (nL D i) G' w' a':=by
 have hin:i<ops.size:=by have:=(List.getElem?_eq_some_iff.1 ho).1;simpa using this
 refine⟨hi.step.comp hs,hg,hde.trans hi.defers, ?_,λk ob hk=>hh k ob (by rw[← hi.Ze hd hni ho hr he];exact hk),λp hp=> ?_,λj x hD hx e he' hb=> ?_,λj rx v u l hD CN=> ?_⟩
 ·have:(jt ops.toList recs (s0 st) (nL D i) ops.size).slots=((jt ops.toList recs (s0 st) D ops.size).after o r.res).slots:=List.ext_getElem? (hi.W7 hd hni ho hr he);rw[this];exact Gj
 ·rcases hfr p hp with h|⟨q,e⟩
  ·obtain⟨n,q,e,h1⟩:=hi.fresh p h;refine⟨n,q,e,h1.imp id λ⟨j,h2,h3,h4⟩=>⟨j, ?_,h3,h4⟩⟩;simp only[nL];split<;>simp_all
  ·exact⟨_,q,e,.inr ⟨i,by simp[nL],hin,rfl⟩⟩
 ·by_cases e1:e.on=i
  ·simp[nL,e1]
  ·simp only[nL,if_neg e1];by_cases e2:j=i
   ·subst e2;rw[ho] at hx;simp at hx;subst hx;exact he e he' hb
   ·simp only[nL,if_neg e2] at hD;exact hi.closed j x hD hx e he' hb
 ·by_cases e2:j=i
  ·subst e2;rw[hr] at CN;simp at CN;subst CN;exact alu v u l
  ·simp only[nL,if_neg e2] at hD;exact hi.calm j rx v u l hD CN
end step
theorem Zf {bs:List Nat}{t0 i:Nat}{o:Oper}{s:xw}{uJ:Option Nat}{r:Rec}(h:YF C ev f ops bs t0 i o s uJ=some r):
 (∃j,uJ=some j/\iC bs j i=true/\r.res=.Aj)\/
 (eT ops (kM (o.looksAt ops) 0 s.slots) o=some false/\r.res=.unwanted)\/
 (eT ops (kM (o.looksAt ops) 0 s.slots) o=some true/\∃v u,bp C ev f (oD s.H r.fp) (kM (o.looksAt ops) 0 s.slots) (t0+i) o=some (.val v u)/\r.res=.val v u)\/
 (eT ops (kM (o.looksAt ops) 0 s.slots) o=some true/\∃v u l,bp C ev f (oD s.H r.fp) (kM (o.looksAt ops) 0 s.slots) (t0+i) o=some (.panic v u l)/\r.res=.panic v u l/\uJ=none):=by
 unfold YF at h
 split at h
 ·rename_i hp;simp at h;subst h;split at hp
  ·rename_i j;exact .inl ⟨j,rfl,hp,rfl⟩
  ·simp at hp
 ·split at h
  ·simp at h
  ·rename_i hw;simp at h;subst h;exact .inr (.inl ⟨hw,rfl⟩)
  ·rename_i hw;split at h
   ·simp at h
   ·rename_i fp U6;split at h
    ·simp at h
    ·rename_i v u hx;simp at h;subst h;exact .inr (.inr (.inl ⟨hw,v,u,hx,rfl⟩))
    ·rename_i v u l hx;split at h
     ·simp at h
     ·simp at h;subst h;exact .inr (.inr (.inr ⟨hw,v,u,l,hx,rfl,rfl⟩))
theorem A4 {H:Heap}{slots:List TV}{t:Nat}{o:Oper}{r:tD}(h:bp C ev f H slots t o=some r):∀cs b,o.op≠ .select cs b:=by
 intro cs b e;unfold bp at h;rw[e] at h;simp[evalOp,e] at h
theorem Ma:∀(l:List Oper) (s:List TV),(ID l s).length=s.length
 | [],_=>rfl
 |o::r,s=>by
  show(ID r (ey s o.dst .any)).length=_
  rw[Ma r]
  cases o.dst with
  |none=>rfl
  |some d=>simp[ey,qU]
theorem P4:∀{l:List Oper} {s:List TV} {t:Nat} {c:TV},(ID l s)[t]?=some c->c=.any\/(s[t]?=some c/\∀o∈l,o.dst≠some t)
 | [],_,_,_,h=>.inr ⟨h,λ_ h=>by cases h⟩
 | o ::r,s,t,c,h=>by
   rcases P4 (l:=r) (s:=ey s o.dst .any) h with e|⟨e,hr⟩
   · exact .inl e
   · by_cases hd:o.dst=some t
     · rw[hd] at e
       simp only[ey,qU,List.getElem?_set] at e
       split at e
       · split at e
         · cases e;exact .inl rfl
         · cases e
       · rename_i hne;exact absurd trivial hne
     · rw[Jb hd] at e
       exact .inr ⟨e,λx hx=>by
         rcases List.mem_cons.1 hx with rfl|hx
         · exact hd
         · exact hr x hx⟩
theorem Au {l:List Oper}{recs:List Rec}{s0:xw}{D:Nat->Bool}{t:Nat}(h:∀o∈l,o.dst≠some t):∀n,(jt l recs s0 D n).slots[t]?=s0.slots[t]?
 |0=>rfl
 | n +1=>by
   simp only[jt]
   split
   · rename_i o r ho hr
     split
     · rw[Bz (h o (List.mem_of_getElem? ho))];exact Au h n
     · exact Au h n
   · exact Au h n
theorem W8 (s:xw)(o:Oper)(r:Hh):(s.after o r).slots.length=s.slots.length:=by
 cases r with
 |Aj=>rfl
 |unwanted=>simp only[xw.after];cases o.dst<;>simp[ey,qU]
 |val v u=>simp only[xw.after];cases o.dst<;>simp[ey,qU]
 |panic v u l=>rfl
theorem HU {l:List Oper}{recs:List Rec}{s0:xw}{D:Nat->Bool}:∀n,(jt l recs s0 D n).slots.length=s0.slots.length
 |0=>rfl
 | n +1=>by
   simp only[jt]
   split
   · split
     · rw[W8];exact HU n
     · exact HU n
   · exact HU n
theorem Zg {G':Gh}{a:Act}{D:Nat->Bool}{n:Nat}(h:SR G' (jt ops.toList recs (s0 st) D n).slots a):SR G' (ID ops.toList st.slots) a:=by
 have hl:(jt ops.toList recs (s0 st) D n).slots.length=st.slots.length:=HU n;refine⟨by rw[Ma,← hl];exact h.1,λt c v hc hv=> ?_⟩;rcases P4 hc with rfl|⟨e,hn⟩
 ·exact .any _
 ·exact h.2 t c v (by rw[Au hn];exact e) hv
theorem Zh (aK:aD C ev)(hd:zf C ev f ops st recs){G0:Gh}{w0:World}{a0:Act}(hst:yO C G0 w0 st a0){e:aS}{st':St}{Q:Exit->Act->World->Prop}
 (hQ:∀ex a' w',Good C G0 w0 a0 e st' ex a' w'->Q ex a' w')
 (hend:lY 0 recs=none->e=.normal/\st'={slots:=(jt ops.toList recs (s0 st) (λ_=>true) ops.size).slots,H:=(jt ops.toList recs (s0 st) (λ_=>true) ops.size).H,tick:=st.tick+ops.size})
 (ap4:∀j v u l,lY 0 recs=some (j,v,u,l)->e=.panic v/\st'={slots:=ID ops.toList st.slots,H:=((jt ops.toList recs (s0 st) (λ_=>true) ops.size).H.yG (l++Ex ((nI ops.toList []).getD j 0) 0 recs)).eY u,tick:=st.tick+ops.size}):
 ∀(fuel:Nat) (listed:Array Bool) (G:Gh) (w:World) (a:Act),listed.size=ops.size->listed.toList.countP (· ==false)<=fuel->yI C ops st recs G0 w0 a0 (λj=>listed.getD j false) G w a->wpAny C.P .any ops Q fuel listed a w:=by
 have hat:∀(i:Nat) (o:Oper),ops[i]?=some o↔ops.toList[i]?=some o:=λi o=>by simp
 have hall :∀(listed:Array Bool),listed.size=ops.size->Region.ready .any ops listed=[]->∀j,j<ops.size->listed.getD j false=true:=by
  intro listed hsz hr j;induction j using Nat.strongRecOn with
  | _ j ih=>
    intro hj
    cases hD:listed.getD j false with
    |true=>rfl
    | false=>
      have:j∈Region.ready .any ops listed:=by
        rw[mem_ready]
        refine⟨?_,ops[j],Array.getElem?_eq_getElem hj,λe he hb=> ?_⟩
        · rw[Array.getD_eq_getD_getElem?] at hD ⊢
          rw[Array.getElem?_eq_getElem (by omega)] at hD ⊢
          exact hD
        · have:=WX hd.back j ops[j] (by simp[hj]) e (by simpa using he) hb
          exact ih e.on (by omega) (by omega)
      rw[hr] at this
      simp at this
 have hdone:∀(listed:Array Bool) (G:Gh) (w:World) (a:Act),listed.size=ops.size->yI C ops st recs G0 w0 a0 (λj=>listed.getD j false) G w a->Region.ready .any ops listed=[]->Q .normal a w:=by
  intro listed G w a hsz hi hr;have hl:=hall listed hsz hr;cases hp:lY 0 recs with
  | some q=>
    obtain⟨j,v,u,l⟩:=q
    obtain⟨k,r,h1,h2,h3⟩:=CL hp
    have hk:k<ops.size:=by rw[← hd.len];exact(List.getElem?_eq_some_iff.1 h2).1
    exact absurd h3 (hi.calm k r v u l (hl k hk) h2)
  | none=>
    obtain⟨rfl,rfl⟩:=hend hp
    have hsame:jt ops.toList recs (s0 st) (λj=>listed.getD j false) ops.size=jt ops.toList recs (s0 st) (λ_=>true) ops.size:=Ar λj hj=>hl j hj
    refine hQ _ _ _ ⟨G,hi.step,hi.defers,rfl,hi.step.wf,hi.kg, ?_, ?_,λp hp=> ?_⟩
    · have:=hi.slots;rw[hsame] at this;exact this
    · have:=hi.heap;rw[hsame] at this;exact this
    · obtain⟨n,q,e,h⟩:=hi.fresh p hp
      refine⟨n,q,e, ?_⟩
      rcases h with h|⟨j,_,h,rfl⟩
      · simp only;omega
      · simp only;omega
 intro fuel
 induction fuel with
 | zero=>
   intro listed G w a hsz hc hi
   have hcz:listed.toList.countP (· ==false)=0:=by omega
   have hl:∀j,j<ops.size->listed.getD j true=true:=by
     intro j hj
     rw[List.countP_eq_zero] at hcz
     have:=hcz listed[j] (by simp)
     rw[Array.getD_eq_getD_getElem?,Array.getElem?_eq_getElem (by omega)]
     simpa using this
   have hr:Region.ready .any ops listed=[]:=by
     refine List.eq_nil_iff_forall_not_mem.2 λj hj=> ?_
     rw[mem_ready] at hj
     obtain⟨h1,o,h2,_⟩:=hj
     have:=hl j (Array.getElem?_eq_some_iff.1 h2).1
     rw[this] at h1;cases h1
   exact⟨hr,hdone listed G w a hsz hi hr⟩
 | succ fuel ih=>
   intro listed G w a hsz hc hi
   refine⟨hdone listed G w a hsz hi,λi hmem=> ?_⟩
   rw[mem_ready] at hmem
   obtain⟨aif,o,ho',aih⟩:=hmem
   have hin:i<ops.size:=(Array.getElem?_eq_some_iff.1 ho').1
   have hni:listed.getD i false=false:=by
     rw[Array.getD_eq_getD_getElem?] at aif ⊢
     rw[Array.getElem?_eq_getElem (by omega)] at aif ⊢
     exact aif
   have ho:=(hat i o).1 ho'
   have he:∀e∈o.after.toList,Region.binds .any e=true->listed.getD e.on false=true:=λe h1 h2=>aih e (by simpa using h1) h2
   obtain⟨r,hr,hop⟩:=hd.at' i o ho
   have alv:=hi.look hd hni ho hr he
   have Mb:=ad5 hi.slots (o.looksAt ops)
   rw[← alv] at Mb
   have alw:=hi.ap3 hd hni ho hr he
   have Zi:(∀k∈r.fp,(jt ops.toList recs (s0 st) (λ_=>true) i).H.get k=(jt ops.toList recs (s0 st) (λj=>listed.getD j false) ops.size).H.get k)->HR G w (oD (jt ops.toList recs (s0 st) (λ_=>true) i).H r.fp):=by
     intro hs k ob hk
     obtain⟨h1,h2⟩:=W6 hk
     rw[hs k h1] at h2
     exact hi.heap k ob h2
   have hfresh:∀p,¬G.dom (.loc ((st.tick+i)::p)):=by
     intro p uM
     obtain⟨n,q,e1,h⟩:=hi.fresh _ uM
     simp at e1
     rcases h with h|⟨j,h1,h2,h3⟩
     · omega
     · have:j=i:=by omega
       subst this
       rw[hni] at h1;cases h1
   have ap5:(listed.setIfInBounds i true).toList.countP (· ==false)<=fuel:=by
     rw[Array.toList_setIfInBounds,List.countP_set (by simp;omega)]
     have h1:(listed.toList[i]'(by simp;omega)==false)=true:=by
       rw[Array.getD_eq_getD_getElem?,Array.getElem?_eq_getElem (by omega)] at hni
       simpa using hni
     rw[if_pos h1]
     have h2:(if((true:Bool)==false)=true then 1 else 0)=0:=rfl
     rw[h2]
     omega
   have alx:(λj=>(listed.setIfInBounds i true).getD j false)=nL (λj=>listed.getD j false) i:=by
     funext j
     simp only[nL]
     by_cases e1:j=i
     · subst e1
       rw[Array.getD_eq_getD_getElem?,Array.getElem?_setIfInBounds_self_of_lt (by omega)]
       simp
     · rw[if_neg e1,getD_set_ne false (λh=>e1 h.symm)]
   have hnext:∀{G':Gh} {w':World} {a':Act},yI C ops st recs G0 w0 a0 (nL (λj=>listed.getD j false) i) G' w' a'->wpAny C.P .any ops Q fuel (listed.setIfInBounds i true) a' w':=by
     intro G' w' a' hi'
     rw[← alx] at hi'
     exact ih _ G' w' a' (by simpa using hsz) ap5 hi'
   unfold wpOp
   rw[ho']
   simp only
   rcases Zf hop with ⟨j,hp,hb,hres⟩|⟨hw,hres⟩|⟨hw,v,u,hx,hres⟩|⟨hw,v,u,l,hx,hres,hp⟩
   ·
     obtain⟨_,rj,vj,uj,lj,h1,h2⟩:=WZ hp
     have hD:=hi.closed.before (i+1) j i o (by omega) ho he hb
     exact absurd h2 (hi.calm j rj vj uj lj hD h1)
   · have:=jC hw Mb
     rw[zb] at this
     rw[this]
     refine hnext (hi.next hd hni ho hr he (by rw[hres];simp) (Step.refl hi.step.wf _ _) (put_defers _ _ _) hi.kg ?_ ?_ (λp h=>.inl h))
     · rw[hres];exact hi.slots.put o.dst (q5 G)
     · rw[hres];exact hi.heap
   · have:=jC hw Mb
     rw[zb] at this
     rw[this]
     refine .inl ?_
     obtain⟨Hx,hx,hheap⟩:∃Hx,bp C ev f Hx (kM (o.looksAt ops) 0 (jt ops.toList recs (s0 st) (λ_=>true) i).slots) (st.tick+i) o=some (.val v u)/\HR G w Hx:=by
       rcases alw with hs|⟨nm,ob,v2,_,e2,e3,e4⟩
       · exact⟨_,hx,Zi hs⟩
       · rw[hres] at e2
         cases e2
         refine⟨_,e4,λk ob2 hk=> ?_⟩
         simp only[Heap.get] at hk
         split at hk
         · rename_i e5
           cases hk
           subst e5
           exact hi.heap _ _ e3
         · cases hk
     have hex:=tK aK hx hi.step.wf hi.kg Mb hheap hfresh
     unfold mA at hex
     rw[L9 (A4 hx)] at hex
     refine mA.wp (R:=ng (st.tick+i) G w (.val v u)) hex ng.no (λx w' hR=> ?_) (λch w' hR=> ?_)
     · obtain⟨x',G',e1,hs,hu,hv⟩:=hR
       simp at e1;subst e1
       refine hnext (hi.next hd hni ho hr he (by rw[hres];simp) hs.any (put_defers _ _ _) (hi.kg.mono hs.le) ?_ ?_ (λp h=> ?_))
       · rw[hres];exact(hi.slots.mono hs.le).put o.dst hv
       · rw[hres];exact HR.eY hs hi.step.wf hi.heap hu (λk _ hk=>hk)
       · rcases hs.news _ h with h|⟨q,e2⟩
         · exact .inl h
         · simp at e2;exact .inr ⟨q,e2⟩
     · obtain⟨x',G',e1,_⟩:=hR
       simp at e1
   · have:=  jC hw Mb
     rw[zb] at this
     rw[this]
     refine .inl ?_
     have hheap:HR G w (oD (jt ops.toList recs (s0 st) (λ_=>true) i).H r.fp):=by
       rcases alw with hs|⟨nm,ob,v2,_,e2,_,_⟩
       · exact Zi hs
       · rw[hres] at e2
         cases e2
     have hex:=tK aK hx hi.step.wf hi.kg Mb hheap hfresh
     unfold mA at hex
     rw[L9 (A4 hx)] at hex
     refine mA.wp (R:=ng (st.tick+i) G w (.panic v u l)) hex ng.no (λx w' hR=> ?_) (λch w' hR=> ?_)
     · obtain⟨x',G',e1,_⟩:=hR
       simp at e1
     · obtain⟨x',G',e1,hs,hu,hv⟩:=hR
       simp at e1;subst e1
       have hpa:lY 0 recs=some (i,v,u,l):=by
         cases hpa:lY 0 recs with
         |none=>exact absurd hres (NF hpa r (List.mem_of_getElem? hr) v u l)
         | some q=>
           obtain⟨j,v',u',l'⟩:=q
           obtain⟨k,rk,h1,h2,h3⟩:=CL hpa
           rcases Nat.lt_trichotomy k i with h|h|h
           · have:=Gp h h2 h3
             rw[hp] at this;simp at this
           · subst h
             rw[hr] at h2;simp at h2;subst h2
             rw[hres] at h3
             simp at h3
             obtain⟨rfl,rfl,rfl⟩:=h3
             simp at h1;subst h1;rfl
           · obtain⟨ok,hok⟩:∃ok,ops.toList[k]?=some ok:=⟨_,List.getElem?_eq_getElem (by have:=(List.getElem?_eq_some_iff.1 h2).1;rw[hd.len] at this;simpa using this)⟩
             obtain⟨rk',hrk,ap6⟩:=hd.at' k ok hok
             rw[h2] at hrk;simp at hrk;subst hrk
             have hsome:=Gp h hr hres
             rcases Zf ap6 with ⟨_,_,_,q⟩|⟨_,q⟩|⟨_,_,_,_,q⟩|⟨_,_,_,_,_,_,q⟩
             · rw[h3] at q;simp at q
             · rw[h3] at q;simp at q
             · rw[h3] at q;simp at q
             · rw[q] at hsome;simp at hsome
       obtain⟨rfl,rfl⟩:=ap4 i v u l hpa
       refine hQ _ _ _ ⟨G',hi.step.comp hs.any,hi.defers,x',rfl,hv, ?_,Zg (hi.slots.mono hs.le),st.tick+ops.size,λp hp=> ?_⟩
       rotate_left
       · have hsz:i<ops.size:=by have:=(List.getElem?_eq_some_iff.1 ho).1;simpa using this
         rcases hs.news _ hp with d|⟨q,e⟩
         · obtain⟨n,q,e1,h|⟨j,_,hj,h⟩⟩:=hi.fresh p d
           · exact⟨n,q,e1,by omega⟩
           · exact⟨n,q,e1,by omega⟩
         · exact⟨_,q,Nm.loc.inj e,by omega⟩
       intro k ob hk
       rcases Heap.wk _ u k ob hk with h1|⟨h1,hn⟩
       · exact hu k ob h1
       · rw[ Heap.yW] at h1
         split at h1
         · simp at h1
         rename_i hl
         simp only[List.mem_append,not_or] at hl
         have hsame:(jt ops.toList recs (s0 st) (λ_=>true) ops.size).H.get k=(jt ops.toList recs (s0 st) (λj=>listed.getD j false) ops.size).H.get k:=by
           refine Aq λj rj hj hrj hkj=> ?_
           have hji:j≠i:=λe1=>by
             subst e1
             rw[hr] at hrj;simp at hrj;subst hrj
             rw[hres] at hkj
             simp only[Hh.keys,List.mem_append] at hkj
             exact hkj.elim hn hl.1
           have:=S5 hl.2 j rj hrj hkj
           rw[Nat.zero_add] at this
           exact(hi.closed.before (i+1) j i o (by omega) ho he this).symm
         rw[hsame] at h1
         obtain⟨d,Y8⟩:=hi.heap k ob h1
         exact⟨hs.le.dom _ d,hs.keeps hi.step.wf d (λhx=>by rcases List.mem_append.1 hx with hx|hx;exact hn hx;exact hl.1 hx) Y8⟩
noncomputable def W9 (ops:Array Oper)(st:St)(recs:List Rec):aS×St:=
 let s:=Cs ops.toList recs {slots:=st.slots,H:=st.H}
 match lY 0 recs with
 |none=>(.normal,{slots:=s.slots,H:=s.H,tick:=st.tick+ops.size})
 |some (j,v,u,lost)=>(.panic v,{slots:=ID ops.toList st.slots,H:=(s.H.yG (lost++Ex ((nI ops.toList []).getD j 0) 0 recs)).eY u,tick:=st.tick+ops.size})
theorem BA (hm:C.P.prog.follows .mixedOrders=true)(aK:aD C ev){e:aS}{st':St}(Mc:Hj C ev f ops (nI ops.toList []) st.tick 0 ops.toList {slots:=st.slots,H:=st.H} none=some recs)
 (hfree:∀(i j:Nat) (x y:Oper) (rx ry:Rec),i<j->ops.toList[i]?=some x->ops.toList[j]?=some y->recs[i]?=some rx->recs[j]?=some ry->iC (nI ops.toList []) i j=true\/vL ops x y rx ry=true\/(mo ops x y=true/\Zb C ev f ops st recs i x rx ry))
 (aly:xy 0 ops.toList=true)(h:W9 ops st recs=(e,st')){G:Gh}{w:World}{a:Act}(hst:yO C G w st a){id:Nat}
 {Q:Exit->Act->World->Prop}(hQ:∀ex a' w',Good C G w a e st' ex a' w'->Q ex a' w'):(Code.region id ops true).wp C.P Q a w:=by
 obtain⟨h1,h2⟩:=ad4 (l:=ops.toList) (recs:=recs) (s0:=s0 st) (D:=λ_=>true) (λ_=>rfl) (i:=0) Mc (by simp) (by simp)
 have hd:zf C ev f ops st recs:=⟨by simpa using h1,λj o ho=>by have:=h2 j o ho;simpa using this,hfree,aly⟩
 have ahe:Cs ops.toList recs {slots:=st.slots,H:=st.H}=jt ops.toList recs (s0 st) (λ_=>true) ops.size:=by
  have:=WY (l:=ops.toList) (recs:=recs) (s0:=s0 st) (D:=λ_=>true) (λ_=>rfl) (os:=ops.toList) (rs:=recs) (i:=0) h1.symm (by simp) (by simp);simpa [jt] using this
 refine wp_region_any hm ?_
 have hw':World:={w with drawn:=w.drawn+1}
 have hstep:ei G w G {w with drawn:=w.drawn+1}:=⟨.refl G,⟨hst.wf.F,hst.wf.inj,hst.wf.lt⟩,λ_ _ _=>⟨rfl,rfl⟩,λ_ _ _=>⟨rfl,λ_=>rfl⟩,λ_ h=>.inl h,λk h=>.inl ⟨k,h,rfl,.inl rfl⟩,Nat.le_refl _,rfl,rfl,rfl⟩
 have qy:yO C G {w with drawn:=w.drawn+1} st a:=⟨hstep.wf,hst.kg,hst.slots,hst.heap,hst.fresh⟩
 refine Zh aK hd qy (Q:=Q) (e:=e) (st':=st') (λex a' w' hg=>hQ ex a' w' (Good.comp hstep rfl hg)) (λhp=> ?_) (λj v u l hp=> ?_) ops.size _ G _ a (by simp) ?_ ?_
 ·simp only[W9,hp,ahe,Prod.mk.injEq] at h;exact⟨h.1.symm,h.2.symm⟩
 ·simp only[W9,hp,ahe,Prod.mk.injEq] at h;exact⟨h.1.symm,h.2.symm⟩
 ·simp[List.countP_replicate]
 ·have hnone:jt ops.toList recs (s0 st) (λj=>(Array.replicate ops.size false).getD j false) ops.size=s0 st:=by
   rw[tL (m:=0) (by omega) (λj _ hj=>by simp[Array.getD_eq_getD_getElem?,Array.getElem?_replicate,hj])];rfl
  refine⟨Step.refl qy.wf _ _,qy.kg,rfl,by rw[hnone];exact qy.slots,by rw[hnone];exact qy.heap,λp hp=> ?_,λj x hD=> ?_,λj r v u l hD=> ?_⟩
  ·obtain⟨n,q,e1,h3⟩:=qy.fresh p hp;exact⟨n,q,e1,.inl h3⟩
  ·exfalso;simp only[Array.getD_eq_getD_getElem?,Array.getElem?_replicate] at hD;split at hD<;>simp at hD
  ·exfalso;simp only[Array.getD_eq_getD_getElem?,Array.getElem?_replicate] at hD;split at hD<;>simp at hD
theorem Jf (hm:C.P.prog.follows .mixedOrders=true)(aK:aD C ev){e:aS}{st':St}(h:Ak C ev f ops st=some (e,st')){G:Gh}{w:World}{a:Act}(hst:yO C G w st a){id:Nat}
 {Q:Exit->Act->World->Prop}(hQ:∀ex a' w',Good C G w a e st' ex a' w'->Q ex a' w'):(Code.region id ops true).wp C.P Q a w:=by
 unfold Ak at h
 simp only at h
 split at h
 ·simp at h
 rename_i recs Mc
 split at h
 case isFalse=>simp at h
 rename_i hfree
 refine BA hm aK Mc (λi j x y rx ry hij hx hy CN hry=>(U4 hfree.1 hij hx hy CN hry).imp (λh=>h) .inl) hfree.2 ?_ hst hQ
 unfold W9
 simp only
 split at h
 ·rename_i hp;cases h;simp only[hp]
 ·rename_i hp;cases h;simp only[hp]
end
end Go.Abs
namespace Go.Abs
open Go
section
variable {C:ez}{ev:bt}{f:FuncId}
theorem Good.nM {G:Gh}{w:World}{a:Act}{st':St}{ex:Exit}{a':Act}{w':World}(h:Good C G w a .normal st' ex a' w'):ex=.normal/\a'.defers=a.defers/\∃G',ei G w G' w'/\yO C G' w' st' a':=by
 obtain⟨G',h1,h2,h3,h4⟩:=h;exact⟨h3,h2,G',h1,h4⟩
theorem Good.gL {G:Gh}{w:World}{a:Act}{e:aS}{st':St}{ex:Exit}{a':Act}{w':World}(h:Good C G w a e st' ex a' w')(he:e≠ .normal):ex≠ .normal:=by
 obtain⟨G',h1,h2,h3⟩:=h;cases e with
 |normal=>exact absurd rfl he
 |exit id=>intro e;simp only at h3;rw[e] at h3;simp at h3
 |ret=>intro e;simp only at h3;rw[e] at h3;simp at h3
 |panic v=>intro e;obtain⟨x,h4,_⟩:=h3;rw[e] at h4;simp at h4
theorem gM {next:Act->World->Prop}{Q:Exit->Act->World->Prop}{ex:Exit}{a:Act}{w:World}(h:ex≠ .normal)(hq:Q ex a w):Exit.then next Q ex a w:=by
 cases ex<;>first|exact hq|exact absurd rfl h
def Zj (C:ez)(c:Code)(body:St->Option (aS×St)):Prop:=∀st e st',body st=some (e,st')->∀(G:Gh) (w:World) (a:Act),yO C G w st a->c.wp C.P (Good C G w a e st') a w
theorem Zk {c:Code}{body:St->Option (aS×St)}(h:Zj C c body):∀(n:Nat) (st:St) (e:aS) (st':St),IE body n st=some (e,st')->∀(G:Gh) (w:World) (a:Act),yO C G w st a->
 ∀Q:Exit->Act->World->Prop,(∀ex a' w',Good C G w a e st' ex a' w'->Q ex a' w')->Code.rounds C.P c Q n a w:=by
 intro n
 induction n with
 |zero=>intro st e st' hi;simp[IE] at hi
 | succ n ih=>
   intro st e st' hi G w a hst Q hQ
   simp only[IE] at hi
   rw[rounds_succ]
   split at hi
   · rename_i st1 hb
     refine wp_mono (h st _ _ hb G w a hst) λex a1 w1 hg=> ?_
     obtain⟨rfl,hd,G1,hs,jk⟩:=hg.nM
     exact ih st1 e st' hi G1 w1 a1 jk Q λex a' w' hg'=>hQ _ _ _ (Good.comp hs hd hg')
   · rename_i hne
     have he:e≠ .normal:=λe1=>by subst e1;exact hne st' hi
     refine wp_mono (h st _ _ hi G w a hst) λex a1 w1 hg=>gM (hg.gL he) (hQ _ _ _ hg)
theorem ve (hm:C.P.prog.follows .mixedOrders=true)(aK:aD C ev){fuel:Nat}:∀(c:Code),Zj C c (evalCode C ev f fuel c):=by
 intro c;induction c with
 | skip=>
   intro st e st' h G w a hst
   simp[evalCode] at h
   obtain⟨rfl,rfl⟩:=h
   exact wp_skip ⟨G,Step.refl hst.wf _ _,rfl,rfl,hst⟩
 | label l=>
   intro st e st' h G w a hst
   simp[evalCode] at h
   obtain⟨rfl,rfl⟩:=h
   exact wp_label ⟨G,Step.refl hst.wf _ _,rfl,rfl,hst⟩
 | region id ops draw=>
   intro st e st' h G w a hst
   simp only[evalCode] at h
   cases draw with
   | true=>
     rw[if_pos rfl] at h
     exact Jf hm aK h hst λ_ _ _ hg=>hg
   | false=>
     simp only[Bool.false_eq_true,if_false] at h
     exact wp_region_list (ad2 aK _ _ _ _ h G w a hst _ λ_ _ _ hg=>hg)
 | seq x y ihx ihy=>
   intro st e st' h G w a hst
   simp only[evalCode] at h
   refine wp_seq ?_
   split at h
   · rename_i st1 hb
     refine wp_mono (ihx st _ _ hb G w a hst) λex a1 w1 hg=> ?_
     obtain⟨rfl,hd,G1,hs,jk⟩:=hg.nM
     exact wp_mono (ihy st1 _ _ h G1 w1 a1 jk) λex a' w' hg'=>Good.comp hs hd hg'
   · rename_i hne
     have he:e≠ .normal:=λe1=>by subst e1;exact hne st' h
     exact wp_mono (ihx st _ _ h G w a hst) λex a1 w1 hg=>gM (hg.gL he) hg
 | cond c x y ihx ihy=>
   intro st e st' h G w a hst
   simp only[evalCode] at h
   split at h
   · rename_i hc
     exact wp_cond_true (cK hst.slots hst.kg hc).bool (ihx st _ _ h G w a hst)
   · rename_i hc
     exact wp_cond_false (cK hst.slots hst.kg hc).bool (ihy st _ _ h G w a hst)
   · simp at h
 | block id x ihx=>
   intro st e st' h G w a hst
   simp only[evalCode] at h
   refine wp_block ?_
   split at h
   · rename_i id' st1 hb
     refine wp_mono (ihx st _ _ hb G w a hst) λex a1 w1 hg=> ?_
     obtain⟨G1,hs,hd,rfl,jk⟩:=hg
     split at h
     · rename_i e1
       simp at h
       obtain⟨rfl,rfl⟩:=h
       simp only[Exit.inBlock,e1,if_true]
       exact⟨G1,hs,hd,rfl,jk⟩
     · rename_i e1
       simp at h
       obtain⟨rfl,rfl⟩:=h
       simp only[Exit.inBlock,e1,if_false]
       exact⟨G1,hs,hd,rfl,jk⟩
   · rename_i hne
     refine wp_mono (ihx st _ _ h G w a hst) λex a1 w1 hg=> ?_
     cases e with
     |normal=>obtain⟨G1,hs,hd,rfl,jk⟩:=hg;exact⟨G1,hs,hd,rfl,jk⟩
     |exit id'=>exact absurd h (hne id' st')
     |ret=>obtain⟨G1,hs,hd,rfl,jk⟩:=hg;exact⟨G1,hs,hd,rfl,jk⟩
     |panic v=>obtain⟨G1,hs,hd,x,rfl,jk⟩:=hg;exact⟨G1,hs,hd,x,rfl,jk⟩
 | loop x ihx=>
   intro st e st' h G w a hst
   simp only[evalCode] at h
   exact wp_loop_rounds fuel (Zk ihx fuel st e st' h G w a hst _ λ_ _ _ hg=>hg)
 | exit id=>
   intro st e st' h G w a hst
   simp[evalCode] at h
   obtain⟨rfl,rfl⟩:=h
   exact wp_exit ⟨G,Step.refl hst.wf _ _,rfl,rfl,hst⟩
 | ret=>
   intro st e st' h G w a hst
   simp[evalCode] at h
   obtain⟨rfl,rfl⟩:=h
   exact wp_ret ⟨G,Step.refl hst.wf _ _,rfl,rfl,hst⟩
 |_=>intro st e st' h;simp[evalCode] at h
end
end Go.Abs
namespace Go.Abs
open Go
section
variable {C:ez}{ev:bt}{f:FuncId}{G:Gh}{w:World}
def NH (tmps:Array Value):ResultVar->Sem Value
 |.tmp t=>pure (tmps.getD t undef)
 |.cell x t=>do loadVar t (← asAddr (tmps.getD x undef))
theorem S8 (fn:Func)(tmps:Array Value):results fn tmps=(do let vs ← fn.results.mapM (NH tmps);pure (if h:vs.size=1 then vs[0] else .tuple vs):Sem Value):=by
 unfold results;exact congrArg (λg:ResultVar->Sem Value=>(do let vs ← fn.results.mapM g;pure (if h:vs.size=1 then vs[0] else .tuple vs):Sem Value)) (funext λx=>by cases x<;>rfl)
theorem S9 {st:St}{a:Act}(hst:yO C G w st a):∀{rs:List ResultVar} {vs:List TV},l5 C st rs=some vs->
 ∃us:List Value,(rs.mapM (NH a.tmps):Sem (List Value)).run C.P w=.ok us w/\ec G vs us:=by
 intro rs
 induction rs with
 |nil=>intro vs h;simp[l5] at h;subst h;exact⟨[],by simp,ec.nil G⟩
 | cons r rs ih=>
  intro vs h
  cases r with
  |tmp t=>
   simp only[l5] at h
   cases h1:l5 C st rs<;>simp only[h1,reduceCtorEq] at h
   simp only[Option.some.injEq] at h
   subst h
   obtain⟨us,h2,h3⟩:=ih h1
   refine⟨a.tmps.getD t undef::us, ?_,ec.cons (hst.slots.getD t) h3⟩
   rw[List.mapM_cons]
   rw[iT (a:=a.tmps.getD t undef) (w':=w) rfl,iT h2]
   rfl
  |cell x t=>
   simp only[l5] at h
   cases h0:loadT C.P st.H t (st.slots.getD x dh)<;>cases h1:l5 C st rs<;>simp only[h0,h1,reduceCtorEq] at h
   simp only[Option.some.injEq] at h
   subst h
   obtain⟨us,h2,h3⟩:=ih h1
   obtain⟨u,h4,h5⟩:=Gn hst.heap hst.wf (hst.slots.getD x) h0
   refine⟨u::us, ?_,ec.cons h5 h3⟩
   have h4':(NH a.tmps (.cell x t)).run C.P w=.ok u w:=h4
   rw[List.mapM_cons]
   rw[iT h4',iT h2]
   rfl
theorem Jg {st:St}{a:Act}{fn:Func}{vs:List TV}(hst:yO C G w st a)(h:l5 C st fn.results.toList=some vs):∃v,(results fn a.tmps).run C.P w=.ok v w/\VR G (Ct vs) v:=by
 obtain⟨us,h1,h2⟩:=S9 hst h;rw[S8,Array.mapM_eq_mapM_toList];have h3:(List.toArray<$>(fn.results.toList.mapM (NH a.tmps):Sem (List Value))).run C.P w=.ok us.toArray w:=by
  rw[map_eq_pure_bind];rw[iT h1];rfl
 refine⟨_,iT h3, ?_⟩;cases vs with
 |nil=>
  have:=h2.1;simp at this;subst this
  exact o5 h2
 | cons x r=>
  cases r with
  |nil=>
   obtain⟨u,us',rfl,h5,h6⟩:=h2.j5
   have:=h6.1;simp at this;subst this
   exact h5
  |cons y r=>
   have hl:=h2.1
   simp at hl
   rw[dif_neg (by simp;omega)]
   exact o5 h2
theorem Gq {H:Heap}:∀{n i:Nat} {os:List aP},tE H i n=some os->os.length=n/\∀j o,os[j]?=some o->H.get (.arg (i+j))=some o:=by
 intro n;induction n with
 |zero=>intro i os h;simp[tE] at h;subst h;simp
 | succ n ih=>
  intro i os h
  simp only[tE] at h
  cases h1:H.get (.arg i)<;>cases h2:tE H (i+1) n<;>simp[h1,h2] at h
  subst h
  obtain⟨e1,e2⟩:=ih h2
  refine⟨by simp[e1],λj o hj=> ?_⟩
  cases j with
  |zero=>simp at hj;subst hj;exact h1
  |succ j=>
   have:=e2 j o (by simpa using hj)
   rw[show i+1+j=i+(j+1) from by omega] at this
   exact this
theorem xH {H:Heap}:∀{n i:Nat} {j:Nat} {o:aP},(uY H i n)[j]?=some (some o)->H.get (.arg (i+j))=some o:=by
 intro n;induction n with
 |zero=>intro i j o h;simp[uY] at h
 | succ n ih=>
   intro i j o h
   simp only[uY] at h
   cases j with
   | zero=>
     simp at h
     split at h
     · rename_i o' ho
       split at h
       · simp at h
       · simp at h;subst h;exact ho
     · simp at h
   | succ j=>
     have:=ih (i:=i+1) (j:=j) (o:=o) (by simpa using h)
     rw[show i+1+j=i+(j+1) from by omega] at this
     exact this
theorem zg {H:Heap}:∀{ks:List Nm} {h:Heap},o4 H ks=some h->∀k o,(k,o)∈h->k.jf=true/\H.get k=some o:=by
 intro ks;induction ks with
 |nil=>intro h hh;simp[o4] at hh;subst hh;simp
 | cons x r ih=>
   intro h hh k o hm
   simp only[o4] at hh
   cases h1:o4 H r with
   |none=>simp[h1] at hh
   | some h'=>
     simp only[h1] at hh
     split at hh
     · rename_i hl
       cases h2:H.get x with
       |none=>simp[h2] at hh
       | some o'=>
         simp[h2] at hh
         subst hh
         rcases List.mem_cons.1 hm with e|hm
         · simp at e;obtain⟨rfl,rfl⟩:=e;exact⟨hl,h2⟩
         · exact ih h1 k o hm
     · simp at hh;subst hh;exact ih h1 k o hm
theorem s9 {fn:Func}{n:Nat}{st:St}{a:Act}{r:bh}{G0:Gh}{w0:World}(h:finish C fn n st=some r)(hs:ei G0 w0 G w)(hst:yO C G w st a):
 ∃v,(results fn a.tmps).run C.P w=.ok v w/\yH G0 w0 n r (.returned v) w:=by
 unfold finish at h
 split at h
 ·simp at h
 rename_i vs hvs
 obtain⟨v,hv,hr⟩:=Jg hst hvs
 refine⟨v,hv, ?_⟩
 dsimp only at h
 have main:∀(x:TV) (ks:List Nm),VR (G.frozen w st.H ks) x v->(match tE (st.H.eY (eO st.H ks)) 0 n with
  |none=>none
  | some os=>match reach (st.H.eY (eO st.H ks)) iI [] (x.names++os.flatMap aP.names) with
    |none=>none
    |some R=>(o4 (st.H.eY (eO st.H ks)) R).map λh=>bh.ret x os h)=some r->yH G0 w0 n r (.returned v) w:=by
  intro x ks hx h
  have qz:=kN hst.wf hst.heap ks
  have hH1:HR (G.frozen w st.H ks) w (st.H.eY (eO st.H ks)):=HR.eY qz hst.wf hst.heap (λk o hm=>wm hst.wf hst.heap hm) (λk _ hk=>pn hk.1 hk.2)
  split at h
  ·simp at h
  rename_i os hos
  split at h
  ·simp at h
  rename_i R hR
  cases Y9:o4 (st.H.eY (eO st.H ks)) R with
  |none=>rw[Y9] at h;simp at h
  | some nw=>
    rw[Y9] at h
    simp only[Option.map_some,Option.some.injEq] at h
    subst h
    obtain⟨e1,e2⟩:=Gq hos
    refine⟨v,G.frozen w st.H ks,rfl,hs.comp (qz.mono (λ_ _ _=>trivial) (λ_ hk=>hk.elim)),e1,λi o ho=> ?_,λk o hm=> ?_,hx⟩
    · have:=e2 i o ho
      rw[Nat.zero_add] at this
      exact hH1 _ _ this
    · obtain⟨e3,e4⟩:=zg Y9 k o hm
      exact⟨e3,hH1 _ _ e4⟩
 cases hfz:sF st.H ji (Ct vs) with
 | none=>
   rw[hfz] at h
   exact main (Ct vs) [] (hr.mono (kN hst.wf hst.heap []).le) h
 | some q=>
   obtain⟨x,ks⟩:=q
   rw[hfz] at h
   exact main (.t x) ks (.t _ _ (IP hst.wf hst.heap ks ji _ _ _ _ hfz (λ_ hk=>hk) hr)) h
theorem Zl (hm:C.P.prog.follows .mixedOrders=true)(aK:aD C ev){fuel:Nat}{args:List TV}{bu:List aP}{r:bh}(h:Pv C ev fuel f args bu=some r){vs:List Value}(hw:WF G w)(hg:jK C G)(had:E3 G bu.length)
 (hH:HR G w (dz 0 bu))(hv:ec G args vs):qw C.P f vs.toArray w (yH G w bu.length r):=by
 unfold Pv at h
 split at h
 ·simp at h
 rename_i fn NI
 have hfn:=C.P.YB _ _ NI
 split at h
 ·simp at h
 rename_i body hbody
 split at h
 ·simp at h
 rename_i hname
 have hst:yO C G w {slots:=args++List.replicate (fn.ntmps - args.length) dh,H:=dz 0 bu,tick:=0} {tmps:=vs.toArray++Array.replicate (fn.ntmps - vs.toArray.size) undef,defers:=[]}:=by
  refine⟨hw,hg, ?_,hH,λp hp=>absurd hp (had.2 p)⟩;have e:(vs.toArray++Array.replicate (fn.ntmps - vs.toArray.size) undef).toList=vs++List.replicate (fn.ntmps - args.length) undef:=by simp[hv.1]
  unfold SR;rw[e];refine ec.append hv ⟨by simp,λj c u hc hu=> ?_⟩;rw[List.getElem?_replicate] at hc hu;by_cases hl:j<fn.ntmps - args.length
  ·rw[if_pos hl] at hc hu;simp at hc hu;subst hc;subst hu;exact q5 G
  ·rw[if_neg hl] at hc;simp at hc
 refine .inl ⟨?_,calls_of_wp hfn hbody ?_⟩
 ·simp[callFunc,hfn,hname,hbody]
 ·split at h
  ·rename_i st he;refine wp_mono (ve hm aK body _ _ _ he G w _ hst) λex a' w' hgd=> ?_
   obtain⟨G',hs,hd,rfl,qy⟩:=hgd;exact⟨hd,s9 h hs qy⟩
  ·rename_i st he;refine wp_mono (ve hm aK body _ _ _ he G w _ hst) λex a' w' hgd=> ?_
   obtain⟨G',hs,hd,rfl,qy⟩:=hgd;exact⟨hd,s9 h hs qy⟩
  ·rename_i v st he;split at h
   ·simp at h
   ·simp only[Option.some.injEq] at h;subst h;refine wp_mono (ve hm aK body _ _ _ he G w _ hst) λex a' w' hgd=> ?_
    obtain⟨G',hs,hd,x,rfl,hx,hH',_⟩:=hgd;refine⟨hd,x,G',rfl,hs,λi o ho=> ?_,hx⟩;have:=xH ho;rw[Nat.zero_add] at this;exact hH' _ _ this
  ·simp at h
def Gr (C:ez)(X:Ext):Prop:=∀g s,X g=some s->∀ev,aD C ev->∀args bu r,s ev args bu=some r->∀(G:Gh) (w:World) (vs:List Value),WF G w->jK C G->E3 G bu.length->
 HR G w (dz 0 bu)->ec G args vs->qw C.P g vs.toArray w (yH G w bu.length r)
theorem CO (hm:C.P.prog.follows .mixedOrders=true){X:Ext}(hX:Gr C X):∀n,aD C (IF C X n):=by
 intro n;induction n with
 |zero=>intro g args bu r h;simp[IF] at h
 | succ n ih=>
   intro g args bu r h G w vs hw hg had hH hv
   simp only[IF] at h
   split at h
   · rename_i s hs
     exact hX g s hs _ ih args bu r h G w vs hw hg had hH hv
   · exact Zl hm ih h hw hg had hH hv
end
end Go.Abs
