/- More of it. -/
import Derived.Test.YtacmmaaabfhhoaaGreatDoorU
import Derived.Test.YtacmmaaabfhhoaaGreatDoorV
import Derived.Test.YtacmmaaabfhhoaaGreatDoorW
import Derived.Test.YtacmmaaabfhhoaaGreatDoorQ
import Derived.Test.YtacmmaaabfhhoaaGreatDoorS
import Derived.Test.YtacmmaaabfhhoaaGreatDoorR
set_option linter.unusedVariables false
set_option linter.unusedSimpArgs false
namespace Go.Proofs.YtacmmaaabfhhoaaGreatDoor.w
open Go Go.Abs
set_option maxRecDepth 100000
set_option maxHeartbeats 1000000
noncomputable section
theorem jN {α β:Type}[Inhabited β]{P:α->Prop}{Q:α->β->Prop}(h:∀a,P a->∃b,Q a b):∃f:α->β,∀a,P a->Q a (f a):=
 Classical.axiomOfChoice (r:=λa b=>P a->Q a b) λa=>by
  by_cases hp:P a
  ·obtain⟨b,hb⟩:=h a hp;exact⟨b,λ_=>hb⟩
  ·exact⟨default,λh=>absurd h hp⟩
theorem yR {C:cE}{β:Type}[Inhabited β]{g:FuncId}{P:Tree->Prop}(mk:β->Tree)(h:∀x,P x->∃r:β,ai C g [.t x] [] (.ret (.t (mk r)) [] [])):∃f:Tree->β,∀x,P x->ai C g [.t x] [] (.ret (.t (mk (f x))) [] []):=jN h
theorem EG {C:cE}{β:Type}[Inhabited β]{g:FuncId}{P:Tree->Tree->Prop}(mk:β->Tree)(h:∀x y,P x y->∃r:β,ai C g [.t x,.t y] [] (.ret (.t (mk r)) [] [])):
 ∃f:Tree->Tree->β,∀x y,P x y->ai C g [.t x,.t y] [] (.ret (.t (mk (f x y))) [] []):=by
 obtain⟨f,hf⟩:=jN (α:=Tree×Tree) (P:=λp=>P p.1 p.2) (Q:=λp r=>ai C g [.t p.1,.t p.2] [] (.ret (.t (mk r)) [] [])) λp hp=>h p.1 p.2 hp
 exact⟨λx y=>f (x,y),λx y hp=>hf (x,y) hp⟩
def PI (x:Tree):Prop:=∃n,x=.int .u8 n
def PS (x:Tree):Prop:=∃s,x=.str s
def t1 {β:Type}(mk:β->Tree)(P:Tree->Prop)(f:Tree->β):List TV->List aO->Option bz:=ct1 P λx=>.ret (.t (mk (f x))) [] []
def t2 {β:Type}(mk:β->Tree)(P:Tree->Tree->Prop)(f:Tree->Tree->β):List TV->List aO->Option bz:=ct2 P λx y=>.ret (.t (mk (f x y))) [] []
theorem CP {C:cE}{β:Type}{g:FuncId}{mk:β->Tree}{P:Tree->Prop}{f:Tree->β}(h:∀x,P x->ai C g [.t x] [] (.ret (.t (mk (f x))) [] [])):mX C g (t1 mk P f):=Y3 h
theorem EH {C:cE}{β:Type}{g:FuncId}{mk:β->Tree}{P:Tree->Tree->Prop}{f:Tree->Tree->β}(h:∀x y,P x y->ai C g [.t x,.t y] [] (.ret (.t (mk (f x y))) [] [])):mX C g (t2 mk P f):=QJ h
theorem CQ {β:Type}{g:FuncId}{mk:β->Tree}{P:Tree->Prop}{f:Tree->β}{ev:aX}{x:Tree}(h:P x):mY g (t1 mk P f) ev g [.t x] []=some (.ret (.t (mk (f x))) [] []):=Y4 h
theorem EI {β:Type}{g:FuncId}{mk:β->Tree}{P:Tree->Tree->Prop}{f:Tree->Tree->β}{ev:aX}{x y:Tree}(h:P x y):mY g (t2 mk P f) ev g [.t x,.t y] []=some (.ret (.t (mk (f x y))) [] []):=QK h
theorem K6 (m:Int):∃f:Tree->Bool,∀x,PI x->ai (cf m) 187 [.t x] [] (.ret (.t (.bool (f x))) [] []):=by
 obtain⟨fd,hd⟩:=yR (C:=cf m) (g:=185) (P:=PI) Tree.bool (λx ⟨n,e⟩=>e▸I0 aI n);obtain⟨fl,hl⟩:=yR (C:=cf m) (g:=188) (P:=PI) Tree.bool (λx ⟨n,e⟩=>e▸Oo aI n);refine yR (P:=PI) Tree.bool λx ⟨n,e⟩=>e▸RZ (av (CP hl) (av (CP hd) aI)) (λn=>fl (.int .u8 n)) (λn=>fd (.int .u8 n)) (λn=>CQ ⟨n,rfl⟩) (λn=>nT rfl (CQ ⟨n,rfl⟩)) n
def CR (s:List UInt8):Tree:=.sl (s.map λb=>.int .u8 b.toNat)
theorem R5 (m:Int):∃f:Tree->Tree->Bool,∀x y,((∃s:List UInt8,s.length<=64/\x=CR s)/\y=.fn (.func 187))->ai (cf m) 186 [.t x,.t y] [] (.ret (.t (.bool (f x y))) [] []):=by
 obtain⟨f1,h1⟩:=K6 m;obtain⟨fi,hi⟩:=EG (C:=cf m) (g:=220) (P:=λx y=>(∃s:List UInt8,s.length<=64/\x=CR s)/\y=.fn (.func 187)) (Tree.int .i64) (λx y ⟨⟨s,hs,e⟩,e2⟩=>by
  subst e;subst e2;have hform:∀e∈s.map (λb:UInt8=>Tree.int .u8 b.toNat),∃n,e=.int .u8 n:=λe he=>by obtain⟨b,_,rfl⟩:=List.mem_map.1 he;exact⟨_,rfl⟩
  exact Zz (av (CP h1) aI) _ (by rw[List.length_map];omega) hform 187 f1 (λe he=>CQ (hform e he)))
 exact EG Tree.bool λx y hp=>ZA (av (EH hi) aI) x y (fi x y) (EI hp)
theorem R6 (m:Int):∃f:Tree->Tree->Bool,∀x y,(x=.sl (uL.map .str)/\PS y)->ai (cf m) 179 [.t x,.t y] [] (.ret (.t (.bool (f x y))) [] []):=by
 obtain⟨fi,hi⟩:=EG (C:=cf m) (g:=162) (P:=λx y=>x=.sl (uL.map .str)/\PS y) (Tree.int .i64) (λx y ⟨e,s,e2⟩=>by
  subst e;subst e2;exact ZD aI _ (by decide) (λe he=>by obtain⟨b,_,rfl⟩:=List.mem_map.1 he;exact⟨_,rfl⟩) s)
 exact EG Tree.bool λx y hp=>ZE (av (EH hi) aI) x y (fi x y) (EI hp)
theorem Ot (m:Int):∃f:Tree->Bool,∀x,PS x->ai (cf m) 145 [.t x] [] (.ret (.t (.bool (f x))) [] []):=by
 obtain⟨fd,hd⟩:=yR (C:=cf m) (g:=185) (P:=PI) Tree.bool (λx ⟨n,e⟩=>e▸I0 aI n);obtain⟨fb,hb⟩:=R5 m;obtain⟨fc,hc⟩:=R6 m;have hw:mX (cf m) 184 (zI uM mI):=λargs aP r h=>live.I2 m mI aI args aP r h
 refine yR (P:=PS) Tree.bool λx ⟨s,e⟩=>e▸Wg (ev:=mY 184 (zI uM mI) (mY 185 (t1 .bool PI fd) (mY 179 (t2 .bool (λx y=>x=.sl (uL.map .str)/\PS y) fc) (mY 186 (t2 .bool (λx y=>(∃s:List UInt8,s.length<=64/\x=CR s)/\y=.fn (.func 187)) fb) mI))))
  (av hw (av (CP hd) (av (EH hc) (av (EH hb) aI)))) (λn=>fd (.int .u8 n)) (λs=>fc (.sl (uL.map .str)) (.str s)) (λs=>fb (CR s) (.fn (.func 187))) rfl
  (λn=>nT rfl (CQ ⟨n,rfl⟩)) (λs=>nT rfl (nT rfl (EI ⟨rfl,s,rfl⟩))) (λs hs=>nT rfl (nT rfl (nT rfl (EI (x:=CR s) ⟨⟨s,hs,rfl⟩,rfl⟩)))) s
theorem Gu (m:Int):∃f:Tree->Bool,∀x,PS x->ai (cf m) 88 [.t x] [] (.ret (.t (.bool (f x))) [] []):=by
 obtain⟨fn,hn⟩:=Ot m;obtain⟨f1,h1⟩:=yR (C:=cf m) (g:=144) (P:=PS) Tree.bool (λx ⟨s,e⟩=>e▸Gt (av (CP hn) aI) (λs=>fn (.str s)) (λs=>CQ ⟨s,rfl⟩) s);obtain⟨pc,hpc⟩:=jN (α:=List UInt8) (β:=List (List UInt8)) (P:=λs=>s.length<=64) (Q:=λs l=>l.length<=s.length+1/\ai (cf m) 143 [.t (.str s),.t (.str [58,58])] [] (.ret (.t (.sl (l.map .str))) [] [])) λs hs=>R4 s [58,58] (by omega) (by decide)
 obtain⟨fi,hi⟩:=EG (C:=cf m) (g:=182) (P:=λx y=>(∃s:List UInt8,s.length<=64/\x=.sl ((pc s).map .str))/\y=.fn (.func 144)) (Tree.int .i64) (λx y ⟨⟨s,hs,e⟩,e2⟩=>by
  subst e;subst e2;have hform:∀e∈(pc s).map Tree.str,∃u,e=.str u:=λe he=>by obtain⟨b,_,rfl⟩:=List.mem_map.1 he;exact⟨_,rfl⟩
  exact ZB (av (CP h1) aI) _ (by rw[List.length_map];have:=(hpc s hs).1;omega) hform 144 f1 (λe he=>CQ (hform e he)))
 obtain⟨fc,hc⟩:=EG (C:=cf m) (g:=142) (P:=λx y=>(∃s:List UInt8,s.length<=64/\x=.sl ((pc s).map .str))/\y=.fn (.func 144)) Tree.bool λx y hp=>ZC (av (EH hi) aI) x y (fi x y) (EI hp)
 have hsp:mX (cf m) 143 (ct2 (λx y=>(∃s:List UInt8,s.length<=64/\x=.str s)/\y=.str [58,58]) λx _=>match x with|.str s=>.ret (.t (.sl ((pc s).map .str))) [] []|_=>default):=
  QJ λx y hx=>by obtain⟨⟨s,hs,rfl⟩,rfl⟩:=hx;exact(hpc s hs).2
 exact yR (P:=PS) Tree.bool λx ⟨s,e⟩=>e▸I1 (av hsp (av (EH hc) aI)) pc (λs=>fc (.sl ((pc s).map .str)) (.fn (.func 144))) (λs hs=>QK (x:=.str s) (y:=.str [58,58]) ⟨⟨s,hs,rfl⟩,rfl⟩) (λs hs=>nT rfl (EI ⟨⟨s,hs,rfl⟩,rfl⟩)) s
theorem s9 (m:Int):∃f:Tree->Bool,∀x,PS x->ai (cf m) 39 [.t x] [] (.ret (.t (.bool (f x))) [] []):=by
 obtain⟨fw,hw⟩:=yR (C:=cf m) (g:=77) (P:=λx=>∃s:List UInt8,8<=s.length/\x=.str s) (Tree.int .u64) (λx ⟨s,hs,e⟩=>by
  subst e;match s,hs with
  |b0::b1::b2::b3::b4::b5::b6::b7::r,_=>exact VJ aI b0 b1 b2 b3 b4 b5 b6 b7 r)
 exact yR (C:=cf m) (g:=39) (P:=PS) Tree.bool (λx ⟨s,e⟩=>e▸RY _ (av (CP hw) aI) (λs=>fw (.str s)) (λs hs=>CQ ⟨s,hs,rfl⟩) s)
end
end Go.Proofs.YtacmmaaabfhhoaaGreatDoor.w
namespace Go.Proofs.YtacmmaaabfhhoaaGreatDoor.w
open Go Go.Abs
def Gv:Tree->List UInt8
 |.agg [.str n,_]=>n
 |_=>[]
def ZF:Tree->List UInt8
 |.agg [_,.str n]=>n
 |_=>[]
def sOf:Tree->List UInt8
 |.str s=>s
 |_=>[]
def EJ:Tree->Int
 |.int _ k=>k
 |_=>0
def orI (x y:Int):Int:=if x≠0 then x else y
def zO (a b:List UInt8):Int:=if a<b then -1 else if b<a then 1 else 0
def jH (x y:Tree):Int:=zO (sOf x) (sOf y)
def Dv (x y:Tree):Int:=orI (zO (Gv x) (Gv y)) (zO (ZF x) (ZF y))
def R7:List Tree->Int
 | []=>0
 |y::r=>if EJ y≠0 then EJ y else R7 r
theorem Gw {a b:List UInt8}:zO a b<0↔a<b:=by
 unfold zO;by_cases h1:a<b
 ·simp[h1]
 ·by_cases h2:b<a<;>simp[h1,h2]
theorem nD {a b:List UInt8}:zO a b=0↔a=b:=by
 unfold zO;by_cases h1:a<b
 ·simp only[if_pos h1];exact⟨λh=>by omega,λh=>by subst h;exact absurd h1 (List.lt_irrefl _)⟩
 ·by_cases h2:b<a
  ·simp only[if_neg h1,if_pos h2];exact⟨λh=>by omega,λh=>by subst h;exact absurd h2 h1⟩
  ·simp only[if_neg h1,if_neg h2,true_iff];exact List.le_antisymm (List.not_lt.1 h2) (List.not_lt.1 h1)
theorem R8 {x y:Tree}:Dv x y<0↔Gv x<Gv y\/(Gv x=Gv y/\ZF x<ZF y):=by
 unfold Dv orI;by_cases h:zO (Gv x) (Gv y)=0
 ·rw[if_neg (by simpa using h)];have e:=nD.1 h;rw[Gw,e];exact⟨λh=>.inr ⟨rfl,h⟩,λh=>h.elim (λh=>absurd h (List.lt_irrefl _)) λh=>h.2⟩
 ·rw[if_pos h,Gw];exact⟨.inl,λq=>q.elim id λq=>absurd (nD.2 q.1) h⟩
theorem CS {x y:Tree}:Dv x y=0↔Gv x=Gv y/\ZF x=ZF y:=by
 unfold Dv orI;by_cases h:zO (Gv x) (Gv y)=0
 ·rw[if_neg (by simpa using h),nD];exact⟨λg=>⟨nD.1 h,g⟩,λg=>g.2⟩
 ·rw[if_pos h];exact⟨λg=>absurd g h,λg=>absurd (nD.2 g.1) h⟩
theorem Ou {x y z:Tree}(h1:Dv x y<0)(h2:Dv y z<0):Dv x z<0:=by
 rw[R8] at*;rcases h1 with h1|⟨e1,h1⟩<;>rcases h2 with h2|⟨e2,h2⟩
 ·exact .inl (List.lt_trans h1 h2)
 ·exact .inl (e2▸h1)
 ·exact .inl (e1▸h2)
 ·exact .inr ⟨e1.trans e2,List.lt_trans h1 h2⟩
theorem K7 {x:Tree}:¬Dv x x<0:=λh=>by
 rw[CS.2 ⟨rfl,rfl⟩] at h;exact absurd h (by decide)
theorem Wh {x y:Tree}(h:¬Dv x y<0)(h2:¬Dv y x<0):Dv x y=0:=by
 rw[R8] at h h2;rw[CS];have n1:¬Gv x<Gv y:=λq=>h (.inl q)
 have n2:¬Gv y<Gv x:=λq=>h2 (.inl q)
 have e:Gv x=Gv y:=List.le_antisymm (List.not_lt.1 n2) (List.not_lt.1 n1);refine⟨e,List.le_antisymm (List.not_lt.1 λq=>h2 (.inr ⟨e.symm,q⟩)) (List.not_lt.1 λq=>h (.inr ⟨e,q⟩))⟩
theorem ZG {a b c d:List UInt8}:Dv (.agg [.str a,.str b]) (.agg [.str c,.str d])=0↔Tree.agg [.str a,.str b]=Tree.agg [.str c,.str d]:=by
 rw[CS];constructor
 ·rintro ⟨h1,h2⟩;have h1:a=c:=h1;have h2:b=d:=h2;rw[h1,h2]
 ·intro h;simp only[Tree.agg.injEq,List.cons.injEq,Tree.str.injEq,and_true] at h;exact⟨h.1,h.2⟩
theorem ZH:∀(x y:List UInt8),dw x y=decide (x<y)
 | [],[]=>by simp[dw]
 |_::_,[]=>by simp[dw]
 | [],_::_=>by simp[dw]
 |a::x,b::y=>by
  rw[dw,ZH x y]
  simp only[List.cons_lt_cons_iff]
  by_cases h1:a<b<;>by_cases h2:a=b<;>by_cases h3:x<y<;>simp[h1,h2,h3]
theorem ZI {a b:List UInt8}(h:dw a b=true):zO a b=-1:=by
 rw[ZH] at h;exact if_pos (of_decide_eq_true h)
theorem ZJ {a b:List UInt8}(h:dw a b=false)(h2:(!(dw a b||a==b))=false):zO a b=0:=by
 rw[h] at h2;exact nD.2 (by simpa using h2)
theorem ZK {a b:List UInt8}(h:dw a b=false)(h2:(!(dw a b||a==b))=true):zO a b=1:=by
 rw[h] at h2;rw[ZH] at h;have h1:¬a<b:=of_decide_eq_false h;have h3:a≠b:=by simpa using h2
 have h4:b<a:=by
  refine Decidable.byContradiction λg=>h3 (List.le_antisymm (List.not_lt.1 g) (List.not_lt.1 h1))
 unfold zO;rw[if_neg h1,if_pos h4]
theorem ME {y:Tree}(hk:EJ y≠0):∀{l:List Tree} {i:Nat},l[i]?=some y->(∀z∈l.take i,EJ z=0)->R7 l=EJ y
 | [],_,he,_=>by simp at he
 |a::r,0,he,_=>by
  simp only[List.getElem?_cons_zero,Option.some.injEq] at he
  subst he
  exact if_pos hk
 |a::r,i+1,he,h=>by
  have h0:EJ a=0:=h a (by simp)
  show(if EJ a≠0 then EJ a else R7 r)=_
  rw[if_neg (by simp[h0])]
  exact ME hk (by simpa using he) λz hz=>h z (by simp[hz])
theorem I3:∀{l:List Tree},(∀z∈l,EJ z=0)->R7 l=0
 | [],_=>rfl
 |a::r,h=>by
  show(if EJ a≠0 then EJ a else R7 r)=_
  rw[if_neg (by simp[h a (by simp)])]
  exact I3 λz hz=>h z (by simp[hz])
theorem vO {l:List Tree}{i:Nat}{x:Tree}{p:Tree->Prop}(he:l[i]?=some x)(hx:p x)(h:∀z∈l.take i,p z):∀z∈l.take (i+1),p z:=λz hz=>by
 rw[Es he] at hz;rcases List.mem_append.1 hz with hz|hz
 ·exact h z hz
 ·rw[List.mem_singleton.1 hz];exact hx
theorem yS {l:List Tree}{i:Nat}(h:l.length<=i){p:Tree->Prop}(h2:∀z∈l.take i,p z):∀z∈l,p z:=λz hz=>h2 z (by rw[List.take_of_length_le h];exact hz)
def o5:Tree->Tree
 |.agg (.str a:: .str b::_)=>.agg [.str a,.str b]
 |_=>.agg []
def R9 (l:List Tree):Prop:=l.Pairwise λa b=>Dv (o5 a) (o5 b)<0
theorem R9.at {l:List Tree}(h:R9 l){i j:Nat}{a b:Tree}(hij:i<j)(ha:l[i]?=some a)(hb:l[j]?=some b):Dv (o5 a) (o5 b)<0:=by
 obtain⟨h1,rfl⟩:=List.getElem?_eq_some_iff.1 ha;obtain⟨h2,rfl⟩:=List.getElem?_eq_some_iff.1 hb;exact List.pairwise_iff_getElem.1 h i j h1 h2 hij
def Gx (l:List Tree)(u:Tree)(r:Int×Bool):Prop:=∃k:Nat,r.1=(k:Int)/\k<=l.length/\(r.2=true↔∃e,l[k]?=some e/\o5 e=u)/\(R9 l->(∀e∈l.take k,Dv (o5 e) u<0)/\∀e∈l.drop k,¬Dv (o5 e) u<0)
theorem Gx.here {l:List Tree}{r:Int×Bool}{k:Nat}{e:Tree}(h:Gx l (o5 e) r)(hr:R9 l)(he:l[k]?=some e):r=((k:Int),true):=by
 obtain⟨k2,h1,h2,h3,h4⟩:=h;obtain⟨h5,h6⟩:=h4 hr;obtain⟨a,b⟩:=r;have hk:k2=k:=by
  rcases Nat.lt_trichotomy k2 k with g|g|g
  ·have hlt:k<l.length:=(List.getElem?_eq_some_iff.1 he).1;have hx:l[k2]?=some l[k2]:=List.getElem?_eq_getElem (by omega);exact absurd (hr.at g hx he) (h6 _ (List.mem_of_getElem? (i:=0) (by rw[List.getElem?_drop,Nat.add_zero];exact hx)))
  ·exact g
  ·exact absurd (h5 e (List.mem_of_getElem? (i:=k) (by rw[List.getElem?_take,if_pos g];exact he))) K7
 subst hk;have h1:a=(k2:Int):=h1;have h3:b=true:=h3.2 ⟨e,he,rfl⟩;rw[h1,h3]
theorem Gx.none {l:List Tree}{u:Tree}{r:Int×Bool}(h:Gx l u r)(hn:∀e∈l,o5 e≠u):r.2=false:=by
 obtain⟨k,_,_,h3,_⟩:=h;rw[Bool.eq_false_iff];intro g;obtain⟨e,he,hu⟩:=h3.1 g;exact hn e (List.mem_of_getElem? he) hu
def Sb (l:List Tree):Prop:=∀(k:Nat) a b,l[k]?=some a->l[k+1]?=some b->¬Dv (o5 b) (o5 a)<0
def K8 (l:List Tree)(i:Nat):Prop:=∀(k:Nat) a b,i<=k->l[k]?=some a->l[k+1]?=some b->¬Dv (o5 b) (o5 a)<0
theorem K8.last {l:List Tree}:K8 l (l.length - 1):=λk a b hk h1 h2=>by
 have h3:=(List.getElem?_eq_some_iff.1 h2).1;omega
theorem K8.step {l:List Tree}{i:Nat}{a b:Tree}(h:K8 l i)(ha:l[i - 1]?=some a)(hb:l[i]?=some b)(hi:0<i)(hn:¬Dv (o5 b) (o5 a)<0):K8 l (i - 1):=λk x y hk h1 h2=>by
 by_cases e:i<=k
 ·exact h k x y e h1 h2
 ·obtain rfl:k=i - 1:=by omega
  rw[h1] at ha;rw[show i - 1+1=i by omega,hb] at h2;cases ha;cases h2;exact hn
theorem K8.all {l:List Tree}(h:K8 l 0):Sb l:=λk a b h1 h2=>h k a b (Nat.zero_le _) h1 h2
theorem Sb.not {l:List Tree}{i:Nat}{a b:Tree}(ha:l[i - 1]?=some a)(hb:l[i]?=some b)(hi:0<i)(hn:Dv (o5 b) (o5 a)<0):¬Sb l:=λh=>h (i - 1) a b ha (by rw[show i - 1+1=i by omega];exact hb) hn
theorem Sb.ab4 {l:List Tree}(h:Sb l)(hn:(l.map o5).Nodup)(hl:∀e∈l,∃s t,o5 e=.agg [.str s,.str t]):R9 l:=by
 have adj:∀(k:Nat) a b,l[k]?=some a->l[k+1]?=some b->Dv (o5 a) (o5 b)<0:=λk a b h1 h2=>by
  refine Decidable.byContradiction λg=> ?_
  have h3:=Wh g (h k a b h1 h2);obtain⟨s,t,ea⟩:=hl a (List.mem_of_getElem? h1);obtain⟨s2,t2,eb⟩:=hl b (List.mem_of_getElem? h2);have h4:o5 a=o5 b:=by
   rw[ea,eb] at h3 ⊢;exact ZG.1 h3
  have n1:=(List.getElem?_eq_some_iff.1 h1);have n2:=(List.getElem?_eq_some_iff.1 h2);have h5:=List.pairwise_iff_getElem.1 hn k (k+1) (by simpa using n1.1) (by simpa using n2.1) (by omega);obtain⟨m1,rfl⟩:=n1;obtain⟨m2,rfl⟩:=n2;simp only[List.getElem_map] at h5;exact h5 h4
 have far:∀(d k:Nat) a b,l[k]?=some a->l[k+1+d]?=some b->Dv (o5 a) (o5 b)<0:=by
  intro d;induction d with
  |zero=>exactλk a b h1 h2=>adj k a b h1 h2
  |succ d ih=>
   intro k a b h1 h2
   have hlt:=(List.getElem?_eq_some_iff.1 h2).1
   have hx:l[k+1+d]?=some l[k+1+d]:=List.getElem?_eq_getElem (by omega)
   exact Ou (ih k a _ h1 hx) (adj (k+1+d) _ b hx h2)
 refine List.pairwise_iff_getElem.2 λi j hi hj hij=> ?_
 exact far (j - i - 1) i _ _ (List.getElem?_eq_getElem hi) (by rw[show i+1+(j - i - 1)=j by omega];exact List.getElem?_eq_getElem hj)
theorem CT:∀{ks M:List Tree},ks.Nodup->(∀y∈ks,y∈M)->ks.length<=M.length
 | [],_,_,_=>Nat.zero_le _
 | a ::r,M,hn,h=>by
   obtain⟨s,t,rfl⟩:=List.append_of_mem (h a List.mem_cons_self)
   obtain⟨h1,h2⟩:=List.nodup_cons.1 hn
   have:=CT (M:=s++t) h2 λy hy=>by
     have h3:=h y (List.mem_cons_of_mem _ hy)
     rcases List.mem_append.1 h3 with h3|h3
     · exact List.mem_append_left _ h3
     · rcases List.mem_cons.1 h3 with rfl|h3
       · exact absurd hy h1
       · exact List.mem_append_right _ h3
   simp only[List.length_append,List.length_cons] at this ⊢
   omega
theorem EK:∀{M:List Tree},¬M.Nodup->∃s a t,M=s++a::t/\a∈s++t
 | [],h=>absurd List.nodup_nil h
 | a ::r,h=>by
   by_cases ha:a∈r
   · exact⟨[],a,r,rfl,ha⟩
   · obtain⟨s,b,t,e,hb⟩:=EK (M:=r) λh2=>h (List.nodup_cons.2 ⟨ha,h2⟩)
     exact⟨a::s,b,t,by rw[e];rfl,List.mem_cons_of_mem _ hb⟩
theorem K9 {ks M:List Tree}(hn:ks.Nodup)(h:∀y,y∈ks↔y∈M):ks.length<M.length↔¬M.Nodup:=by
 constructor
 ·intro hl hm;have:=CT hm λy hy=>(h y).2 hy
  omega
 ·intro hm;obtain⟨s,a,t,rfl,ha⟩:=EK hm;have:=CT (M:=s++t) hn λy hy=>by
   have h3:=(h y).1 hy;rcases List.mem_append.1 h3 with h3|h3
   ·exact List.mem_append_left _ h3
   ·rcases List.mem_cons.1 h3 with rfl|h3
    ·exact ha
    ·exact List.mem_append_right _ h3
  simp only[List.length_append,List.length_cons] at this ⊢;omega
end Go.Proofs.YtacmmaaabfhhoaaGreatDoor.w
namespace Go.Proofs.YtacmmaaabfhhoaaGreatDoor.w.e
open Go Go.Abs
set_option maxRecDepth 100000
set_option maxHeartbeats 2000000
noncomputable section
theorem Sc (m:Int):∃F:Tree->Int,∀x,(T .bB x)->R1 (cf m) 48 x (.int .i64 (F x))/\(True):=by
 refine yB (P:=λx=>T .bB x) (mk:=λ(r:Int)=>.int .i64 r) (Post:=λx r=>True) λx hx=> ?_
 show ∃r:{r:Int // True},ai (cf m) 48 [.t x] [] (.ret (.t (.int .i64 r.1)) [] []);have dI:=hx;obtain⟨type_1,jW,rfl,gh,dJ⟩:=T.jz dI;obtain⟨I4,Sd⟩:=Gu m;obtain⟨zP,La⟩:=s9 m;obtain⟨ev,az,Se,Lb⟩:∃ev,aF (cf m) ev/\Has ev 88 (pz (λx=>PS x) (λx=>.bool (I4 x)))/\Has ev 39 (pz (λx=>PS x) (λx=>.bool (zP x))):=⟨_,(av (cc (λx h=>(Sd x h))) (av (cc (λx h=>(La x h))) aI)),aD,(aq rfl aD)⟩;refine AX.start 18 1 Tryz.func48 rfl (by decide) rfl rfl (by decide) ?_;refine AX.frames ?_;have zh1:=cg Se (x:=.str type_1) ⟨_,rfl⟩;rcases br ((!(I4 (.str type_1)))) with dF|dF
 ·refine⟨⟨5, ?_⟩,kf ah [oC zh1,oB dF]⟩;trivial
 ·have zh2:=cg Lb (x:=.str jW) ⟨_,rfl⟩;rcases br ((!(zP (.str jW)))) with cW|cW
  ·refine⟨⟨6, ?_⟩,kf ah [oC zh1,oB dF,oC zh2,oB cW]⟩;trivial
  ·rcases br (decide (((jW.length:Nat):Int)>64)) with iB|iB
   ·have th:=of_decide_eq_true iB;refine⟨⟨3, ?_⟩,kf ah [oC zh1,oB dF,oC zh2,oB cW,oB iB]⟩;trivial
   ·have th:=of_decide_eq_false iB;refine⟨⟨0, ?_⟩,kf ah [oC zh1,oB dF,oC zh2,oB cW,oB iB]⟩;trivial
theorem CU (m:Int):∃F:Tree->Int,∀x,(T .bB x)->(R1 (cf m) 48 x (.int .i64 (F x))/\(True))/\((R1 (cf m) 48 x (.int .i64 0)/\(True))->F x=0):=by
 obtain⟨F,hF⟩:=Sc m;classical
 refine⟨λx=>if(R1 (cf m) 48 x (.int .i64 0)/\(True)) then 0 else F x,λx hx=> ?_⟩;by_cases hz:(R1 (cf m) 48 x (.int .i64 0)/\(True))
 ·simp only[if_pos hz];exact⟨⟨hz.1,hz.2⟩,λ_=>trivial⟩
 ·simp only[if_neg hz];exact⟨hF x hx,λh=>absurd h hz⟩
def cuG (m:Int):Tree->Int:=Classical.choose (CU m)
theorem CV (m:Int):∃F:Tree->Int,∀x,(T .bB x)->R1 (cf m) 48 x (.int .i64 (F x))/\((True)/\F x=cuG m x):=⟨cuG m,λx h=>⟨(Classical.choose_spec (CU m) x h).1.1,(Classical.choose_spec (CU m) x h).1.2,rfl⟩⟩
def iZ:Tree->List Tree
 |.sl l=>l
 |_=>[]
theorem Sf (m:Int):∃F:Tree->Bool,∀x,(T .string x)->R1 (cf m) 122 x (.bool (F x))/\((F x)=false):=by
 refine yB (P:=λx=>T .string x) (mk:=λ(r:Bool)=>.bool r) (Post:=λx r=>r=false) λx hx=> ?_
 show ∃r:{r:Bool // r=false},ai (cf m) 122 [.t x] [] (.ret (.t (.bool r.1)) [] []);have dI:=hx;obtain⟨v_1,rfl,gh⟩:=T.cN dI;obtain⟨ev,az⟩:∃ev,aF (cf m) ev:=⟨_,aI⟩;refine AX.start 6 1 Tryz.func122 rfl (by decide) rfl rfl (by decide) ?_;refine AX.frames ?_;refine⟨⟨(!(v_1==v_1)), ?_⟩,kf ah []⟩;simp
theorem EL (m:Int):∃F:Tree->Tree->Int,∀x y,(T .string x/\T .string y)->R2 (cf m) 70 x y (.int .i64 (F x y))/\((F x y)=jH x y):=by
 refine qZ (P:=λx y=>T .string x/\T .string y) (mk:=λ(r:Int)=>.int .i64 r) (Post:=λx y r=>r=jH x y) λx y hx=> ?_
 obtain⟨hx,hy⟩:=hx;show ∃r:{r:Int // r=jH x y},ai (cf m) 70 [.t x,.t y] [] (.ret (.t (.int .i64 r.1)) [] []);have dI:=hx;obtain⟨v_1,rfl,gh⟩:=T.cN dI;have oc:=hy;obtain⟨v_2,rfl,xw⟩:=T.cN oc;obtain⟨MF,Sg⟩:=Sf m;obtain⟨ev,az,Ye⟩:∃ev,aF (cf m) ev/\Has ev 122 (pz (λx=>T .string x) (λx=>.bool (MF x))):=⟨_,(av (cc (λx h=>(Sg x h).1)) aI),aD⟩;refine AX.start 20 2 Tryz.func70 rfl (by decide) rfl rfl (by decide) ?_;refine AX.frames ?_;have Hr:=(Sg (.str v_1) dI).2;have Wi:=(Sg (.str v_2) oc).2;have zh3:=cg Ye (x:=.str v_1) dI;have zh4:=cg Ye (x:=.str v_2) oc;rcases br ((MF (.str v_1))) with xQ|xQ
 ·rcases br ((MF (.str v_2))) with kN|kN
  ·refine⟨⟨0, ?_⟩,kf ah [oC zh3,oC zh4,oB xQ,oB kN]⟩;first|exact absurd (Hr.symm.trans xQ) (by decide)|exact absurd (Hr.symm.trans xQ) (by decide)|exact absurd (Wi.symm.trans xQ) (by decide)|exact absurd (Wi.symm.trans xQ) (by decide)
  ·refine⟨⟨-1, ?_⟩,kf ah [oC zh3,oC zh4,oB xQ,oB kN]⟩;first|exact absurd (Hr.symm.trans xQ) (by decide)|exact absurd (Hr.symm.trans xQ) (by decide)|exact absurd (Wi.symm.trans xQ) (by decide)|exact absurd (Wi.symm.trans xQ) (by decide)
 ·rcases br ((MF (.str v_2))) with lM|lM
  ·refine⟨⟨1, ?_⟩,kf ah [oC zh3,oC zh4,oB xQ,oB lM]⟩;first|exact absurd (Hr.symm.trans lM) (by decide)|exact absurd (Hr.symm.trans lM) (by decide)|exact absurd (Wi.symm.trans lM) (by decide)|exact absurd (Wi.symm.trans lM) (by decide)
  ·rcases br ((dw v_1 v_2)) with ja|ja
   ·refine⟨⟨-1, ?_⟩,kf ah [oC zh3,oC zh4,oB xQ,oB lM,oB ja]⟩;exact(ZI ja).symm
   ·rcases br ((!(dw v_1 v_2||v_1==v_2))) with Sh|Sh
    ·refine⟨⟨1, ?_⟩,kf ah [oC zh3,oC zh4,oB xQ,oB lM,oB ja,oB Sh]⟩;exact(ZK ja Sh).symm
    ·refine⟨⟨0, ?_⟩,kf ah [oC zh3,oC zh4,oB xQ,oB lM,oB ja,oB Sh]⟩;exact(ZJ ja Sh).symm
end
end Go.Proofs.YtacmmaaabfhhoaaGreatDoor.w.e
namespace Go.Proofs.YtacmmaaabfhhoaaGreatDoor.w.e
open Go Go.Abs
set_option maxRecDepth 100000
set_option maxHeartbeats 2000000
noncomputable section
open Classical in
def px (args:List TV)(aP:List aO)(r:bz):List TV->List aO->Option bz:=λa o=>if a=args/\o=aP then some r else none
theorem wM {C:cE}{g:FuncId}{args:List TV}{aP:List aO}{r:bz}(h:ai C g args aP r):mX C g (px args aP r):=λa o q hq=>by
 unfold px at hq;split at hq
 ·rename_i hp;obtain⟨rfl,rfl⟩:=hp;cases hq;exact h
 ·cases hq
theorem wj {g:FuncId}{ev:aX}{args:List TV}{aP:List aO}{r:bz}(h:Has ev g (px args aP r)):ev g args aP=some r:=h _ _ _ (if_pos ⟨rfl,rfl⟩)
def afG:Tree->Int
 |.agg (.int _ k::_)=>k
 |_=>-1
def eT:Tree->List UInt8
 |.agg (_::_::_:: .str t::_)=>t
 |_=>[]
def eS:Tree->List UInt8
 |.agg (_::_:: .str s::_)=>s
 |_=>[]
theorem Si (m:Int):∃F:Tree->Tree->Int,∀x y,(T .dz x/\T .string y)->R2 (cf m) 162 x y (.int .i64 (F x y))/\(True):=by
 refine qZ (P:=λx y=>T .dz x/\T .string y) (mk:=λ(r:Int)=>.int .i64 r) (Post:=λx y r=>True) λx y hx=> ?_
 obtain⟨hx,hy⟩:=hx;show ∃r:{r:Int // True},ai (cf m) 162 [.t x,.t y] [] (.ret (.t (.int .i64 r.1)) [] []);have dI:=hx;obtain⟨v_1,rfl,gh,dJ⟩:=T.nZ dI;have oc:=hy;obtain⟨v_2,rfl,xw⟩:=T.cN oc;obtain⟨ev,az⟩:∃ev,aF (cf m) ev:=⟨_,aI⟩;refine AX.start 19 2 Tryz.func162 rfl (by decide) rfl rfl (by decide) ?_;refine AX.frames ?_;refine kl (α:=Nat) ah 0 [] 19 0 [] [] [0,1,7,8] (λx=>⟨dU 19 [(0,.t (.sl v_1)),(1,.t (.str v_2)),(7,.t (.int .i64 ((v_1.length:Nat):Int))),(8,.t (.int .i64 ((x:Nat):Int)))],[],0⟩) (λx=>(x<=v_1.length)) (λx=>v_1.length - x) 0 (mN (Tryz.f162.body.getD .skip) 2) [] (by show(0<=v_1.length);first|trivial|omega|(refine⟨?_, ?_⟩<;>first|omega|exact SM.nil)|simp) (λx hok=> ?_);obtain⟨q5,tX⟩:∃y,y=x:=⟨x,rfl⟩;subst tX;replace hok:(q5<=v_1.length):=hok;have Bp:=hok;rcases br (decide (((q5:Nat):Int)<((v_1.length:Nat):Int))) with iB|iB
 ·have th:=of_decide_eq_true iB;obtain⟨e5,yT⟩:=jX v_1 q5;have xy:=(dJ e5 (pE yT));obtain⟨v_6,rfl,CW⟩:=T.cN xy;rcases br ((v_2==v_6)) with lM|lM
  ·have CX:=eq_of_beq lM;refine kx ah [oB iB,oE yT,oB lM] ?_;refine⟨⟨((q5:Nat):Int), ?_⟩,kf ah []⟩;trivial
  ·have CX:=ne_of_beq_false lM;exact⟨.inl ⟨q5+1,⟨(by show(q5+1)<=v_1.length;omega),(by show(v_1.length - (q5+1))<(v_1.length - q5);omega)⟩⟩,kr ah 19 0 [] [0,1,7,8] [oB iB,oE yT,oB lM,oI (q5) (by omega)]⟩
 ·have th:=of_decide_eq_false iB;refine kx ah [oB iB] ?_;refine⟨⟨-1, ?_⟩,kf ah []⟩;trivial
end
end Go.Proofs.YtacmmaaabfhhoaaGreatDoor.w.e
