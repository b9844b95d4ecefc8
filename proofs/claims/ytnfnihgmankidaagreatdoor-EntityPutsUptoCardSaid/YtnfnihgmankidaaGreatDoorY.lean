/- More of it. -/
import Derived.Test.YtnfnihgmankidaaGreatDoorV
import Derived.Test.YtnfnihgmankidaaGreatDoorW
import Derived.Test.YtnfnihgmankidaaGreatDoorX
import Derived.Test.YtnfnihgmankidaaGreatDoorQ
import Derived.Test.YtnfnihgmankidaaGreatDoorT
import Derived.Test.YtnfnihgmankidaaGreatDoorR
set_option linter.unusedVariables false
set_option linter.unusedSimpArgs false
namespace Go.Proofs.YtnfnihgmankidaaGreatDoor.w
open Go Go.Abs
set_option maxRecDepth 100000
set_option maxHeartbeats 1000000
noncomputable section
theorem cI {α β:Type}[Inhabited β]{P:α->Prop}{Q:α->β->Prop}(h:∀a,P a->∃b,Q a b):∃f:α->β,∀a,P a->Q a (f a):=
 Classical.axiomOfChoice (r:=λa b=>P a->Q a b) λa=>by
  by_cases hp:P a
  ·obtain⟨b,hb⟩:=h a hp;exact⟨b,λ_=>hb⟩
  ·exact⟨default,λh=>absurd h hp⟩
theorem ye {C:cE}{β:Type}[Inhabited β]{g:FuncId}{P:Tree->Prop}(mk:β->Tree)(h:∀x,P x->∃r:β,aq C g [.t x] [] (.ret (.t (mk r)) [] [])):∃f:Tree->β,∀x,P x->aq C g [.t x] [] (.ret (.t (mk (f x))) [] []):=cI h
theorem Ed {C:cE}{β:Type}[Inhabited β]{g:FuncId}{P:Tree->Tree->Prop}(mk:β->Tree)(h:∀x y,P x y->∃r:β,aq C g [.t x,.t y] [] (.ret (.t (mk r)) [] [])):
 ∃f:Tree->Tree->β,∀x y,P x y->aq C g [.t x,.t y] [] (.ret (.t (mk (f x y))) [] []):=by
 obtain⟨f,hf⟩:=cI (α:=Tree×Tree) (P:=λp=>P p.1 p.2) (Q:=λp r=>aq C g [.t p.1,.t p.2] [] (.ret (.t (mk r)) [] [])) λp hp=>h p.1 p.2 hp
 exact⟨λx y=>f (x,y),λx y hp=>hf (x,y) hp⟩
def PI (x:Tree):Prop:=∃n,x=.int .u8 n
def PS (x:Tree):Prop:=∃s,x=.str s
def t1 {β:Type}(mk:β->Tree)(P:Tree->Prop)(f:Tree->β):List TV->List aO->Option bk:=ct1 P λx=>.ret (.t (mk (f x))) [] []
def t2 {β:Type}(mk:β->Tree)(P:Tree->Tree->Prop)(f:Tree->Tree->β):List TV->List aO->Option bk:=ct2 P λx y=>.ret (.t (mk (f x y))) [] []
theorem Ee {C:cE}{β:Type}{g:FuncId}{mk:β->Tree}{P:Tree->Prop}{f:Tree->β}(h:∀x,P x->aq C g [.t x] [] (.ret (.t (mk (f x))) [] [])):kJ C g (t1 mk P f):=abd h
theorem GJ {C:cE}{β:Type}{g:FuncId}{mk:β->Tree}{P:Tree->Tree->Prop}{f:Tree->Tree->β}(h:∀x y,P x y->aq C g [.t x,.t y] [] (.ret (.t (mk (f x y))) [] [])):kJ C g (t2 mk P f):=Tn h
theorem Ef {β:Type}{g:FuncId}{mk:β->Tree}{P:Tree->Prop}{f:Tree->β}{ev:aW}{x:Tree}(h:P x):mZ g (t1 mk P f) ev g [.t x] []=some (.ret (.t (mk (f x))) [] []):=abe h
theorem GK {β:Type}{g:FuncId}{mk:β->Tree}{P:Tree->Tree->Prop}{f:Tree->Tree->β}{ev:aW}{x y:Tree}(h:P x y):mZ g (t2 mk P f) ev g [.t x,.t y] []=some (.ret (.t (mk (f x y))) [] []):=Tp h
theorem Nq (m:Int):∃f:Tree->Bool,∀x,PI x->aq (cf m) 167 [.t x] [] (.ret (.t (.bool (f x))) [] []):=by
 obtain⟨fd,hd⟩:=ye (C:=cf m) (g:=165) (P:=PI) Tree.bool (λx ⟨n,e⟩=>e▸K3 aN n);obtain⟨fl,hl⟩:=ye (C:=cf m) (g:=168) (P:=PI) Tree.bool (λx ⟨n,e⟩=>e▸Rj aN n);refine ye (P:=PI) Tree.bool λx ⟨n,e⟩=>e▸UA (aA (Ee hl) (aA (Ee hd) aN)) (λn=>fl (.int .u8 n)) (λn=>fd (.int .u8 n)) (λn=>Ef ⟨n,rfl⟩) (λn=>ou rfl (Ef ⟨n,rfl⟩)) n
def Eg (s:List UInt8):Tree:=.sl (s.map λb=>.int .u8 b.toNat)
theorem UC (m:Int):∃f:Tree->Tree->Bool,∀x y,((∃s:List UInt8,s.length<=64/\x=Eg s)/\y=.fn (.func 167))->aq (cf m) 166 [.t x,.t y] [] (.ret (.t (.bool (f x y))) [] []):=by
 obtain⟨f1,h1⟩:=Nq m;obtain⟨fi,hi⟩:=Ed (C:=cf m) (g:=211) (P:=λx y=>(∃s:List UInt8,s.length<=64/\x=Eg s)/\y=.fn (.func 167)) (Tree.int .i64) (λx y ⟨⟨s,hs,e⟩,e2⟩=>by
  subst e;subst e2;have hform:∀e∈s.map (λb:UInt8=>Tree.int .u8 b.toNat),∃n,e=.int .u8 n:=λe he=>by obtain⟨b,_,rfl⟩:=List.mem_map.1 he;exact⟨_,rfl⟩
  exact abH (aA (Ee h1) aN) _ (by rw[List.length_map];omega) hform 167 f1 (λe he=>Ef (hform e he)))
 exact Ed Tree.bool λx y hp=>abI (aA (GJ hi) aN) x y (fi x y) (GK hp)
theorem UD (m:Int):∃f:Tree->Tree->Bool,∀x y,(x=.sl (wm.map .str)/\PS y)->aq (cf m) 95 [.t x,.t y] [] (.ret (.t (.bool (f x y))) [] []):=by
 obtain⟨fi,hi⟩:=Ed (C:=cf m) (g:=146) (P:=λx y=>x=.sl (wm.map .str)/\PS y) (Tree.int .i64) (λx y ⟨e,s,e2⟩=>by
  subst e;subst e2;exact abL aN _ (by decide) (λe he=>by obtain⟨b,_,rfl⟩:=List.mem_map.1 he;exact⟨_,rfl⟩) s)
 exact Ed Tree.bool λx y hp=>abM (aA (GJ hi) aN) x y (fi x y) (GK hp)
theorem Rl (m:Int):∃f:Tree->Bool,∀x,PS x->aq (cf m) 108 [.t x] [] (.ret (.t (.bool (f x))) [] []):=by
 obtain⟨fd,hd⟩:=ye (C:=cf m) (g:=165) (P:=PI) Tree.bool (λx ⟨n,e⟩=>e▸K3 aN n);obtain⟨fb,hb⟩:=UC m;obtain⟨fc,hc⟩:=UD m;have hw:kJ (cf m) 164 (Bb wo mA):=λargs aU r h=>live.K5 m mA aN args aU r h
 refine ye (P:=PS) Tree.bool λx ⟨s,e⟩=>e▸Yt (ev:=mZ 164 (Bb wo mA) (mZ 165 (t1 .bool PI fd) (mZ 95 (t2 .bool (λx y=>x=.sl (wm.map .str)/\PS y) fc) (mZ 166 (t2 .bool (λx y=>(∃s:List UInt8,s.length<=64/\x=Eg s)/\y=.fn (.func 167)) fb) mA))))
  (aA hw (aA (Ee hd) (aA (GJ hc) (aA (GJ hb) aN)))) (λn=>fd (.int .u8 n)) (λs=>fc (.sl (wm.map .str)) (.str s)) (λs=>fb (Eg s) (.fn (.func 167))) rfl
  (λn=>ou rfl (Ef ⟨n,rfl⟩)) (λs=>ou rfl (ou rfl (GK ⟨rfl,s,rfl⟩))) (λs hs=>ou rfl (ou rfl (ou rfl (GK (x:=Eg s) ⟨⟨s,hs,rfl⟩,rfl⟩)))) s
theorem Yu (m:Int):∃f:Tree->Bool,∀x,PS x->aq (cf m) 76 [.t x] [] (.ret (.t (.bool (f x))) [] []):=by
 obtain⟨fn,hn⟩:=Rl m;obtain⟨f1,h1⟩:=ye (C:=cf m) (g:=116) (P:=PS) Tree.bool (λx ⟨s,e⟩=>e▸IZ (aA (Ee hn) aN) (λs=>fn (.str s)) (λs=>Ef ⟨s,rfl⟩) s);obtain⟨pc,hpc⟩:=cI (α:=List UInt8) (β:=List (List UInt8)) (P:=λs=>s.length<=64) (Q:=λs l=>l.length<=s.length+1/\aq (cf m) 115 [.t (.str s),.t (.str [58,58])] [] (.ret (.t (.sl (l.map .str))) [] [])) λs hs=>UB s [58,58] (by omega) (by decide)
 obtain⟨fi,hi⟩:=Ed (C:=cf m) (g:=171) (P:=λx y=>(∃s:List UInt8,s.length<=64/\x=.sl ((pc s).map .str))/\y=.fn (.func 116)) (Tree.int .i64) (λx y ⟨⟨s,hs,e⟩,e2⟩=>by
  subst e;subst e2;have hform:∀e∈(pc s).map Tree.str,∃u,e=.str u:=λe he=>by obtain⟨b,_,rfl⟩:=List.mem_map.1 he;exact⟨_,rfl⟩
  exact abJ (aA (Ee h1) aN) _ (by rw[List.length_map];have:=(hpc s hs).1;omega) hform 116 f1 (λe he=>Ef (hform e he)))
 obtain⟨fc,hc⟩:=Ed (C:=cf m) (g:=114) (P:=λx y=>(∃s:List UInt8,s.length<=64/\x=.sl ((pc s).map .str))/\y=.fn (.func 116)) Tree.bool λx y hp=>abK (aA (GJ hi) aN) x y (fi x y) (GK hp)
 have hsp:kJ (cf m) 115 (ct2 (λx y=>(∃s:List UInt8,s.length<=64/\x=.str s)/\y=.str [58,58]) λx _=>match x with|.str s=>.ret (.t (.sl ((pc s).map .str))) [] []|_=>default):=
  Tn λx y hx=>by obtain⟨⟨s,hs,rfl⟩,rfl⟩:=hx;exact(hpc s hs).2
 exact ye (P:=PS) Tree.bool λx ⟨s,e⟩=>e▸K4 (aA hsp (aA (GJ hc) aN)) pc (λs=>fc (.sl ((pc s).map .str)) (.fn (.func 116))) (λs hs=>Tp (x:=.str s) (y:=.str [58,58]) ⟨⟨s,hs,rfl⟩,rfl⟩) (λs hs=>ou rfl (GK ⟨⟨s,hs,rfl⟩,rfl⟩)) s
theorem Eh (m:Int):∃f:Tree->Bool,∀x,PS x->aq (cf m) 77 [.t x] [] (.ret (.t (.bool (f x))) [] []):=by
 obtain⟨fw,hw⟩:=ye (C:=cf m) (g:=117) (P:=λx=>∃s:List UInt8,8<=s.length/\x=.str s) (Tree.int .u64) (λx ⟨s,hs,e⟩=>by
  subst e;match s,hs with
  |b0::b1::b2::b3::b4::b5::b6::b7::r,_=>exact X0 aN b0 b1 b2 b3 b4 b5 b6 b7 r)
 exact ye (C:=cf m) (g:=77) (P:=PS) Tree.bool (λx ⟨s,e⟩=>e▸Uz _ (aA (Ee hw) aN) (λs=>fw (.str s)) (λs hs=>Ef ⟨s,hs,rfl⟩) s)
end
end Go.Proofs.YtnfnihgmankidaaGreatDoor.w
namespace Go.Proofs.YtnfnihgmankidaaGreatDoor.w
open Go Go.Abs
def Bk:Tree->List UInt8
 |.agg [.str n,_]=>n
 |_=>[]
def Rm:Tree->List UInt8
 |.agg [_,.str n]=>n
 |_=>[]
def sOf:Tree->List UInt8
 |.str s=>s
 |_=>[]
def Rn:Tree->Int
 |.int _ k=>k
 |_=>0
def Yv (x y:Int):Int:=if x≠0 then x else y
def sw (a b:List UInt8):Int:=if a<b then -1 else if b<a then 1 else 0
def abN (x y:Tree):Int:=sw (sOf x) (sOf y)
def pI (x y:Tree):Int:=Yv (sw (Bk x) (Bk y)) (sw (Rm x) (Rm y))
def Yw:List Tree->Int
 | []=>0
 |y::r=>if Rn y≠0 then Rn y else Yw r
theorem Pf {a b:List UInt8}:sw a b<0↔a<b:=by
 unfold sw;by_cases h1:a<b
 ·simp[h1]
 ·by_cases h2:b<a<;>simp[h1,h2]
theorem qd {a b:List UInt8}:sw a b=0↔a=b:=by
 unfold sw;by_cases h1:a<b
 ·simp only[if_pos h1];exact⟨λh=>by omega,λh=>by subst h;exact absurd h1 (List.lt_irrefl _)⟩
 ·by_cases h2:b<a
  ·simp only[if_neg h1,if_pos h2];exact⟨λh=>by omega,λh=>by subst h;exact absurd h2 h1⟩
  ·simp only[if_neg h1,if_neg h2,true_iff];exact List.le_antisymm (List.not_lt.1 h2) (List.not_lt.1 h1)
theorem Ei {x y:Tree}:pI x y<0↔Bk x<Bk y\/(Bk x=Bk y/\Rm x<Rm y):=by
 unfold pI Yv;by_cases h:sw (Bk x) (Bk y)=0
 ·rw[if_neg (by simpa using h)];have e:=qd.1 h;rw[Pf,e];exact⟨λh=>.inr ⟨rfl,h⟩,λh=>h.elim (λh=>absurd h (List.lt_irrefl _)) λh=>h.2⟩
 ·rw[if_pos h,Pf];exact⟨.inl,λq=>q.elim id λq=>absurd (qd.2 q.1) h⟩
theorem Ej {x y:Tree}:pI x y=0↔Bk x=Bk y/\Rm x=Rm y:=by
 unfold pI Yv;by_cases h:sw (Bk x) (Bk y)=0
 ·rw[if_neg (by simpa using h),qd];exact⟨λg=>⟨qd.1 h,g⟩,λg=>g.2⟩
 ·rw[if_pos h];exact⟨λg=>absurd g h,λg=>absurd (qd.2 g.1) h⟩
theorem qf {x y z:Tree}(h1:pI x y<0)(h2:pI y z<0):pI x z<0:=by
 rw[Ei] at*;rcases h1 with h1|⟨e1,h1⟩<;>rcases h2 with h2|⟨e2,h2⟩
 ·exact .inl (List.lt_trans h1 h2)
 ·exact .inl (e2▸h1)
 ·exact .inl (e1▸h2)
 ·exact .inr ⟨e1.trans e2,List.lt_trans h1 h2⟩
theorem nE {x:Tree}:¬pI x x<0:=λh=>by
 rw[Ej.2 ⟨rfl,rfl⟩] at h;exact absurd h (by decide)
theorem Pg {x y:Tree}(h:¬pI x y<0)(h2:¬pI y x<0):pI x y=0:=by
 rw[Ei] at h h2;rw[Ej];have n1:¬Bk x<Bk y:=λq=>h (.inl q)
 have n2:¬Bk y<Bk x:=λq=>h2 (.inl q)
 have e:Bk x=Bk y:=List.le_antisymm (List.not_lt.1 n2) (List.not_lt.1 n1);refine⟨e,List.le_antisymm (List.not_lt.1 λq=>h2 (.inr ⟨e.symm,q⟩)) (List.not_lt.1 λq=>h (.inr ⟨e,q⟩))⟩
theorem I1 {a b c d:List UInt8}:pI (.agg [.str a,.str b]) (.agg [.str c,.str d])=0↔Tree.agg [.str a,.str b]=Tree.agg [.str c,.str d]:=by
 rw[Ej];constructor
 ·rintro ⟨h1,h2⟩;have h1:a=c:=h1;have h2:b=d:=h2;rw[h1,h2]
 ·intro h;simp only[Tree.agg.injEq,List.cons.injEq,Tree.str.injEq,and_true] at h;exact⟨h.1,h.2⟩
theorem abO:∀(x y:List UInt8),cF x y=decide (x<y)
 | [],[]=>by simp[cF]
 |_::_,[]=>by simp[cF]
 | [],_::_=>by simp[cF]
 |a::x,b::y=>by
  rw[cF,abO x y]
  simp only[List.cons_lt_cons_iff]
  by_cases h1:a<b<;>by_cases h2:a=b<;>by_cases h3:x<y<;>simp[h1,h2,h3]
theorem abP {a b:List UInt8}(h:cF a b=true):sw a b=-1:=by
 rw[abO] at h;exact if_pos (of_decide_eq_true h)
theorem abQ {a b:List UInt8}(h:cF a b=false)(h2:(!(cF a b||a==b))=false):sw a b=0:=by
 rw[h] at h2;exact qd.2 (by simpa using h2)
theorem abR {a b:List UInt8}(h:cF a b=false)(h2:(!(cF a b||a==b))=true):sw a b=1:=by
 rw[h] at h2;rw[abO] at h;have h1:¬a<b:=of_decide_eq_false h;have h3:a≠b:=by simpa using h2
 have h4:b<a:=by
  refine Decidable.byContradiction λg=>h3 (List.le_antisymm (List.not_lt.1 g) (List.not_lt.1 h1))
 unfold sw;rw[if_neg h1,if_pos h4]
theorem Ph {y:Tree}(hk:Rn y≠0):∀{l:List Tree} {i:Nat},l[i]?=some y->(∀z∈l.take i,Rn z=0)->Yw l=Rn y
 | [],_,he,_=>by simp at he
 |a::r,0,he,_=>by
  simp only[List.getElem?_cons_zero,Option.some.injEq] at he
  subst he
  exact if_pos hk
 |a::r,i+1,he,h=>by
  have h0:Rn a=0:=h a (by simp)
  show(if Rn a≠0 then Rn a else Yw r)=_
  rw[if_neg (by simp[h0])]
  exact Ph hk (by simpa using he) λz hz=>h z (by simp[hz])
theorem K6:∀{l:List Tree},(∀z∈l,Rn z=0)->Yw l=0
 | [],_=>rfl
 |a::r,h=>by
  show(if Rn a≠0 then Rn a else Yw r)=_
  rw[if_neg (by simp[h a (by simp)])]
  exact K6 λz hz=>h z (by simp[hz])
theorem ahn (a b:Int):Yw [.int .i64 a,.int .i64 b]=Yv a b:=by
 show(if a≠0 then a else if b≠0 then b else 0)=if a≠0 then a else b
 by_cases h:b=0
 ·rw[h];rfl
 ·rw[if_pos h]
theorem Bl {l:List Tree}{i:Nat}{x:Tree}{p:Tree->Prop}(he:l[i]?=some x)(hx:p x)(h:∀z∈l.take i,p z):∀z∈l.take (i+1),p z:=λz hz=>by
 rw[nv he] at hz;rcases List.mem_append.1 hz with hz|hz
 ·exact h z hz
 ·rw[List.mem_singleton.1 hz];exact hx
theorem o4 {l:List Tree}{i:Nat}(h:l.length<=i){p:Tree->Prop}(h2:∀z∈l.take i,p z):∀z∈l,p z:=λz hz=>h2 z (by rw[List.take_of_length_le h];exact hz)
def cm:Tree->Tree
 |.agg (.str a:: .str b::_)=>.agg [.str a,.str b]
 |_=>.agg []
def nF (l:List Tree):Prop:=l.Pairwise λa b=>pI (cm a) (cm b)<0
theorem nF.at {l:List Tree}(h:nF l){i j:Nat}{a b:Tree}(hij:i<j)(ha:l[i]?=some a)(hb:l[j]?=some b):pI (cm a) (cm b)<0:=by
 obtain⟨h1,rfl⟩:=List.getElem?_eq_some_iff.1 ha;obtain⟨h2,rfl⟩:=List.getElem?_eq_some_iff.1 hb;exact List.pairwise_iff_getElem.1 h i j h1 h2 hij
theorem aek {l:List Tree}{u x:Tree}{h:Nat}(he:l[h]?=some x)(hx:pI (cm x) u<0)(hr:nF l):∀e∈l.take (h+1),pI (cm e) u<0:=λe hm=>by
 obtain⟨i,hi⟩:=List.getElem?_of_mem hm;rw[List.getElem?_take] at hi;split at hi
 ·rename_i hlt;by_cases hih:i=h
  ·subst hih;rw[hi] at he;cases he;exact hx
  ·exact qf (hr.at (by omega) hi he) hx
 ·cases hi
theorem ael {l:List Tree}{u x:Tree}{h:Nat}(he:l[h]?=some x)(hx:¬pI (cm x) u<0)(hr:nF l):∀e∈l.drop h,¬pI (cm e) u<0:=λe hm=>by
 obtain⟨i,hi⟩:=List.getElem?_of_mem hm;rw[List.getElem?_drop] at hi;cases i with
 |zero=>rw[Nat.add_zero,he] at hi;cases hi;exact hx
 |succ i=>exactλq=>hx (qf (hr.at (by omega) he hi) q)
def nG (l:List Tree)(u:Tree)(r:Int×Bool):Prop:=∃k:Nat,r.1=(k:Int)/\k<=l.length/\(r.2=true↔∃e,l[k]?=some e/\cm e=u)/\(nF l->(∀e∈l.take k,pI (cm e) u<0)/\∀e∈l.drop k,¬pI (cm e) u<0)
theorem nG.here {l:List Tree}{r:Int×Bool}{k:Nat}{e:Tree}(h:nG l (cm e) r)(hr:nF l)(he:l[k]?=some e):r=((k:Int),true):=by
 obtain⟨k2,h1,h2,h3,h4⟩:=h;obtain⟨h5,h6⟩:=h4 hr;obtain⟨a,b⟩:=r;have hk:k2=k:=by
  rcases Nat.lt_trichotomy k2 k with g|g|g
  ·have hlt:k<l.length:=(List.getElem?_eq_some_iff.1 he).1;have hx:l[k2]?=some l[k2]:=List.getElem?_eq_getElem (by omega);exact absurd (hr.at g hx he) (h6 _ (List.mem_of_getElem? (i:=0) (by rw[List.getElem?_drop,Nat.add_zero];exact hx)))
  ·exact g
  ·exact absurd (h5 e (List.mem_of_getElem? (i:=k) (by rw[List.getElem?_take,if_pos g];exact he))) nE
 subst hk;have h1:a=(k2:Int):=h1;have h3:b=true:=h3.2 ⟨e,he,rfl⟩;rw[h1,h3]
theorem nG.none {l:List Tree}{u:Tree}{r:Int×Bool}(h:nG l u r)(hn:∀e∈l,cm e≠u):r.2=false:=by
 obtain⟨k,_,_,h3,_⟩:=h;rw[Bool.eq_false_iff];intro g;obtain⟨e,he,hu⟩:=h3.1 g;exact hn e (List.mem_of_getElem? he) hu
theorem Ro {l:List Tree}{k:Nat}{E Y:Tree}{c:Int}(he:l[k]?=some E)(hc:c=pI (cm E) Y)(hE:∃s t,cm E=.agg [.str s,.str t])(hY:∃s t,Y=.agg [.str s,.str t]):((c==0)=true↔∃e,l[k]?=some e/\cm e=Y):=by
 obtain⟨s,t,hE⟩:=hE;obtain⟨s2,t2,rfl⟩:=hY;subst hc;constructor
 ·intro h;have h:=eq_of_beq h;rw[hE] at h;exact⟨E,he,hE.trans (I1.1 h)⟩
 ·rintro ⟨e,h1,h2⟩;rw[he] at h1;cases h1;rw[h2,I1.2 rfl];rfl
def yT (l:List Tree):Prop:=∀(k:Nat) a b,l[k]?=some a->l[k+1]?=some b->¬pI (cm b) (cm a)<0
def FN (l:List Tree)(i:Nat):Prop:=∀(k:Nat) a b,i<=k->l[k]?=some a->l[k+1]?=some b->¬pI (cm b) (cm a)<0
theorem FN.last {l:List Tree}:FN l (l.length - 1):=λk a b hk h1 h2=>by
 have h3:=(List.getElem?_eq_some_iff.1 h2).1;omega
theorem FN.step {l:List Tree}{i:Nat}{a b:Tree}(h:FN l i)(ha:l[i - 1]?=some a)(hb:l[i]?=some b)(hi:0<i)(hn:¬pI (cm b) (cm a)<0):FN l (i - 1):=λk x y hk h1 h2=>by
 by_cases e:i<=k
 ·exact h k x y e h1 h2
 ·obtain rfl:k=i - 1:=by omega
  rw[h1] at ha;rw[show i - 1+1=i by omega,hb] at h2;cases ha;cases h2;exact hn
theorem FN.all {l:List Tree}(h:FN l 0):yT l:=λk a b h1 h2=>h k a b (Nat.zero_le _) h1 h2
theorem yT.not {l:List Tree}{i:Nat}{a b:Tree}(ha:l[i - 1]?=some a)(hb:l[i]?=some b)(hi:0<i)(hn:pI (cm b) (cm a)<0):¬yT l:=λh=>h (i - 1) a b ha (by rw[show i - 1+1=i by omega];exact hb) hn
theorem yT.aho {l:List Tree}(h:yT l)(hn:(l.map cm).Nodup)(hl:∀e∈l,∃s t,cm e=.agg [.str s,.str t]):nF l:=by
 have adj:∀(k:Nat) a b,l[k]?=some a->l[k+1]?=some b->pI (cm a) (cm b)<0:=λk a b h1 h2=>by
  refine Decidable.byContradiction λg=> ?_
  have h3:=Pg g (h k a b h1 h2);obtain⟨s,t,ea⟩:=hl a (List.mem_of_getElem? h1);obtain⟨s2,t2,eb⟩:=hl b (List.mem_of_getElem? h2);have h4:cm a=cm b:=by
   rw[ea,eb] at h3 ⊢;exact I1.1 h3
  have n1:=(List.getElem?_eq_some_iff.1 h1);have n2:=(List.getElem?_eq_some_iff.1 h2);have h5:=List.pairwise_iff_getElem.1 hn k (k+1) (by simpa using n1.1) (by simpa using n2.1) (by omega);obtain⟨m1,rfl⟩:=n1;obtain⟨m2,rfl⟩:=n2;simp only[List.getElem_map] at h5;exact h5 h4
 have far:∀(d k:Nat) a b,l[k]?=some a->l[k+1+d]?=some b->pI (cm a) (cm b)<0:=by
  intro d;induction d with
  |zero=>exactλk a b h1 h2=>adj k a b h1 h2
  |succ d ih=>
   intro k a b h1 h2
   have hlt:=(List.getElem?_eq_some_iff.1 h2).1
   have hx:l[k+1+d]?=some l[k+1+d]:=List.getElem?_eq_getElem (by omega)
   exact qf (ih k a _ h1 hx) (adj (k+1+d) _ b hx h2)
 refine List.pairwise_iff_getElem.2 λi j hi hj hij=> ?_
 exact far (j - i - 1) i _ _ (List.getElem?_eq_getElem hi) (by rw[show i+1+(j - i - 1)=j by omega];exact List.getElem?_eq_getElem hj)
theorem Ek:∀{ks M:List Tree},ks.Nodup->(∀y∈ks,y∈M)->ks.length<=M.length
 | [],_,_,_=>Nat.zero_le _
 | a ::r,M,hn,h=>by
   obtain⟨s,t,rfl⟩:=List.append_of_mem (h a List.mem_cons_self)
   obtain⟨h1,h2⟩:=List.nodup_cons.1 hn
   have:=Ek (M:=s++t) h2 λy hy=>by
     have h3:=h y (List.mem_cons_of_mem _ hy)
     rcases List.mem_append.1 h3 with h3|h3
     · exact List.mem_append_left _ h3
     · rcases List.mem_cons.1 h3 with rfl|h3
       · exact absurd hy h1
       · exact List.mem_append_right _ h3
   simp only[List.length_append,List.length_cons] at this ⊢
   omega
theorem GL:∀{M:List Tree},¬M.Nodup->∃s a t,M=s++a::t/\a∈s++t
 | [],h=>absurd List.nodup_nil h
 | a ::r,h=>by
   by_cases ha:a∈r
   · exact⟨[],a,r,rfl,ha⟩
   · obtain⟨s,b,t,e,hb⟩:=GL (M:=r) λh2=>h (List.nodup_cons.2 ⟨ha,h2⟩)
     exact⟨a::s,b,t,by rw[e];rfl,List.mem_cons_of_mem _ hb⟩
theorem Nr {ks M:List Tree}(hn:ks.Nodup)(h:∀y,y∈ks↔y∈M):ks.length<M.length↔¬M.Nodup:=by
 constructor
 ·intro hl hm;have:=Ek hm λy hy=>(h y).2 hy
  omega
 ·intro hm;obtain⟨s,a,t,rfl,ha⟩:=GL hm;have:=Ek (M:=s++t) hn λy hy=>by
   have h3:=(h y).1 hy;rcases List.mem_append.1 h3 with h3|h3
   ·exact List.mem_append_left _ h3
   ·rcases List.mem_cons.1 h3 with rfl|h3
    ·exact ha
    ·exact List.mem_append_right _ h3
  simp only[List.length_append,List.length_cons] at this ⊢;omega
end Go.Proofs.YtnfnihgmankidaaGreatDoor.w
namespace Go.Proofs.YtnfnihgmankidaaGreatDoor.w.e
open Go Go.Abs
set_option maxRecDepth 100000
set_option maxHeartbeats 2000000
noncomputable section
theorem UE (m:Int):∃F:Tree->Int,∀x,(T .av x)->R1 (cf m) 34 x (.int .i64 (F x))/\(True):=by
 refine Iv (P:=λx=>T .av x) (mk:=λ(r:Int)=>.int .i64 r) (Post:=λx r=>True) λx hx=> ?_
 show ∃r:{r:Int // True},aq (cf m) 34 [.t x] [] (.ret (.t (.int .i64 r.1)) [] []);have dB:=hx;obtain⟨type_1,Aa,rfl,lp,iX⟩:=T.bx dB;obtain⟨aem,ahp⟩:=Yu m;obtain⟨Ns,abS⟩:=Eh m;obtain⟨ev,aC,ahq,I2⟩:∃ev,aI (cf m) ev/\Has ev 76 (xU (λx=>PS x) (λx=>.bool (aem x)))/\Has ev 77 (xU (λx=>PS x) (λx=>.bool (Ns x))):=⟨_,(aA (eD (λx h=>(ahp x h))) (aA (eD (λx h=>(abS x h))) aN)),aF,(au rfl aF)⟩;refine AX.start 18 1 Tryz.func34 rfl (by decide) rfl rfl (by decide) ?_;refine AX.frames ?_;have zh1:=dM ahq (x:=.str type_1) ⟨_,rfl⟩;rcases bw ((!(aem (.str type_1)))) with cW|cW
 ·refine⟨⟨5, ?_⟩,kf ai [oC zh1,oB cW]⟩;trivial
 ·have zh2:=dM I2 (x:=.str Aa) ⟨_,rfl⟩;rcases bw ((!(Ns (.str Aa)))) with iF|iF
  ·refine⟨⟨6, ?_⟩,kf ai [oC zh1,oB cW,oC zh2,oB iF]⟩;trivial
  ·rcases bw (decide (((Aa.length:Nat):Int)>64)) with gh|gh
   ·have uH:=of_decide_eq_true gh;refine⟨⟨3, ?_⟩,kf ai [oC zh1,oB cW,oC zh2,oB iF,oB gh]⟩;trivial
   ·have uH:=of_decide_eq_false gh;refine⟨⟨0, ?_⟩,kf ai [oC zh1,oB cW,oC zh2,oB iF,oB gh]⟩;trivial
theorem Ab (m:Int):∃F:Tree->Int,∀x,(T .av x)->(R1 (cf m) 34 x (.int .i64 (F x))/\(True))/\((R1 (cf m) 34 x (.int .i64 0)/\(True))->F x=0):=by
 obtain⟨F,hF⟩:=UE m;classical
 refine⟨λx=>if(R1 (cf m) 34 x (.int .i64 0)/\(True)) then 0 else F x,λx hx=> ?_⟩;by_cases hz:(R1 (cf m) 34 x (.int .i64 0)/\(True))
 ·simp only[if_pos hz];exact⟨⟨hz.1,hz.2⟩,λ_=>trivial⟩
 ·simp only[if_neg hz];exact⟨hF x hx,λh=>absurd h hz⟩
def El (m:Int):Tree->Int:=Classical.choose (Ab m)
theorem Em (m:Int):∃F:Tree->Int,∀x,(T .av x)->R1 (cf m) 34 x (.int .i64 (F x))/\((True)/\F x=El m x):=⟨El m,λx h=>⟨(Classical.choose_spec (Ab m) x h).1.1,(Classical.choose_spec (Ab m) x h).1.2,rfl⟩⟩
theorem I3 (m:Int){x:Tree}(h:(T .av x))(h0:(R1 (cf m) 34 x (.int .i64 0)/\(True))):El m x=0:=(Classical.choose_spec (Ab m) x h).2 h0
def gR:Tree->List Tree
 |.sl l=>l
 |_=>[]
theorem Nt {l:List Tree}{i:Nat}{e y:Tree}(he:l[i]?=some e)(h:y∉l.take i)(hn:y≠e):y∉l.take (i+1):=by
 rw[nv he];intro hm;rcases List.mem_append.1 hm with hm|hm
 ·exact h hm
 ·exact hn (by simpa using hm)
theorem abT {a b c d:List UInt8}(h:((a==c)&&(b==d))=true):Tree.agg [.str a,.str b]=Tree.agg [.str c,.str d]:=by
 rw[Bool.and_eq_true] at h;rw[eq_of_beq h.1,eq_of_beq h.2]
theorem UF {a b c d:List UInt8}(h:((a==c)&&(b==d))=false):Tree.agg [.str a,.str b]≠Tree.agg [.str c,.str d]:=λe=>by
 simp only[Tree.agg.injEq,List.cons.injEq,Tree.str.injEq,and_true] at e;rw[e.1,e.2] at h;simp at h
theorem UG (m:Int):∃F:Tree->Bool,∀x,(T .string x)->R1 (cf m) 130 x (.bool (F x))/\((F x)=false):=by
 refine Iv (P:=λx=>T .string x) (mk:=λ(r:Bool)=>.bool r) (Post:=λx r=>r=false) λx hx=> ?_
 show ∃r:{r:Bool // r=false},aq (cf m) 130 [.t x] [] (.ret (.t (.bool r.1)) [] []);have dB:=hx;obtain⟨v_1,rfl,lp⟩:=T.gM dB;obtain⟨ev,aC⟩:∃ev,aI (cf m) ev:=⟨_,aN⟩;refine AX.start 6 1 Tryz.func130 rfl (by decide) rfl rfl (by decide) ?_;refine AX.frames ?_;refine⟨⟨(!(v_1==v_1)), ?_⟩,kf ai []⟩;simp
theorem Bn (m:Int):∃F:Tree->Tree->Int,∀x y,(T .string x/\T .string y)->R2 (cf m) 84 x y (.int .i64 (F x y))/\((F x y)=abN x y):=by
 refine xV (P:=λx y=>T .string x/\T .string y) (mk:=λ(r:Int)=>.int .i64 r) (Post:=λx y r=>r=abN x y) λx y hx=> ?_
 obtain⟨hx,hy⟩:=hx;show ∃r:{r:Int // r=abN x y},aq (cf m) 84 [.t x,.t y] [] (.ret (.t (.int .i64 r.1)) [] []);have dB:=hx;obtain⟨v_1,rfl,lp⟩:=T.gM dB;have gH:=hy;obtain⟨v_2,rfl,pJ⟩:=T.gM gH;obtain⟨Pj,UH⟩:=UG m;obtain⟨ev,aC,aaj⟩:∃ev,aI (cf m) ev/\Has ev 130 (xU (λx=>T .string x) (λx=>.bool (Pj x))):=⟨_,(aA (eD (λx h=>(UH x h).1)) aN),aF⟩;refine AX.start 20 2 Tryz.func84 rfl (by decide) rfl rfl (by decide) ?_;refine AX.frames ?_;have yC:=(UH (.str v_1) dB).2;have hp4:=(UH (.str v_2) gH).2;have zh3:=dM aaj (x:=.str v_1) dB;have zh4:=dM aaj (x:=.str v_2) gH;rcases bw ((Pj (.str v_1))) with iH|iH
 ·rcases bw ((Pj (.str v_2))) with rR|rR
  ·refine⟨⟨0, ?_⟩,kf ai [oC zh3,oC zh4,oB iH,oB rR]⟩;first|exact absurd (yC.symm.trans iH) (by decide)|exact absurd (yC.symm.trans iH) (by decide)|exact absurd (hp4.symm.trans iH) (by decide)|exact absurd (hp4.symm.trans iH) (by decide)
  ·refine⟨⟨-1, ?_⟩,kf ai [oC zh3,oC zh4,oB iH,oB rR]⟩;first|exact absurd (yC.symm.trans iH) (by decide)|exact absurd (yC.symm.trans iH) (by decide)|exact absurd (hp4.symm.trans iH) (by decide)|exact absurd (hp4.symm.trans iH) (by decide)
 ·rcases bw ((Pj (.str v_2))) with kM|kM
  ·refine⟨⟨1, ?_⟩,kf ai [oC zh3,oC zh4,oB iH,oB kM]⟩;first|exact absurd (yC.symm.trans kM) (by decide)|exact absurd (yC.symm.trans kM) (by decide)|exact absurd (hp4.symm.trans kM) (by decide)|exact absurd (hp4.symm.trans kM) (by decide)
  ·rcases bw ((cF v_1 v_2)) with jB|jB
   ·refine⟨⟨-1, ?_⟩,kf ai [oC zh3,oC zh4,oB iH,oB kM,oB jB]⟩;exact(abP jB).symm
   ·rcases bw ((!(cF v_1 v_2||v_1==v_2))) with yf|yf
    ·refine⟨⟨1, ?_⟩,kf ai [oC zh3,oC zh4,oB iH,oB kM,oB jB,oB yf]⟩;exact(abR jB yf).symm
    ·refine⟨⟨0, ?_⟩,kf ai [oC zh3,oC zh4,oB iH,oB kM,oB jB,oB yf]⟩;exact(abQ jB yf).symm
theorem K7 (m:Int):∃F:Tree->Int,∀x,(T .Lint x)->R1 (cf m) 83 x (.int .i64 (F x))/\((F x)=Yw (gR x)):=by
 refine Iv (P:=λx=>T .Lint x) (mk:=λ(r:Int)=>.int .i64 r) (Post:=λx r=>r=Yw (gR x)) λx hx=> ?_
 show ∃r:{r:Int // r=Yw (gR x)},aq (cf m) 83 [.t x] [] (.ret (.t (.int .i64 r.1)) [] []);have dB:=hx;obtain⟨v_1,rfl,lp,iX⟩:=T.Uw dB;obtain⟨ev,aC⟩:∃ev,aI (cf m) ev:=⟨_,aN⟩;refine AX.start 18 1 Tryz.func83 rfl (by decide) rfl rfl (by decide) ?_;refine AX.frames ?_;refine kl (α:=Nat) ai 0 [] 18 0 [] [] [3,6,7,8] (λx=>⟨ei 18 [(3,.t (.int .i64 0)),(6,.t (.sl v_1)),(7,.t (.int .i64 ((v_1.length:Nat):Int))),(8,.t (.int .i64 ((x:Nat):Int)))],[],0⟩) (λx=>(x<=v_1.length)/\(∀z∈v_1.take x,Rn z=0)) (λx=>v_1.length - x) 0 (qD (Tryz.f83.body.getD .skip) 3) [] ⟨Nat.zero_le _,λz hz=>by simp at hz⟩ (λx hok=> ?_);obtain⟨i_2,Bo⟩:∃y,y=x:=⟨x,rfl⟩;subst Bo;replace hok:(i_2<=v_1.length)/\(∀z∈v_1.take i_2,Rn z=0):=hok;obtain⟨Yx,xG⟩:=hok;rcases bw (decide (((i_2:Nat):Int)<((v_1.length:Nat):Int))) with iF|iF
 ·have I4:=of_decide_eq_true iF;obtain⟨e4,I5⟩:=iO v_1 i_2;have Bp:=(iX e4 (kQ I5));obtain⟨v_5,rfl⟩:=T.jP Bp;rcases bw ((v_5 != 0)) with rR|rR
  ·have I6:=bQ rR;refine kx ai [oB iF,oE I5,oB rR] ?_;refine⟨⟨v_5, ?_⟩,kf ai []⟩;exact(Ph (y:=.int .i64 v_5) (bne_iff_ne.1 rR) I5 xG).symm
  ·have I6:=aM rR;exact⟨.inl ⟨i_2+1,⟨⟨(by show(i_2+1)<=v_1.length;omega),(Bl I5 (aM rR) xG)⟩,(by show(v_1.length - (i_2+1))<(v_1.length - i_2);omega)⟩⟩,kr ai 18 0 [] [3,6,7,8] [oB iF,oE I5,oB rR,oI (i_2) (by omega)]⟩
 ·have I4:=of_decide_eq_false iF;refine kx ai [oB iF] ?_;refine⟨⟨0, ?_⟩,kf ai []⟩;exact(K6 (o4 (by omega) xG)).symm
theorem Ac (m:Int):∃F:Tree->Tree->Int,∀x y,(T .av x/\T .av y)->R2 (cf m) 37 x y (.int .i64 (F x y))/\((F x y)=pI x y):=by
 refine xV (P:=λx y=>T .av x/\T .av y) (mk:=λ(r:Int)=>.int .i64 r) (Post:=λx y r=>r=pI x y) λx y hx=> ?_
 obtain⟨hx,hy⟩:=hx;show ∃r:{r:Int // r=pI x y},aq (cf m) 37 [.t x,.t y] [] (.ret (.t (.int .i64 r.1)) [] []);have dB:=hx;obtain⟨type_1,Aa,rfl,lp,iX⟩:=T.bx dB;have gH:=hy;obtain⟨bW,dr,rfl,pJ,qH⟩:=T.bx gH;obtain⟨jl,qI⟩:=Bn m;obtain⟨K8,K9⟩:=K7 m;obtain⟨ev,aC,wI,UI⟩:∃ev,aI (cf m) ev/\Has ev 84 (wB (λx y=>T .string x/\T .string y) (λx y=>.int .i64 (jl x y)))/\Has ev 83 (xU (λx=>T .Lint x) (λx=>.int .i64 (K8 x))):=⟨_,(aA (ec (λx y h=>(qI x y h).1)) (aA (eD (λx h=>(K9 x h).1)) aN)),aF,(au rfl aF)⟩;refine AX.start 17 2 Tryz.func37 rfl (by decide) rfl rfl (by decide) ?_;refine AX.frames ?_;have yC:=(qI (.str type_1) (.str bW) ⟨(.string _ bh),(.string _ bh)⟩).2;have hp4:=(qI (.str Aa) (.str dr) ⟨(.string _ bh),(.string _ bh)⟩).2;have hp5:=(K9 (.sl [.int .i64 (jl (.str type_1) (.str bW)),.int .i64 (jl (.str Aa) (.str dr))]) (.Lint _ bh (eC (.int _) (eC (.int _) (λ_ h=>absurd h (by simp)))))).2;refine⟨⟨(K8 (.sl [.int .i64 (jl (.str type_1) (.str bW)),.int .i64 (jl (.str Aa) (.str dr))])), ?_⟩,kf ai [oC (ey wI (x:=.str type_1) (y:=.str bW) ⟨(.string _ bh),(.string _ bh)⟩),oC (ey wI (x:=.str Aa) (y:=.str dr) ⟨(.string _ bh),(.string _ bh)⟩),oC (dM UI (x:=.sl [.int .i64 (jl (.str type_1) (.str bW)),.int .i64 (jl (.str Aa) (.str dr))]) (.Lint _ bh (eC (.int _) (eC (.int _) (λ_ h=>absurd h (by simp))))))]⟩;refine hp5.trans ((ahn _ _).trans ?_);rw[yC,hp4];rfl
theorem La (m:Int):∃F:Tree->Bool,∀x,(T .iz x)->R1 (cf m) 244 x (.bool (F x))/\(True):=by
 refine Iv (P:=λx=>T .iz x) (mk:=λ(r:Bool)=>.bool r) (Post:=λx r=>True) λx hx=> ?_
 show ∃r:{r:Bool // True},aq (cf m) 244 [.t x] [] (.ret (.t (.bool r.1)) [] []);have dB:=hx;obtain⟨v_1,rfl⟩:=T.wH dB;obtain⟨ev,aC⟩:∃ev,aI (cf m) ev:=⟨_,aN⟩;refine AX.start 6 1 Tryz.func244 rfl (by decide) rfl rfl (by decide) ?_;refine AX.frames ?_;refine Xl (f:=0) (n:=3000) (once:=[]) (k:=6) (T:=0) (S:=[]) (ks:=[]) (live:=[0,2]) ai aC (Tryz.f244.body.getD .skip) 1 rfl (⟨ei 6 [(0,.t (.int .u8 v_1)),(2,.t (.bool false))],[],0⟩) [] (by kernel_rfl) ?_;refine AX.region ?_;refine aG.go (f:=0) aC (az rfl) ?_;refine aG.go (f:=0) aC (az rfl) ?_;refine aG.go (f:=0) aC (wh rfl rfl) ?_;refine aG.go (f:=0) aC (aD rfl) ?_;refine aG.nil ?_;refine⟨⟨false, ?_⟩,kf ai []⟩;trivial
theorem Lb (m:Int):∃F:Tree->Tree->Int,∀x y,(T .iz x/\T .iz y)->R2 (cf m) 212 x y (.int .i64 (F x y))/\(True):=by
 refine xV (P:=λx y=>T .iz x/\T .iz y) (mk:=λ(r:Int)=>.int .i64 r) (Post:=λx y r=>True) λx y hx=> ?_
 obtain⟨hx,hy⟩:=hx;show ∃r:{r:Int // True},aq (cf m) 212 [.t x,.t y] [] (.ret (.t (.int .i64 r.1)) [] []);have dB:=hx;obtain⟨v_1,rfl⟩:=T.wH dB;have gH:=hy;obtain⟨v_2,rfl⟩:=T.wH gH;obtain⟨Ad,UJ⟩:=La m;obtain⟨ev,aC,Lc⟩:∃ev,aI (cf m) ev/\Has ev 244 (xU (λx=>T .iz x) (λx=>.bool (Ad x))):=⟨_,(aA (eD (λx h=>(UJ x h).1)) aN),aF⟩;refine AX.start 20 2 Tryz.func212 rfl (by decide) rfl rfl (by decide) ?_;refine AX.frames ?_;have zh5:=dM Lc (x:=.int .u8 v_1) dB;have zh6:=dM Lc (x:=.int .u8 v_2) gH;rcases bw ((Ad (.int .u8 v_1))) with iF|iF
 ·rcases bw ((Ad (.int .u8 v_2))) with gh|gh
  ·refine⟨⟨0, ?_⟩,kf ai [oC zh5,oC zh6,oB iF,oB gh]⟩;trivial
  ·refine⟨⟨-1, ?_⟩,kf ai [oC zh5,oC zh6,oB iF,oB gh]⟩;trivial
 ·rcases bw ((Ad (.int .u8 v_2))) with iH|iH
  ·refine⟨⟨1, ?_⟩,kf ai [oC zh5,oC zh6,oB iF,oB iH]⟩;trivial
  ·rcases bw (decide (v_1<v_2)) with rR|rR
   ·have I6:=of_decide_eq_true rR;refine⟨⟨-1, ?_⟩,kf ai [oC zh5,oC zh6,oB iF,oB iH,oB rR]⟩;trivial
   ·have I6:=of_decide_eq_false rR;rcases bw (decide (v_1>v_2)) with kM|kM
    ·have Bq:=of_decide_eq_true kM;refine⟨⟨1, ?_⟩,kf ai [oC zh5,oC zh6,oB iF,oB iH,oB rR,oB kM]⟩;trivial
    ·have Bq:=of_decide_eq_false kM;refine⟨⟨0, ?_⟩,kf ai [oC zh5,oC zh6,oB iF,oB iH,oB rR,oB kM]⟩;trivial
theorem Ld (m:Int):∃F:Tree->Bool,∀x,(T .int64 x)->R1 (cf m) 245 x (.bool (F x))/\(True):=by
 refine Iv (P:=λx=>T .int64 x) (mk:=λ(r:Bool)=>.bool r) (Post:=λx r=>True) λx hx=> ?_
 show ∃r:{r:Bool // True},aq (cf m) 245 [.t x] [] (.ret (.t (.bool r.1)) [] []);have dB:=hx;obtain⟨v_1,rfl⟩:=T.Bh dB;obtain⟨ev,aC⟩:∃ev,aI (cf m) ev:=⟨_,aN⟩;refine AX.start 6 1 Tryz.func245 rfl (by decide) rfl rfl (by decide) ?_;refine AX.frames ?_;refine Xl (f:=0) (n:=3000) (once:=[]) (k:=6) (T:=0) (S:=[]) (ks:=[]) (live:=[0,2]) ai aC (Tryz.f245.body.getD .skip) 1 rfl (⟨ei 6 [(0,.t (.int .i64 v_1)),(2,.t (.bool false))],[],0⟩) [] (by kernel_rfl) ?_;refine AX.region ?_;refine aG.go (f:=0) aC (az rfl) ?_;refine aG.go (f:=0) aC (az rfl) ?_;refine aG.go (f:=0) aC (wh rfl rfl) ?_;refine aG.go (f:=0) aC (aD rfl) ?_;refine aG.nil ?_;refine⟨⟨false, ?_⟩,kf ai []⟩;trivial
theorem Le (m:Int):∃F:Tree->Tree->Int,∀x y,(T .int64 x/\T .int64 y)->R2 (cf m) 213 x y (.int .i64 (F x y))/\(True):=by
 refine xV (P:=λx y=>T .int64 x/\T .int64 y) (mk:=λ(r:Int)=>.int .i64 r) (Post:=λx y r=>True) λx y hx=> ?_
 obtain⟨hx,hy⟩:=hx;show ∃r:{r:Int // True},aq (cf m) 213 [.t x,.t y] [] (.ret (.t (.int .i64 r.1)) [] []);have dB:=hx;obtain⟨v_1,rfl⟩:=T.Bh dB;have gH:=hy;obtain⟨v_2,rfl⟩:=T.Bh gH;obtain⟨Ae,UK⟩:=Ld m;obtain⟨ev,aC,Lf⟩:∃ev,aI (cf m) ev/\Has ev 245 (xU (λx=>T .int64 x) (λx=>.bool (Ae x))):=⟨_,(aA (eD (λx h=>(UK x h).1)) aN),aF⟩;refine AX.start 20 2 Tryz.func213 rfl (by decide) rfl rfl (by decide) ?_;refine AX.frames ?_;have zh7:=dM Lf (x:=.int .i64 v_1) dB;have zh8:=dM Lf (x:=.int .i64 v_2) gH;rcases bw ((Ae (.int .i64 v_1))) with iF|iF
 ·rcases bw ((Ae (.int .i64 v_2))) with gh|gh
  ·refine⟨⟨0, ?_⟩,kf ai [oC zh7,oC zh8,oB iF,oB gh]⟩;trivial
  ·refine⟨⟨-1, ?_⟩,kf ai [oC zh7,oC zh8,oB iF,oB gh]⟩;trivial
 ·rcases bw ((Ae (.int .i64 v_2))) with iH|iH
  ·refine⟨⟨1, ?_⟩,kf ai [oC zh7,oC zh8,oB iF,oB iH]⟩;trivial
  ·rcases bw (decide (v_1<v_2)) with rR|rR
   ·have I6:=of_decide_eq_true rR;refine⟨⟨-1, ?_⟩,kf ai [oC zh7,oC zh8,oB iF,oB iH,oB rR]⟩;trivial
   ·have I6:=of_decide_eq_false rR;rcases bw (decide (v_1>v_2)) with kM|kM
    ·have Bq:=of_decide_eq_true kM;refine⟨⟨1, ?_⟩,kf ai [oC zh7,oC zh8,oB iF,oB iH,oB rR,oB kM]⟩;trivial
    ·have Bq:=of_decide_eq_false kM;refine⟨⟨0, ?_⟩,kf ai [oC zh7,oC zh8,oB iF,oB iH,oB rR,oB kM]⟩;trivial
theorem Lg (m:Int):∃F:Tree->Bool,∀x,(T .int x)->R1 (cf m) 277 x (.bool (F x))/\(True):=by
 refine Iv (P:=λx=>T .int x) (mk:=λ(r:Bool)=>.bool r) (Post:=λx r=>True) λx hx=> ?_
 show ∃r:{r:Bool // True},aq (cf m) 277 [.t x] [] (.ret (.t (.bool r.1)) [] []);have dB:=hx;obtain⟨v_1,rfl⟩:=T.jP dB;obtain⟨ev,aC⟩:∃ev,aI (cf m) ev:=⟨_,aN⟩;refine AX.start 6 1 Tryz.func277 rfl (by decide) rfl rfl (by decide) ?_;refine AX.frames ?_;refine Xl (f:=0) (n:=3000) (once:=[]) (k:=6) (T:=0) (S:=[]) (ks:=[]) (live:=[0,2]) ai aC (Tryz.f277.body.getD .skip) 1 rfl (⟨ei 6 [(0,.t (.int .i64 v_1)),(2,.t (.bool false))],[],0⟩) [] (by kernel_rfl) ?_;refine AX.region ?_;refine aG.go (f:=0) aC (az rfl) ?_;refine aG.go (f:=0) aC (az rfl) ?_;refine aG.go (f:=0) aC (wh rfl rfl) ?_;refine aG.go (f:=0) aC (aD rfl) ?_;refine aG.nil ?_;refine⟨⟨false, ?_⟩,kf ai []⟩;trivial
theorem Lh (m:Int):∃F:Tree->Tree->Int,∀x y,(T .int x/\T .int y)->R2 (cf m) 246 x y (.int .i64 (F x y))/\(True):=by
 refine xV (P:=λx y=>T .int x/\T .int y) (mk:=λ(r:Int)=>.int .i64 r) (Post:=λx y r=>True) λx y hx=> ?_
 obtain⟨hx,hy⟩:=hx;show ∃r:{r:Int // True},aq (cf m) 246 [.t x,.t y] [] (.ret (.t (.int .i64 r.1)) [] []);have dB:=hx;obtain⟨v_1,rfl⟩:=T.jP dB;have gH:=hy;obtain⟨v_2,rfl⟩:=T.jP gH;obtain⟨Af,UL⟩:=Lg m;obtain⟨ev,aC,Li⟩:∃ev,aI (cf m) ev/\Has ev 277 (xU (λx=>T .int x) (λx=>.bool (Af x))):=⟨_,(aA (eD (λx h=>(UL x h).1)) aN),aF⟩;refine AX.start 20 2 Tryz.func246 rfl (by decide) rfl rfl (by decide) ?_;refine AX.frames ?_;have zh9:=dM Li (x:=.int .i64 v_1) dB;have Rp:=dM Li (x:=.int .i64 v_2) gH;rcases bw ((Af (.int .i64 v_1))) with iF|iF
 ·rcases bw ((Af (.int .i64 v_2))) with gh|gh
  ·refine⟨⟨0, ?_⟩,kf ai [oC zh9,oC Rp,oB iF,oB gh]⟩;trivial
  ·refine⟨⟨-1, ?_⟩,kf ai [oC zh9,oC Rp,oB iF,oB gh]⟩;trivial
 ·rcases bw ((Af (.int .i64 v_2))) with iH|iH
  ·refine⟨⟨1, ?_⟩,kf ai [oC zh9,oC Rp,oB iF,oB iH]⟩;trivial
  ·rcases bw (decide (v_1<v_2)) with rR|rR
   ·have I6:=of_decide_eq_true rR;refine⟨⟨-1, ?_⟩,kf ai [oC zh9,oC Rp,oB iF,oB iH,oB rR]⟩;trivial
   ·have I6:=of_decide_eq_false rR;rcases bw (decide (v_1>v_2)) with kM|kM
    ·have Bq:=of_decide_eq_true kM;refine⟨⟨1, ?_⟩,kf ai [oC zh9,oC Rp,oB iF,oB iH,oB rR,oB kM]⟩;trivial
    ·have Bq:=of_decide_eq_false kM;refine⟨⟨0, ?_⟩,kf ai [oC zh9,oC Rp,oB iF,oB iH,oB rR,oB kM]⟩;trivial
end
end Go.Proofs.YtnfnihgmankidaaGreatDoor.w.e
namespace Go.Proofs.YtnfnihgmankidaaGreatDoor.w.e
open Go Go.Abs
set_option maxRecDepth 100000
set_option maxHeartbeats 2000000
noncomputable section
open Classical in
def px (args:List TV)(aU:List aO)(r:bk):List TV->List aO->Option bk:=λa o=>if a=args/\o=aU then some r else none
theorem Ag {C:cE}{g:FuncId}{args:List TV}{aU:List aO}{r:bk}(h:aq C g args aU r):kJ C g (px args aU r):=λa o q hq=>by
 unfold px at hq;split at hq
 ·rename_i hp;obtain⟨rfl,rfl⟩:=hp;cases hq;exact h
 ·cases hq
theorem Cs {g:FuncId}{ev:aW}{args:List TV}{aU:List aO}{r:bk}(h:Has ev g (px args aU r)):ev g args aU=some r:=h _ _ _ (if_pos ⟨rfl,rfl⟩)
def RK3 (C:cE)(g:FuncId)(k:List TV)(M8:List aO)(x y z r:Tree):Prop:=aq C g (.t x:: .t y:: .t z::k) M8 (.ret (.t r) M8 [])
open Classical in
def pk3 (k:List TV)(M8:List aO)(P:Tree->Tree->Tree->Prop)(F:Tree->Tree->Tree->Tree):List TV->List aO->Option bk:=λvb os=>match vb with
 |.t x:: .t y:: .t z::r=>if r=k/\os=M8/\P x y z then some (.ret (.t (F x y z)) M8 []) else none
 |_=>none
theorem abU {C:cE}{g:FuncId}{k:List TV}{M8:List aO}{P:Tree->Tree->Tree->Prop}{F:Tree->Tree->Tree->Tree}(h:∀x y z,P x y z->RK3 C g k M8 x y z (F x y z)):kJ C g (pk3 k M8 P F):=λargs aU r hr=>by
 unfold pk3 at hr;split at hr
 ·split at hr
  ·rename_i hp;obtain⟨rfl,rfl,hp⟩:=hp;cases hr;exact h _ _ _ hp
  ·cases hr
 ·cases hr
theorem aak {ev:FuncId->List TV->List aO->Option bk}{g:FuncId}{k:List TV}{M8:List aO}{P:Tree->Tree->Tree->Prop}{F:Tree->Tree->Tree->Tree}(h:Has ev g (pk3 k M8 P F)){x y z:Tree}(hp:P x y z):ev g (.t x:: .t y:: .t z::k) M8=some (.ret (.t (F x y z)) M8 []):=h _ _ _ (if_pos ⟨rfl,rfl,hp⟩)
def AtB (l l2:List Tree)(i x y:Tree):Prop:=∃j:Nat,i=.int .i64 j/\j<4194304/\x∈l/\y∈l2
theorem aen (m:Int)(k1:Int)(b1:Bool)(n1:Int)(s1 t1:List UInt8)(N1 L1:List Tree)(k2:Int)(b2:Bool)(n2:Int)(s2 t2:List UInt8)(N2 L2:List Tree)(q:Tree->Tree->Tree->Int)(l l2:List Tree)(hl:l.length<=4194304)(hl2:∀y∈l,T .aV y)(hm:l2.length<=4194304)(hm2:∀y∈l2,T .aV y)(hq:∀x y z,AtB l l2 x y z->RK3 (cf m) 215 [.ptr (.arg 0) 0,.ptr (.arg 1) 0] [.cells 30 (eH k1 b1 n1 s1 t1 N1 L1),.cells 30 (eH k2 b2 n2 s2 t2 N2 L2)] x y z (.int .i64 (q x y z))):∃r:Int,aq (cf m) 214 (.t (.sl l):: .t (.sl l2)::[.fn (.func 215) [] [.ptr (.arg 0) 0,.ptr (.arg 1) 0]]) [.cells 30 (eH k1 b1 n1 s1 t1 N1 L1),.cells 30 (eH k2 b2 n2 s2 t2 N2 L2)] (.ret (.t (.int .i64 r)) [.cells 30 (eH k1 b1 n1 s1 t1 N1 L1),.cells 30 (eH k2 b2 n2 s2 t2 N2 L2)] []):=by
 obtain⟨Lj,UM⟩:=Lh m;obtain⟨ev,aC,e_q,UN⟩:∃ev,aI (cf m) ev/\Has ev 215 (pk3 [.ptr (.arg 0) 0,.ptr (.arg 1) 0] [.cells 30 (eH k1 b1 n1 s1 t1 N1 L1),.cells 30 (eH k2 b2 n2 s2 t2 N2 L2)] (AtB l l2) λx y z=>.int .i64 (q x y z))/\Has ev 246 (wB (λx y=>T .int x/\T .int y) (λx y=>.int .i64 (Lj x y))):=⟨_,(aA (abU hq) (aA (ec (λx y h=>(UM x y h).1)) aN)),aF,(au rfl aF)⟩;refine AX.start 37 3 Tryz.func214 rfl (by decide) rfl rfl (by decide) ?_;refine AX.frames ?_;refine kl (α:=Nat) ai 0 [] 37 0 [] [.arg 0,.arg 1] [0,1,2,13,14] (λx=>⟨ei 37 [(0,.t (.sl l)),(1,.t (.sl l2)),(2,.fn (.func 215) [] [.ptr (.arg 0) 0,.ptr (.arg 1) 0]),(13,.t (.int .i64 (min ((l.length:Nat):Int) ((l2.length:Nat):Int)))),(14,.t (.int .i64 ((x:Nat):Int)))],[(.arg 0,.cells 30 (eH k1 b1 n1 s1 t1 N1 L1)),(.arg 1,.cells 30 (eH k2 b2 n2 s2 t2 N2 L2))],0⟩) (λx=>(x<=(min l.length l2.length))) (λx=>(min l.length l2.length) - x) 0 (qD (Tryz.f214.body.getD .skip) 2) [oL .i64 ((l.length:Nat):Int) ((l2.length:Nat):Int)] (by show(0<=(min l.length l2.length));first|trivial|omega|(refine⟨?_, ?_⟩<;>first|omega|exact SM.nil)|simp) (λx hok=> ?_);obtain⟨i_1,Bo⟩:∃y,y=x:=⟨x,rfl⟩;subst Bo;replace hok:(i_1<=(min l.length l2.length)):=hok;have cM:=hok;rcases bw (decide (((i_1:Nat):Int)<(min ((l.length:Nat):Int) ((l2.length:Nat):Int)))) with cW|cW
 ·have mI:=of_decide_eq_true cW;obtain⟨e3,jb⟩:=iO l i_1;have pK:=(hl2 e3 (kQ jb));obtain⟨wJ,Ll,n_4,s_4,Lm,rS,wK,rfl,sx,sy,En,yU,Eo,Ep⟩:=T.dA pK;obtain⟨e5,wL⟩:=iO l2 i_1;have yV:=(hm2 e5 (kQ wL));obtain⟨I7,Yy,n_6,s_6,Yz,CS,I8,rfl,I9,Ja,Nu,Nv,Nw,Nx⟩:=T.dA yV;rcases bw (((q (.int .i64 ((i_1:Nat):Int)) (bM wJ Ll n_4 s_4 Lm rS wK) (bM I7 Yy n_6 s_6 Yz CS I8)) != 0)) with kM|kM
  ·have Bq:=bQ kM;refine kx ai [oB cW,oE jb,oE wL,oC (aak e_q (x:=.int .i64 ((i_1:Nat):Int)) (y:=(bM wJ Ll n_4 s_4 Lm rS wK)) (z:=(bM I7 Yy n_6 s_6 Yz CS I8)) ⟨_,rfl,by omega,kQ jb,kQ wL⟩),oB kM] ?_;exact⟨(q (.int .i64 ((i_1:Nat):Int)) (bM wJ Ll n_4 s_4 Lm rS wK) (bM I7 Yy n_6 s_6 Yz CS I8)),kf ai []⟩
  ·have Bq:=aM kM;exact⟨.inl ⟨i_1+1,⟨(by show(i_1+1)<=(min l.length l2.length);omega),(by show((min l.length l2.length) - (i_1+1))<((min l.length l2.length) - i_1);omega)⟩⟩,FL ai 0 [] 37 0 [] [.arg 0,.arg 1] [0,1,2,13,14] [oB cW,oE jb,oE wL,oC (aak e_q (x:=.int .i64 ((i_1:Nat):Int)) (y:=(bM wJ Ll n_4 s_4 Lm rS wK)) (z:=(bM I7 Yy n_6 s_6 Yz CS I8)) ⟨_,rfl,by omega,kQ jb,kQ wL⟩),oB kM,oI (i_1) (by omega)]⟩
 ·have mI:=of_decide_eq_false cW;refine kx ai [oB cW] ?_;exact⟨(Lj (.int .i64 ((l.length:Nat):Int)) (.int .i64 ((l2.length:Nat):Int))),kf ai [oC (ey UN (x:=.int .i64 ((l.length:Nat):Int)) (y:=.int .i64 ((l2.length:Nat):Int)) ⟨(.int _),(.int _)⟩)]⟩
end
end Go.Proofs.YtnfnihgmankidaaGreatDoor.w.e
namespace Go.Proofs.YtnfnihgmankidaaGreatDoor.w.e
open Go Go.Abs
set_option maxRecDepth 100000
set_option maxHeartbeats 2000000
noncomputable section
theorem YA (m:Int)(k1:Int)(b1:Bool)(n1:Int)(s1 t1:List UInt8)(N1 L1:List Tree)(k2:Int)(b2:Bool)(n2:Int)(s2 t2:List UInt8)(N2 L2:List Tree)(hN1:N1.length<=4194304)(abV:∀y∈N1,T .string y)(hN2:N2.length<=4194304)(abW:∀y∈N2,T .string y)(j:Nat)(hj:j<4194304)(x y:Tree)(hx:T .aV x)(hy:T .aV y)(fC:Tree->Tree->Int)(hC:R2 (cf m) 169 x y (.int .i64 (fC x y))):∃r:Int,aq (cf m) 215 (.t (.int .i64 (j:Int)):: .t x:: .t y::[.ptr (.arg 0) 0,.ptr (.arg 1) 0]) [.cells 30 (eH k1 b1 n1 s1 t1 N1 L1),.cells 30 (eH k2 b2 n2 s2 t2 N2 L2)] (.ret (.t (.int .i64 r)) [.cells 30 (eH k1 b1 n1 s1 t1 N1 L1),.cells 30 (eH k2 b2 n2 s2 t2 N2 L2)] []):=by
 have dB:=hx;obtain⟨gy,wM,n_1,s_1,tj,jm,j8,rfl,lp,iX,Er,mJ,Es,yW⟩:=T.dA dB;have gH:=hy;obtain⟨nH,Et,n_2,s_2,yX,nX,pL,rfl,pJ,qH,UO,Ny,UP,Jb⟩:=T.dA gH;obtain⟨jl,qI⟩:=Bn m;obtain⟨ev,aC,wI,e_self⟩:∃ev,aI (cf m) ev/\Has ev 84 (wB (λx y=>T .string x/\T .string y) (λx y=>.int .i64 (jl x y)))/\Has ev 169 (wB (λa b=>a=(bM gy wM n_1 s_1 tj jm j8)/\b=(bM nH Et n_2 s_2 yX nX pL)) λa b=>.int .i64 (fC a b)):=⟨_,(aA (ec (λx y h=>(qI x y h).1)) (aA (ec λa b h=>by obtain⟨rfl,rfl⟩:=h;exact hC) aN)),aF,(au rfl aF)⟩;refine AX.start 45 5 Tryz.func215 rfl (by decide) rfl rfl (by decide) ?_;refine AX.frames ?_;rcases bw (decide (((j:Nat):Int)<(min ((N1.length:Nat):Int) ((N2.length:Nat):Int)))) with hg3|hg3
 ·have UQ:=of_decide_eq_true hg3;obtain⟨e4,I5⟩:=iO N1 j;have Bp:=(abV e4 (kQ I5));obtain⟨v_5,rfl,UR⟩:=T.gM Bp;obtain⟨e6,Xo⟩:=iO N2 j;have Eu:=(abW e6 (kQ Xo));obtain⟨v_7,rfl,abX⟩:=T.gM Eu;rcases bw ((!(v_5==v_7))) with jB|jB
  ·have wN:=ne_of_beq_false (ow jB);have hp9:=(qI (.str v_5) (.str v_7) ⟨Bp,Eu⟩).2;exact⟨(jl (.str v_5) (.str v_7)),kf ai ([oL .i64 ((N1.length:Nat):Int) ((N2.length:Nat):Int)]++rq 4 (oB hg3) ([oE I5]++rq 5 (oB hg3) ([oE Xo,oB hg3,oB hg3,oB hg3,oB jB,oE I5,oE Xo,oC (ey wI (x:=.str v_5) (y:=.str v_7) ⟨Bp,Eu⟩)])))⟩
  ·have wN:=eq_of_beq (mH jB);exact⟨(fC (bM gy wM n_1 s_1 tj jm j8) (bM nH Et n_2 s_2 yX nX pL)),kf ai ([oL .i64 ((N1.length:Nat):Int) ((N2.length:Nat):Int)]++rq 4 (oB hg3) ([oE I5]++rq 5 (oB hg3) ([oE Xo,oB hg3,oB hg3,oB hg3,oB jB,oC (ey e_self (x:=(bM gy wM n_1 s_1 tj jm j8)) (y:=(bM nH Et n_2 s_2 yX nX pL)) ⟨rfl,rfl⟩)])))⟩
 ·have UQ:=of_decide_eq_false hg3;exact⟨(fC (bM gy wM n_1 s_1 tj jm j8) (bM nH Et n_2 s_2 yX nX pL)),kf ai ([oL .i64 ((N1.length:Nat):Int) ((N2.length:Nat):Int)]++rq 12 (oB hg3) ([oF,oC (ey e_self (x:=(bM gy wM n_1 s_1 tj jm j8)) (y:=(bM nH Et n_2 s_2 yX nX pL)) ⟨rfl,rfl⟩)]))⟩
theorem YB (m:Int)(k1:Int)(b1:Bool)(n1:Int)(s1 t1:List UInt8)(N1 L1:List Tree)(k2:Int)(b2:Bool)(n2:Int)(s2 t2:List UInt8)(N2 L2:List Tree)(hN1:N1.length<=4194304)(abV:∀y∈N1,T .string y)(hN2:N2.length<=4194304)(abW:∀y∈N2,T .string y)(hL1:L1.length<=4194304)(ahr:∀y∈L1,T .aV y)(hL2:L2.length<=4194304)(ahs:∀y∈L2,T .aV y)(h:∀a∈L1,∀b∈L2,∃r:Int,R2 (cf m) 169 a b (.int .i64 r)):∃q:Tree->Tree->Tree->Int,∀x y z,AtB L1 L2 x y z->RK3 (cf m) 215 [.ptr (.arg 0) 0,.ptr (.arg 1) 0] [.cells 30 (eH k1 b1 n1 s1 t1 N1 L1),.cells 30 (eH k2 b2 n2 s2 t2 N2 L2)] x y z (.int .i64 (q x y z)):=by
 obtain⟨fC,hC⟩:=cI (α:=Tree×Tree) (P:=λp=>p.1∈L1/\p.2∈L2) (Q:=λp (r:Int)=>R2 (cf m) 169 p.1 p.2 (.int .i64 r)) λp hp=>h p.1 hp.1 p.2 hp.2
 obtain⟨q,hq⟩:=cI (α:=Tree×Tree×Tree) (P:=λp=>AtB L1 L2 p.1 p.2.1 p.2.2) (Q:=λp (r:Int)=>RK3 (cf m) 215 [.ptr (.arg 0) 0,.ptr (.arg 1) 0] [.cells 30 (eH k1 b1 n1 s1 t1 N1 L1),.cells 30 (eH k2 b2 n2 s2 t2 N2 L2)] p.1 p.2.1 p.2.2 (.int .i64 r)) λp hp=>by
  obtain⟨x,y,z⟩:=p;obtain⟨j,rfl,hj,h1,h2⟩:=hp;exact YA m k1 b1 n1 s1 t1 N1 L1 k2 b2 n2 s2 t2 N2 L2 hN1 abV hN2 abW j hj y z (ahr _ h1) (ahs _ h2) (λa b=>fC (a,b)) (hC (y,z) ⟨h1,h2⟩)
 exact⟨λx y z=>q (x,y,z),λx y z h=>hq (x,y,z) h⟩
def lsV:Tree->List Tree
 |.agg [_,_,_,_,_,_,.sl l]=>l
 |_=>[]
theorem abY (m:Int)(x y:Tree)(hx:T .aV x)(hy:T .aV y)(QB:∀a∈lsV x,∀b∈lsV y,∃r:Int,R2 (cf m) 169 a b (.int .i64 r)):∃r:Int,aq (cf m) 169 [.t x,.t y] [] (.ret (.t (.int .i64 r)) [] []):=by
 have dB:=hx;obtain⟨gy,wM,n_1,s_1,tj,jm,j8,rfl,lp,iX,Er,mJ,Es,yW⟩:=T.dA dB;have gH:=hy;obtain⟨nH,Et,n_2,s_2,yX,nX,pL,rfl,pJ,qH,UO,Ny,UP,Jb⟩:=T.dA gH;obtain⟨Ln,US⟩:=Lb m;obtain⟨Lp,UT⟩:=Le m;obtain⟨jl,qI⟩:=Bn m;obtain⟨K8,K9⟩:=K7 m;obtain⟨qa,hqa⟩:=YB m gy wM n_1 s_1 tj jm j8 nH Et n_2 s_2 yX nX pL bh mJ bh Ny bh yW bh Jb QB;obtain⟨ra,hra⟩:=aen m gy wM n_1 s_1 tj jm j8 nH Et n_2 s_2 yX nX pL qa j8 pL bh yW bh Jb hqa;obtain⟨ev,aC,UU,UW,wI,UI,aeo⟩:∃ev,aI (cf m) ev/\Has ev 212 (wB (λx y=>T .iz x/\T .iz y) (λx y=>.int .i64 (Ln x y)))/\Has ev 213 (wB (λx y=>T .int64 x/\T .int64 y) (λx y=>.int .i64 (Lp x y)))/\Has ev 84 (wB (λx y=>T .string x/\T .string y) (λx y=>.int .i64 (jl x y)))/\Has ev 83 (xU (λx=>T .Lint x) (λx=>.int .i64 (K8 x)))/\Has ev 214 (px (.t (.sl j8):: .t (.sl pL)::[.fn (.func 215) [] [.ptr (.arg 0) 0,.ptr (.arg 1) 0]]) [.cells 30 (eH gy wM n_1 s_1 tj jm j8),.cells 30 (eH nH Et n_2 s_2 yX nX pL)] (.ret (.t (.int .i64 ra)) [.cells 30 (eH gy wM n_1 s_1 tj jm j8),.cells 30 (eH nH Et n_2 s_2 yX nX pL)] [])):=⟨_,(aA (ec (λx y h=>(US x y h).1)) (aA (ec (λx y h=>(UT x y h).1)) (aA (ec (λx y h=>(qI x y h).1)) (aA (eD (λx h=>(K9 x h).1)) (aA (Ag hra) aN))))),aF,(au rfl aF),(au rfl (au rfl aF)),(au rfl (au rfl (au rfl aF))),(au rfl (au rfl (au rfl (au rfl aF))))⟩;refine AX.start 67 2 Tryz.func169 rfl (by decide) rfl rfl (by decide) ?_;refine AX.frames ?_;rcases bw ((gy != nH)) with iF|iF
 ·have I4:=bQ iF;exact⟨(Ln (.int .u8 gy) (.int .u8 nH)),kf ai [oB iF,oC (ey UU (x:=.int .u8 gy) (y:=.int .u8 nH) ⟨(.iz _),(.iz _)⟩)]⟩
 ·have I4:=aM iF;rcases bw ((gy==0)) with gh|gh
  ·have uH:=eq_of_beq gh;rcases bw ((wM==Et)) with iH|iH
   ·have Ev:=eq_of_beq iH;exact⟨0,kf ai [oB iF,oB gh,oB iH]⟩
   ·have Ev:=ne_of_beq_false iH;rcases bw (wM) with rR|rR
    ·exact⟨1,kf ai [oB iF,oB gh,oB iH,oB rR]⟩
    ·exact⟨-1,kf ai [oB iF,oB gh,oB iH,oB rR]⟩
  ·have uH:=ne_of_beq_false gh;rcases bw ((gy==1)) with kM|kM
   ·have Bq:=eq_of_beq kM;exact⟨(Lp (.int .i64 n_1) (.int .i64 n_2)),kf ai [oB iF,oB gh,oB kM,oC (ey UW (x:=.int .i64 n_1) (y:=.int .i64 n_2) ⟨(.int64 _),(.int64 _)⟩)]⟩
   ·have Bq:=ne_of_beq_false kM;rcases bw ((gy==2)) with jB|jB
    ·have wN:=eq_of_beq jB;have hp9:=(qI (.str s_1) (.str s_2) ⟨(.string _ bh),(.string _ bh)⟩).2;exact⟨(jl (.str s_1) (.str s_2)),kf ai [oB iF,oB gh,oB kM,oB jB,oB jB,oB jB,oC (ey wI (x:=.str s_1) (y:=.str s_2) ⟨(.string _ bh),(.string _ bh)⟩)]⟩
    ·have wN:=ne_of_beq_false jB;rcases bw ((gy==3)) with jQ|jQ
     ·have Ah:=eq_of_beq jQ;have ajm:=(qI (.str tj) (.str yX) ⟨(.string _ bh),(.string _ bh)⟩).2;have aep:=(qI (.str s_1) (.str s_2) ⟨(.string _ bh),(.string _ bh)⟩).2;have ajn:=(K9 (.sl [.int .i64 (jl (.str tj) (.str yX)),.int .i64 (jl (.str s_1) (.str s_2))]) (.Lint _ bh (eC (.int _) (eC (.int _) (λ_ h=>absurd h (by simp)))))).2;exact⟨(K8 (.sl [.int .i64 (jl (.str tj) (.str yX)),.int .i64 (jl (.str s_1) (.str s_2))])),kf ai [oB iF,oB gh,oB kM,oB jB,oB jQ,oB jB,oC (ey wI (x:=.str tj) (y:=.str yX) ⟨(.string _ bh),(.string _ bh)⟩),oC (ey wI (x:=.str s_1) (y:=.str s_2) ⟨(.string _ bh),(.string _ bh)⟩),oC (dM UI (x:=.sl [.int .i64 (jl (.str tj) (.str yX)),.int .i64 (jl (.str s_1) (.str s_2))]) (.Lint _ bh (eC (.int _) (eC (.int _) (λ_ h=>absurd h (by simp))))))]⟩
     ·have Ah:=ne_of_beq_false jQ;rcases bw ((gy==4)) with Nz|Nz
      ·have aeq:=eq_of_beq Nz;exact⟨ra,kf ai [oB iF,oB gh,oB kM,oB jB,oB jQ,oB Nz,oB Nz,oC (Cs aeo)]⟩
      ·have aeq:=ne_of_beq_false Nz;rcases bw ((gy==5)) with lq|lq
       ·have Ew:=eq_of_beq lq;exact⟨ra,kf ai [oB iF,oB gh,oB kM,oB jB,oB jQ,oB Nz,oB lq,oC (Cs aeo)]⟩
       ·have Ew:=ne_of_beq_false lq;exact⟨0,kf ai [oB iF,oB gh,oB kM,oB jB,oB jQ,oB Nz,oB lq]⟩
theorem UX (m:Int):∃F:Tree->Tree->Int,∀x y,T .aV x/\T .aV y->R2 (cf m) 169 x y (.int .i64 (F x y)):=by
 have key:∀(k:K) (x:Tree),T k x->k=.aV->∀y,T .aV y->∃r:Int,R2 (cf m) 169 x y (.int .i64 r):=by
  intro k x h;induction h with
  |aV k1 b1 n1 s1 t1 N1 L1 hs ht h0 h1 h2 h3 _ ih=>exactλ_ y hy=>abY m _ y (.aV k1 b1 n1 s1 t1 N1 L1 hs ht h0 h1 h2 h3) hy λa ha b hb=>ih a ha rfl b (by obtain⟨k2,b2,n2,s2,t2,N2,L2,rfl,_,_,_,_,_,g3⟩:=T.dA hy;exact g3 b hb)
  |_=>exactλe=>(by cases e)
 exact Ed (Tree.int .i64) λb x h=>key _ b h.1 rfl x h.2

theorem UY (m:Int)(k1:Int)(b1:Bool)(n1:Int)(s1 t1:List UInt8)(hs1:s1.length<=4194304)(ht1:t1.length<=4194304)(ns ks:List Tree)(ln:ns.length<=4194304)(XF:∀y∈ns,T .string y)(lk:ks.length<=4194304)(hks:∀y∈ks,T .aV y)(fS:Tree->Int×Int×Bool)(hS:∀y∈ks,aq (cf m) 110 [.t y] [] (.ret (.t (.cv [.int .i64 (fS y).1,.int .i64 (fS y).2.1,.bool (fS y).2.2])) [] [])):∃r:Int×Int×Bool,aq (cf m) 110 [.t (bM k1 b1 n1 s1 t1 ns ks)] [] (.ret (.t (.cv [.int .i64 r.1,.int .i64 r.2.1,.bool r.2.2])) [] []):=by
 obtain⟨Ns,abS⟩:=Eh m;obtain⟨FO,Lr⟩:=Em m;obtain⟨aer,aht⟩:=UX m;obtain⟨ev,aC,I2,ND,e_self,ahu⟩:∃ev,aI (cf m) ev/\Has ev 77 (xU (λx=>PS x) (λx=>.bool (Ns x)))/\Has ev 34 (xU (λx=>T .av x) (λx=>.int .i64 (FO x)))/\Has ev 110 (xU (λy=>y∈ks) λy=>.cv [.int .i64 (fS y).1,.int .i64 (fS y).2.1,.bool (fS y).2.2])/\Has ev 169 (wB (λx y=>T .aV x/\T .aV y) (λx y=>.int .i64 (aer x y))):=⟨_,(aA (eD (λx h=>(abS x h))) (aA (eD (λx h=>(Lr x h).1)) (aA (eD hS) (aA (ec (λx y h=>(aht x y h))) aN)))),aF,(au rfl aF),(au rfl (au rfl aF)),(au rfl (au rfl (au rfl aF)))⟩;refine AX.start 220 1 Tryz.func110 rfl (by decide) rfl rfl (by decide) ?_;refine AX.frames ?_;refine Pd (f:=0) ai aC (α:=Bool×Bool×Int×List UInt8×List UInt8) (λx=>⟨ei 220 [(1,.ptr (.loc [0]) 0),(2,.t (.int .i64 0)),(3,.t (.int .i64 0)),(4,.t (.bool x.1)),(5,.ptr (.loc [1]) 0)],[(.loc [0],.cells 30 (eH k1 b1 n1 s1 t1 ns ks)),(.loc [1],.cells 30 [.t (.int .u8 k1),.t (.bool x.2.1),.t (.int .i64 x.2.2.1),.t (.str x.2.2.2.1),.t (.str x.2.2.2.2),.cc,.cc])],2⟩) (λx=>(x.1=true->k1=5->ns.length=ks.length)) 2 (n:=3000) (once:=[]) (k:=220) (T:=2) (S:=[.loc [0],.loc [7]]) (ks:=[.loc [0],.loc [7]]) (live:=[1,2,3,4,5]) (Yq (Tryz.f110.body.getD .skip) 15) (⟨ei 220 [(1,.ptr (.loc [0]) 0),(2,.t (.int .i64 0)),(3,.t (.int .i64 0)),(4,.t (.bool false)),(5,.ptr (.loc [1]) 0)],[(.loc [0],.cells 30 (eH k1 b1 n1 s1 t1 ns ks)),(.loc [1],.cells 30 [.t (.int .u8 k1),.t (.bool false),.t (.int .i64 0),.t (.str []),.t (.str []),.cc,.cc])],2⟩) [] (by kernel_rfl) ?_ ?_
 ·rcases bw ((k1==0)) with cW|cW
  ·have mI:=eq_of_beq cW;exact⟨.inl ⟨⟨true,b1,0,[],[]⟩,(by intro h1 h2;first|omega|(have:=eq_of_beq h1;omega))⟩,kr ai 220 2 [.loc [0],.loc [1]] [1,2,3,4,5] [oB cW]⟩
  ·have mI:=ne_of_beq_false cW;rcases bw ((k1==1)) with iF|iF
   ·have I4:=eq_of_beq iF;exact⟨.inl ⟨⟨true,false,n1,[],[]⟩,(by intro h1 h2;first|omega|(have:=eq_of_beq h1;omega))⟩,kr ai 220 2 [.loc [0],.loc [1]] [1,2,3,4,5] [oB cW,oB iF]⟩
   ·have I4:=ne_of_beq_false iF;rcases bw ((k1==2)) with gh|gh
    ·have uH:=eq_of_beq gh;rcases bw (decide (((s1.length:Nat):Int)<=256)) with Mp|Mp
     ·have ahv:=of_decide_eq_true Mp;exact⟨.inl ⟨⟨(Ns (.str s1)),false,0,s1,[]⟩,(by intro h1 h2;first|omega|(have:=eq_of_beq h1;omega))⟩,kr ai 220 2 [.loc [0],.loc [1]] [1,2,3,4,5] [oB cW,oB iF,oB gh,oB Mp,oB Mp,oB Mp,oC (dM I2 (x:=.str s1) ⟨_,rfl⟩),oB Mp]⟩
     ·have ahv:=of_decide_eq_false Mp;exact⟨.inl ⟨⟨false,false,0,s1,[]⟩,(by intro h1 h2;first|omega|(have:=eq_of_beq h1;omega))⟩,kr ai 220 2 [.loc [0],.loc [1]] [1,2,3,4,5] ([oB cW,oB iF,oB gh]++rq 4 (oB Mp) ([]))⟩
    ·have uH:=ne_of_beq_false gh;rcases bw ((k1==3)) with rR|rR
     ·have I6:=eq_of_beq rR;have Rq:=(Lr (.agg [.str t1,.str s1]) (.av _ _ bh bh)).2;exact⟨.inl ⟨⟨((FO (.agg [.str t1,.str s1]))==0),false,0,s1,t1⟩,(by intro h1 h2;first|omega|(have:=eq_of_beq h1;omega))⟩,kr ai 220 2 [.loc [0],.loc [1]] [1,2,3,4,5] [oB cW,oB iF,oB gh,oB rR,oC (dM ND (x:=.agg [.str t1,.str s1]) (.av _ _ bh bh))]⟩
     ·have I6:=ne_of_beq_false rR;rcases bw ((k1==4)) with jB|jB
      ·have wN:=eq_of_beq jB;exact⟨.inl ⟨⟨(((ns.length:Nat):Int)==0),false,0,[],[]⟩,(by intro h1 h2;first|omega|(have:=eq_of_beq h1;omega))⟩,kr ai 220 2 [.loc [0],.loc [1]] [1,2,3,4,5] [oB cW,oB iF,oB gh,oB rR,oB jB]⟩
      ·have wN:=ne_of_beq_false jB;rcases bw ((k1==5)) with yf|yf
       ·have abZ:=eq_of_beq yf;exact⟨.inl ⟨⟨(((ns.length:Nat):Int)==((ks.length:Nat):Int)),false,0,[],[]⟩,(by intro h1 h2;first|omega|(have:=eq_of_beq h1;omega))⟩,kr ai 220 2 [.loc [0],.loc [1]] [1,2,3,4,5] [oB cW,oB iF,oB gh,oB rR,oB jB,oB yf]⟩
       ·have abZ:=ne_of_beq_false yf;exact⟨.inl ⟨⟨false,false,0,[],[]⟩,(by intro h1 h2;first|omega|(have:=eq_of_beq h1;omega))⟩,kr ai 220 2 [.loc [0],.loc [1]] [1,2,3,4,5] [oB cW,oB iF,oB gh,oB rR,oB jB,oB yf]⟩
 ·rintro ⟨UZ,Ai,Aj,Ak,Al⟩ hok;replace hok:(UZ=true->k1=5->ns.length=ks.length):=hok;have cM:=hok;refine Pd (f:=0) ai aC (α:=Bool) (λx=>⟨ei 220 [(1,.ptr (.loc [0]) 0),(2,.t (.int .i64 0)),(3,.t (.int .i64 0)),(4,.t (.bool UZ)),(5,.ptr (.loc [1]) 0),(6,.t (.bool x))],[(.loc [0],.cells 30 (eH k1 b1 n1 s1 t1 ns ks)),(.loc [1],.cells 30 [.t (.int .u8 k1),.t (.bool Ai),.t (.int .i64 Aj),.t (.str Ak),.t (.str Al),.cc,.cc])],2⟩) (λx=>True) 15 (n:=3000) (once:=[]) (k:=220) (T:=2) (S:=[.loc [0],.loc [1]]) (ks:=[.loc [0],.loc [1]]) (live:=[1,2,3,4,5]) (Yq (Tryz.f110.body.getD .skip) 16) (⟨ei 220 [(1,.ptr (.loc [0]) 0),(2,.t (.int .i64 0)),(3,.t (.int .i64 0)),(4,.t (.bool UZ)),(5,.ptr (.loc [1]) 0)],[(.loc [0],.cells 30 (eH k1 b1 n1 s1 t1 ns ks)),(.loc [1],.cells 30 [.t (.int .u8 k1),.t (.bool Ai),.t (.int .i64 Aj),.t (.str Ak),.t (.str Al),.cc,.cc])],2⟩) [] (by kernel_rfl) ?_ ?_
  ·rcases bw ((k1==4)) with Bj|Bj
   ·have aes:=eq_of_beq Bj;exact⟨.inl ⟨true,trivial⟩,kr ai 220 2 [.loc [0],.loc [1]] [1,2,3,4,5,6] (rq 4 (oB Bj) ([]))⟩
   ·have aes:=ne_of_beq_false Bj;exact⟨.inl ⟨(k1==5),trivial⟩,kr ai 220 2 [.loc [0],.loc [1]] [1,2,3,4,5,6] (rq 4 (oB Bj) ([]))⟩
  ·intro aal hok;refine Pd (f:=0) ai aC (α:=Bool) (λx=>⟨ei 220 [(1,.ptr (.loc [0]) 0),(2,.t (.int .i64 0)),(3,.t (.int .i64 0)),(4,.t (.bool x))],[(.loc [0],.cells 30 (eH k1 b1 n1 s1 t1 ns ks))],1⟩) (λx=>(x=true->k1=5->ns.length=ks.length)) 16 (n:=3000) (once:=[]) (k:=220) (T:=2) (S:=[.loc [0],.loc [1]]) (ks:=[.loc [0],.loc [1]]) (live:=[1,2,3,4,5,6]) (Yq (Tryz.f110.body.getD .skip) 17) (⟨ei 220 [(1,.ptr (.loc [0]) 0),(2,.t (.int .i64 0)),(3,.t (.int .i64 0)),(4,.t (.bool UZ)),(5,.ptr (.loc [1]) 0),(6,.t (.bool aal))],[(.loc [0],.cells 30 (eH k1 b1 n1 s1 t1 ns ks)),(.loc [1],.cells 30 [.t (.int .u8 k1),.t (.bool Ai),.t (.int .i64 Aj),.t (.str Ak),.t (.str Al),.cc,.cc])],2⟩) [] (by kernel_rfl) ?_ ?_
   ·rcases bw (UZ) with Jc|Jc
    ·rcases bw ((b1==Ai)) with FP|FP
     ·have aet:=eq_of_beq FP;rcases bw ((n1==Aj)) with Jd|Jd
      ·have aeu:=eq_of_beq Jd;rcases bw ((s1==Ak)) with Ls|Ls
       ·have aev:=eq_of_beq Ls;rcases bw ((t1==Al)) with oD|oD
        ·have aew:=eq_of_beq oD;rcases bw (aal) with Je|Je
         ·exact⟨.inl ⟨decide (((ks.length:Nat):Int)<=16),(by intro h1 h2;first|exact cM (by assumption) h2|exact absurd h1 (by decide))⟩,kr ai 220 1 [.loc [0]] [1,2,3,4] (rq 6 (oB Jc) (rq 6 (oB FP) (rq 6 (oB Jd) (rq 6 (oB Ls) ([oB oD,oB oD]++rq 8 (oB Je) ([oB oD,oB Je,oB oD]++rq 5 oT ([])))))))⟩
         ·rcases bw ((((ks.length+ns.length:Nat):Int)==0)) with vC|vC
          ·have aex:=eq_of_beq vC;exact⟨.inl ⟨decide (((ks.length:Nat):Int)<=16),(by intro h1 h2;first|exact cM (by assumption) h2|exact absurd h1 (by decide))⟩,kr ai 220 1 [.loc [0]] [1,2,3,4] (rq 6 (oB Jc) (rq 6 (oB FP) (rq 6 (oB Jd) (rq 6 (oB Ls) ([oB oD,oB oD]++rq 7 (oB Je) ([Mm ks.length ns.length (by first|omega|(simp;omega)),oB Je,oB oD,oB Je,oB oD]++rq 5 (oB vC) ([])))))))⟩
          ·have aex:=ne_of_beq_false vC;exact⟨.inl ⟨false,(by intro h1 h2;first|exact cM (by assumption) h2|exact absurd h1 (by decide))⟩,kr ai 220 1 [.loc [0]] [1,2,3,4] (rq 6 (oB Jc) (rq 6 (oB FP) (rq 6 (oB Jd) (rq 6 (oB Ls) ([oB oD,oB oD]++rq 7 (oB Je) ([Mm ks.length ns.length (by first|omega|(simp;omega)),oB Je,oB oD,oB Je,oB oD]++rq 5 (oB vC) ([])))))))⟩
        ·have aew:=ne_of_beq_false oD;exact⟨.inl ⟨false,(by intro h1 h2;first|exact cM (by assumption) h2|exact absurd h1 (by decide))⟩,kr ai 220 1 [.loc [0]] [1,2,3,4] (rq 6 (oB Jc) (rq 6 (oB FP) (rq 6 (oB Jd) (rq 6 (oB Ls) (rq 4 (oB oD) (rq 5 oF ([])))))))⟩
       ·have aev:=ne_of_beq_false Ls;exact⟨.inl ⟨false,(by intro h1 h2;first|exact cM (by assumption) h2|exact absurd h1 (by decide))⟩,kr ai 220 1 [.loc [0]] [1,2,3,4] (rq 6 (oB Jc) (rq 6 (oB FP) (rq 6 (oB Jd) (rq 6 (oB Ls) (rq 9 oF ([]))))))⟩
      ·have aeu:=ne_of_beq_false Jd;exact⟨.inl ⟨false,(by intro h1 h2;first|exact cM (by assumption) h2|exact absurd h1 (by decide))⟩,kr ai 220 1 [.loc [0]] [1,2,3,4] (rq 6 (oB Jc) (rq 6 (oB FP) (rq 6 (oB Jd) (rq 15 oF ([])))))⟩
     ·have aet:=ne_of_beq_false FP;exact⟨.inl ⟨false,(by intro h1 h2;first|exact cM (by assumption) h2|exact absurd h1 (by decide))⟩,kr ai 220 1 [.loc [0]] [1,2,3,4] (rq 6 (oB Jc) (rq 6 (oB FP) (rq 21 oF ([]))))⟩
    ·exact⟨.inl ⟨false,(by intro h1 h2;first|exact cM (by assumption) h2|exact absurd h1 (by decide))⟩,kr ai 220 1 [.loc [0]] [1,2,3,4] (rq 6 (oB Jc) (rq 27 oF ([])))⟩
   ·intro aam hok;replace hok:(aam=true->k1=5->ns.length=ks.length):=hok;have Lt:=hok;refine kl (α:=Nat×Int×Int×Bool) ai 0 [] 220 1 [.loc [0]] [.loc [0]] [1,2,3,4,7] (λx=>⟨ei 220 [(1,.ptr (.loc [0]) 0),(2,.t (.int .i64 x.2.1)),(3,.t (.int .i64 x.2.2.1)),(4,.t (.bool x.2.2.2)),(7,.t (.int .i64 ((x.1:Nat):Int)))],[(.loc [0],.cells 30 (eH k1 b1 n1 s1 t1 ns ks))],1⟩) (λx=>(x.1<=ks.length)/\(k1=5->(x.2.2.2=true\/0<x.1)->ns.length=ks.length)) (λx=>ks.length - x.1) (⟨0,0,0,aam⟩) (qD (Tryz.f110.body.getD .skip) 18) [] ⟨Nat.zero_le _,λh1 h2=>Lt (h2.resolve_right (by simp)) h1⟩ (λx hok=> ?_);obtain⟨ru,fV,mK,Pk⟩:=x;replace hok:(ru<=ks.length)/\(k1=5->(Pk=true\/0<ru)->ns.length=ks.length):=hok;obtain⟨aey,Ex⟩:=hok;rcases bw (Pk) with YC|YC
    ·rcases bw (decide (((ru:Nat):Int)<((ks.length:Nat):Int))) with U0|U0
     ·have aez:=of_decide_eq_true U0;refine Pd (f:=0) ai aC (α:=Int×Int×Bool) (λx=>⟨ei 220 [(1,.ptr (.loc [0]) 0),(2,.t (.int .i64 x.1)),(3,.t (.int .i64 x.2.1)),(4,.t (.bool x.2.2)),(7,.t (.int .i64 ((ru:Nat):Int)))],[(.loc [0],.cells 30 (eH k1 b1 n1 s1 t1 ns ks))],1⟩) (λx=>True) 20 (n:=3000) (once:=[]) (k:=220) (T:=1) (S:=[.loc [0]]) (ks:=[.loc [0]]) (live:=[1,2,3,7]) (Yq (Tryz.f110.body.getD .skip) 19) (⟨ei 220 [(1,.ptr (.loc [0]) 0),(2,.t (.int .i64 fV)),(3,.t (.int .i64 mK)),(7,.t (.int .i64 ((ru:Nat):Int)))],[(.loc [0],.cells 30 (eH k1 b1 n1 s1 t1 ns ks))],1⟩) (rq 6 (oB YC) ([oB U0])) (by kernel_rfl) ?_ ?_
      ·obtain⟨e24,uI⟩:=iO ks ru;have aan:=(hks e24 (kQ uI));obtain⟨bt,cK,fE,fF,cL,aY,bu,rfl,agu,agv,agw,agx,agy,agz⟩:=T.dA aan;have xW:=dM e_self (x:=(bM bt cK fE fF cL aY bu)) (kQ uI);rcases bw (decide (((ru:Nat):Int)>0)) with uJ|uJ
       ·have aeA:=of_decide_eq_true uJ;rcases bw ((k1==4)) with Ct|Ct
        ·have aeB:=eq_of_beq Ct;rcases bw ((fS (bM bt cK fE fF cL aY bu)).2.2) with Jf|Jf
         ·obtain⟨e29,aeC⟩:=iO ks (ru - 1);have aao:=(hks e29 (kQ aeC));obtain⟨Pm,aap,aeD,aeE,aaq,Lu,Pn,rfl,agA,agB,agC,agD,agE,agF⟩:=T.dA aao;exact⟨.inl ⟨⟨(max fV ((fS (bM bt cK fE fF cL aY bu)).1)),(IntKind.wrap .i64 (mK+(fS (bM bt cK fE fF cL aY bu)).2.1)),decide ((aer (bM Pm aap aeD aeE aaq Lu Pn) (bM bt cK fE fF cL aY bu))<0)⟩,trivial⟩,kr ai 220 1 [.loc [0]] [1,2,3,4,7] ([oE uI,oC xW,oG .i64 fV ((fS (bM bt cK fE fF cL aY bu)).1),oZ]++rq 4 (oB uJ) ([oB Ct]++rq 4 (oB Jf) ([oS (ru) (by omega) (by omega),oB Jf,oE aeC]++rq 5 (oB Jf) ([oE uI,oB Jf,oB Jf,oC (ey ahu (x:=(bM Pm aap aeD aeE aaq Lu Pn)) (y:=(bM bt cK fE fF cL aY bu)) ⟨aao,aan⟩),oB Jf,oB Jf]))))⟩
         ·exact⟨.inl ⟨⟨(max fV ((fS (bM bt cK fE fF cL aY bu)).1)),(IntKind.wrap .i64 (mK+(fS (bM bt cK fE fF cL aY bu)).2.1)),false⟩,trivial⟩,kr ai 220 1 [.loc [0]] [1,2,3,4,7] ([oE uI,oC xW,oG .i64 fV ((fS (bM bt cK fE fF cL aY bu)).1),oZ]++rq 4 (oB uJ) ([oB Ct]++rq 14 (oB Jf) ([])))⟩
        ·have aeB:=ne_of_beq_false Ct;rcases bw ((k1==5)) with FQ|FQ
         ·have aeF:=eq_of_beq FQ;have hln:=Ex (by first|assumption|omega) (.inl (by assumption));obtain⟨e32,NF⟩:=iO ns ru;have aeG:=(XF e32 (kQ NF));obtain⟨NG,rfl,agG⟩:=T.gM aeG;rcases bw ((fS (bM bt cK fE fF cL aY bu)).2.2) with uK|uK
          ·rcases bw ((!(NG==[]))) with Lv|Lv
           ·have aeH:=ne_of_beq_false (ow Lv);rcases bw (decide (((NG.length:Nat):Int)<=64)) with yY|yY
            ·have aeI:=of_decide_eq_true yY;rcases bw ((Ns (.str NG))) with Cu|Cu
             ·rcases bw ((((ru:Nat):Int)==0)) with Ey|Ey
              ·have aeJ:=eq_of_beq Ey;exact⟨.inl ⟨⟨(max fV ((fS (bM bt cK fE fF cL aY bu)).1)),(IntKind.wrap .i64 (mK+(fS (bM bt cK fE fF cL aY bu)).2.1)),true⟩,trivial⟩,kr ai 220 1 [.loc [0]] [1,2,3,4,7] ([oE uI,oC xW,oG .i64 fV ((fS (bM bt cK fE fF cL aY bu)).1),oZ]++rq 4 (oB uJ) ([oB Ct,oB FQ,oE NF,oB uK,oB uK,oB uK]++rq 4 (oB Lv) ([oB yY,oB yY,oC (dM I2 (x:=.str NG) ⟨_,rfl⟩),oB yY,oB Cu,oB Cu,oB Cu]++rq 8 (oB Ey) ([oB Cu,oB Ey,oB Cu]))))⟩
              ·have aeJ:=ne_of_beq_false Ey;obtain⟨e39,aeK⟩:=iO ns (ru - 1);have aeL:=(XF e39 (kQ aeK));obtain⟨ahw,rfl,agH⟩:=T.gM aeL;exact⟨.inl ⟨⟨(max fV ((fS (bM bt cK fE fF cL aY bu)).1)),(IntKind.wrap .i64 (mK+(fS (bM bt cK fE fF cL aY bu)).2.1)),(cF ahw NG)⟩,trivial⟩,kr ai 220 1 [.loc [0]] [1,2,3,4,7] ([oE uI,oC xW,oG .i64 fV ((fS (bM bt cK fE fF cL aY bu)).1),oZ]++rq 4 (oB uJ) ([oB Ct,oB FQ,oE NF,oB uK,oB uK,oB uK]++rq 4 (oB Lv) ([oB yY,oB yY,oC (dM I2 (x:=.str NG) ⟨_,rfl⟩),oB yY,oB Cu,oB Cu,oB Cu]++rq 4 (oB Ey) ([oS (ru) (by omega) (by omega),oB Ey,oE aeK,oB Ey,oB Ey,oB Ey,oB Cu,oB Ey,oB Cu]))))⟩
             ·exact⟨.inl ⟨⟨(max fV ((fS (bM bt cK fE fF cL aY bu)).1)),(IntKind.wrap .i64 (mK+(fS (bM bt cK fE fF cL aY bu)).2.1)),false⟩,trivial⟩,kr ai 220 1 [.loc [0]] [1,2,3,4,7] ([oE uI,oC xW,oG .i64 fV ((fS (bM bt cK fE fF cL aY bu)).1),oZ]++rq 4 (oB uJ) ([oB Ct,oB FQ,oE NF,oB uK,oB uK,oB uK]++rq 4 (oB Lv) ([oB yY,oB yY,oC (dM I2 (x:=.str NG) ⟨_,rfl⟩),oB yY]++rq 5 (oB Cu) ([]))))⟩
            ·have aeI:=of_decide_eq_false yY;exact⟨.inl ⟨⟨(max fV ((fS (bM bt cK fE fF cL aY bu)).1)),(IntKind.wrap .i64 (mK+(fS (bM bt cK fE fF cL aY bu)).2.1)),false⟩,trivial⟩,kr ai 220 1 [.loc [0]] [1,2,3,4,7] ([oE uI,oC xW,oG .i64 fV ((fS (bM bt cK fE fF cL aY bu)).1),oZ]++rq 4 (oB uJ) ([oB Ct,oB FQ,oE NF,oB uK,oB uK,oB uK]++rq 4 (oB Lv) ([oB yY,oB yY,oB yY]++rq 5 oF ([]))))⟩
           ·have aeH:=eq_of_beq (mH Lv);exact⟨.inl ⟨⟨(max fV ((fS (bM bt cK fE fF cL aY bu)).1)),(IntKind.wrap .i64 (mK+(fS (bM bt cK fE fF cL aY bu)).2.1)),false⟩,trivial⟩,kr ai 220 1 [.loc [0]] [1,2,3,4,7] ([oE uI,oC xW,oG .i64 fV ((fS (bM bt cK fE fF cL aY bu)).1),oZ]++rq 4 (oB uJ) ([oB Ct,oB FQ,oE NF,oB uK,oB uK,oB uK]++rq 4 (oB Lv) (rq 8 oF ([]))))⟩
          ·exact⟨.inl ⟨⟨(max fV ((fS (bM bt cK fE fF cL aY bu)).1)),(IntKind.wrap .i64 (mK+(fS (bM bt cK fE fF cL aY bu)).2.1)),false⟩,trivial⟩,kr ai 220 1 [.loc [0]] [1,2,3,4,7] ([oE uI,oC xW,oG .i64 fV ((fS (bM bt cK fE fF cL aY bu)).1),oZ]++rq 4 (oB uJ) ([oB Ct,oB FQ,oE NF,oB uK,oB uK,oB uK]++rq 12 oF ([])))⟩
         ·have aeF:=ne_of_beq_false FQ;exact⟨.inl ⟨⟨(max fV ((fS (bM bt cK fE fF cL aY bu)).1)),(IntKind.wrap .i64 (mK+(fS (bM bt cK fE fF cL aY bu)).2.1)),(fS (bM bt cK fE fF cL aY bu)).2.2⟩,trivial⟩,kr ai 220 1 [.loc [0]] [1,2,3,4,7] ([oE uI,oC xW,oG .i64 fV ((fS (bM bt cK fE fF cL aY bu)).1),oZ]++rq 4 (oB uJ) ([oB Ct,oB FQ]))⟩
       ·have aeA:=of_decide_eq_false uJ;rcases bw ((k1==5)) with FT|FT
        ·have aeM:=eq_of_beq FT;have hln:=Ex (by first|assumption|omega) (.inl (by assumption));obtain⟨e42,NH⟩:=iO ns ru;have aeN:=(XF e42 (kQ NH));obtain⟨NI,rfl,agI⟩:=T.gM aeN;rcases bw ((fS (bM bt cK fE fF cL aY bu)).2.2) with uL|uL
         ·rcases bw ((!(NI==[]))) with gX|gX
          ·have aeO:=ne_of_beq_false (ow gX);rcases bw (decide (((NI.length:Nat):Int)<=64)) with yZ|yZ
           ·have aeP:=of_decide_eq_true yZ;rcases bw ((Ns (.str NI))) with Cv|Cv
            ·rcases bw ((((ru:Nat):Int)==0)) with Ez|Ez
             ·have aeQ:=eq_of_beq Ez;exact⟨.inl ⟨⟨(max fV ((fS (bM bt cK fE fF cL aY bu)).1)),(IntKind.wrap .i64 (mK+(fS (bM bt cK fE fF cL aY bu)).2.1)),true⟩,trivial⟩,kr ai 220 1 [.loc [0]] [1,2,3,4,7] ([oE uI,oC xW,oG .i64 fV ((fS (bM bt cK fE fF cL aY bu)).1),oZ]++rq 4 (oB uJ) ([oF,oB FT,oE NH,oB uL,oB uL,oB uL]++rq 4 (oB gX) ([oB yZ,oB yZ,oC (dM I2 (x:=.str NI) ⟨_,rfl⟩),oB yZ,oB Cv,oB Cv,oB Cv]++rq 8 (oB Ez) ([oB Cv,oB Ez,oB Cv]))))⟩
             ·have aeQ:=ne_of_beq_false Ez;obtain⟨e49,aeR⟩:=iO ns (ru - 1);have aeS:=(XF e49 (kQ aeR));obtain⟨ahx,rfl,agJ⟩:=T.gM aeS;exact⟨.inl ⟨⟨(max fV ((fS (bM bt cK fE fF cL aY bu)).1)),(IntKind.wrap .i64 (mK+(fS (bM bt cK fE fF cL aY bu)).2.1)),(cF ahx NI)⟩,trivial⟩,kr ai 220 1 [.loc [0]] [1,2,3,4,7] ([oE uI,oC xW,oG .i64 fV ((fS (bM bt cK fE fF cL aY bu)).1),oZ]++rq 4 (oB uJ) ([oF,oB FT,oE NH,oB uL,oB uL,oB uL]++rq 4 (oB gX) ([oB yZ,oB yZ,oC (dM I2 (x:=.str NI) ⟨_,rfl⟩),oB yZ,oB Cv,oB Cv,oB Cv]++rq 4 (oB Ez) ([oS (ru) (by omega) (by omega),oB Ez,oE aeR,oB Ez,oB Ez,oB Ez,oB Cv,oB Ez,oB Cv]))))⟩
            ·exact⟨.inl ⟨⟨(max fV ((fS (bM bt cK fE fF cL aY bu)).1)),(IntKind.wrap .i64 (mK+(fS (bM bt cK fE fF cL aY bu)).2.1)),false⟩,trivial⟩,kr ai 220 1 [.loc [0]] [1,2,3,4,7] ([oE uI,oC xW,oG .i64 fV ((fS (bM bt cK fE fF cL aY bu)).1),oZ]++rq 4 (oB uJ) ([oF,oB FT,oE NH,oB uL,oB uL,oB uL]++rq 4 (oB gX) ([oB yZ,oB yZ,oC (dM I2 (x:=.str NI) ⟨_,rfl⟩),oB yZ]++rq 5 (oB Cv) ([]))))⟩
           ·have aeP:=of_decide_eq_false yZ;exact⟨.inl ⟨⟨(max fV ((fS (bM bt cK fE fF cL aY bu)).1)),(IntKind.wrap .i64 (mK+(fS (bM bt cK fE fF cL aY bu)).2.1)),false⟩,trivial⟩,kr ai 220 1 [.loc [0]] [1,2,3,4,7] ([oE uI,oC xW,oG .i64 fV ((fS (bM bt cK fE fF cL aY bu)).1),oZ]++rq 4 (oB uJ) ([oF,oB FT,oE NH,oB uL,oB uL,oB uL]++rq 4 (oB gX) ([oB yZ,oB yZ,oB yZ]++rq 5 oF ([]))))⟩
          ·have aeO:=eq_of_beq (mH gX);exact⟨.inl ⟨⟨(max fV ((fS (bM bt cK fE fF cL aY bu)).1)),(IntKind.wrap .i64 (mK+(fS (bM bt cK fE fF cL aY bu)).2.1)),false⟩,trivial⟩,kr ai 220 1 [.loc [0]] [1,2,3,4,7] ([oE uI,oC xW,oG .i64 fV ((fS (bM bt cK fE fF cL aY bu)).1),oZ]++rq 4 (oB uJ) ([oF,oB FT,oE NH,oB uL,oB uL,oB uL]++rq 4 (oB gX) (rq 8 oF ([]))))⟩
         ·exact⟨.inl ⟨⟨(max fV ((fS (bM bt cK fE fF cL aY bu)).1)),(IntKind.wrap .i64 (mK+(fS (bM bt cK fE fF cL aY bu)).2.1)),false⟩,trivial⟩,kr ai 220 1 [.loc [0]] [1,2,3,4,7] ([oE uI,oC xW,oG .i64 fV ((fS (bM bt cK fE fF cL aY bu)).1),oZ]++rq 4 (oB uJ) ([oF,oB FT,oE NH,oB uL,oB uL,oB uL]++rq 12 oF ([])))⟩
        ·have aeM:=ne_of_beq_false FT;exact⟨.inl ⟨⟨(max fV ((fS (bM bt cK fE fF cL aY bu)).1)),(IntKind.wrap .i64 (mK+(fS (bM bt cK fE fF cL aY bu)).2.1)),(fS (bM bt cK fE fF cL aY bu)).2.2⟩,trivial⟩,kr ai 220 1 [.loc [0]] [1,2,3,4,7] ([oE uI,oC xW,oG .i64 fV ((fS (bM bt cK fE fF cL aY bu)).1),oZ]++rq 4 (oB uJ) ([oF,oB FT]))⟩
      ·rintro ⟨aeT,aeU,aeV⟩ hok;exact⟨.inl ⟨⟨ru+1,aeT,aeU,aeV⟩,⟨⟨(by show(ru+1)<=ks.length;omega),(λh1 _=>Ex h1 (.inl (by assumption)))⟩,(by show(ks.length - (ru+1))<(ks.length - ru);omega)⟩⟩,kr ai 220 1 [.loc [0]] [1,2,3,4,7] [oI (ru) (by omega)]⟩
     ·have aez:=of_decide_eq_false U0;refine kx ai (rq 6 (oB YC) ([oB U0])) ?_;exact⟨((IntKind.wrap .i64 (fV+1)),(IntKind.wrap .i64 (mK+1)),Pk),kf ai [oZ,oZ]⟩
    ·refine kx ai (rq 6 (oB YC) ([oF])) ?_;exact⟨((IntKind.wrap .i64 (fV+1)),(IntKind.wrap .i64 (mK+1)),Pk),kf ai [oZ,oZ]⟩
theorem NJ (m:Int):∃F:Tree->Int×Int×Bool,∀x,T .aV x->R1 (cf m) 110 x (.cv [.int .i64 (F x).1,.int .i64 (F x).2.1,.bool (F x).2.2]):=by
 have key:∀(k:K) (x:Tree),T k x->k=.aV->∃r:Int×Int×Bool,R1 (cf m) 110 x (.cv [.int .i64 r.1,.int .i64 r.2.1,.bool r.2.2]):=by
  intro k x h;induction h with
  |aV k1 b1 n1 s1 t1 N1 L1 hs ht h0 h1 h2 h3 _ ih=>
   intro _
   obtain⟨fS,hS⟩:=cI (α:=Tree) (P:=λy=>y∈L1) (Q:=λy (r:Int×Int×Bool)=>R1 (cf m) 110 y (.cv [.int .i64 r.1,.int .i64 r.2.1,.bool r.2.2])) λy hy=>ih y hy rfl
   exact UY m k1 b1 n1 s1 t1 hs ht N1 L1 h0 h1 h2 h3 fS hS
  |_=>exactλe=>(by cases e)
 exact ye (λr:Int×Int×Bool=>.cv [.int .i64 r.1,.int .i64 r.2.1,.bool r.2.2]) λx h=>key _ x h rfl
theorem U1 (m:Int):∃F:Tree->Int,∀x,(T .aV x)->R1 (cf m) 69 x (.int .i64 (F x))/\(True):=by
 refine Iv (P:=λx=>T .aV x) (mk:=λ(r:Int)=>.int .i64 r) (Post:=λx r=>True) λx hx=> ?_
 show ∃r:{r:Int // True},aq (cf m) 69 [.t x] [] (.ret (.t (.int .i64 r.1)) [] []);have dB:=hx;obtain⟨gy,wM,n_1,s_1,tj,jm,j8,rfl,lp,iX,Er,mJ,Es,yW⟩:=T.dA dB;obtain⟨GM,aeW⟩:=NJ m;obtain⟨ev,aC,aeX⟩:∃ev,aI (cf m) ev/\Has ev 110 (xU (λx=>T .aV x) (λx=>.cv [.int .i64 (GM x).1,.int .i64 (GM x).2.1,.bool (GM x).2.2])):=⟨_,(aA (eD (λx h=>(aeW x h))) aN),aF⟩;refine AX.start 21 1 Tryz.func69 rfl (by decide) rfl rfl (by decide) ?_;refine AX.frames ?_;have YD:=dM aeX (x:=(bM gy wM n_1 s_1 tj jm j8)) dB;rcases bw ((!(GM (bM gy wM n_1 s_1 tj jm j8)).2.2)) with cW|cW
 ·refine⟨⟨7, ?_⟩,kf ai [oC YD,oB cW]⟩;trivial
 ·rcases bw (decide ((GM (bM gy wM n_1 s_1 tj jm j8)).1>8)) with iF|iF
  ·have I4:=of_decide_eq_true iF;refine⟨⟨4, ?_⟩,kf ai [oC YD,oB cW,oB iF]⟩;trivial
  ·have I4:=of_decide_eq_false iF;rcases bw (decide ((GM (bM gy wM n_1 s_1 tj jm j8)).2.1>128)) with gh|gh
   ·have uH:=of_decide_eq_true gh;refine⟨⟨2, ?_⟩,kf ai [oC YD,oB cW,oB iF,oB gh]⟩;trivial
   ·have uH:=of_decide_eq_false gh;refine⟨⟨0, ?_⟩,kf ai [oC YD,oB cW,oB iF,oB gh]⟩;trivial
theorem ES (m:Int):∃F:Tree->Int,∀x,(T .aV x)->(R1 (cf m) 69 x (.int .i64 (F x))/\(True))/\((R1 (cf m) 69 x (.int .i64 0)/\(True))->F x=0):=by
 obtain⟨F,hF⟩:=U1 m;classical
 refine⟨λx=>if(R1 (cf m) 69 x (.int .i64 0)/\(True)) then 0 else F x,λx hx=> ?_⟩;by_cases hz:(R1 (cf m) 69 x (.int .i64 0)/\(True))
 ·simp only[if_pos hz];exact⟨⟨hz.1,hz.2⟩,λ_=>trivial⟩
 ·simp only[if_neg hz];exact⟨hF x hx,λh=>absurd h hz⟩
def vcG (m:Int):Tree->Int:=Classical.choose (ES m)
theorem U2 (m:Int):∃F:Tree->Int,∀x,(T .aV x)->R1 (cf m) 69 x (.int .i64 (F x))/\((True)/\F x=vcG m x):=⟨vcG m,λx h=>⟨(Classical.choose_spec (ES m) x h).1.1,(Classical.choose_spec (ES m) x h).1.2,rfl⟩⟩
end
end Go.Proofs.YtnfnihgmankidaaGreatDoor.w.e
