/- More of it. -/
import Derived.Test.YtnfnihgmankidaaGreatDoorV
import Derived.Test.YtnfnihgmankidaaGreatDoorW
import Derived.Test.YtnfnihgmankidaaGreatDoorX
import Derived.Test.YtnfnihgmankidaaGreatDoorQ
import Derived.Test.YtnfnihgmankidaaGreatDoorT
import Derived.Test.YtnfnihgmankidaaGreatDoorR
set_option linter.unusedVariables false
set_option linter.unusedSimpArgs false
namespace Go.Proofs.YtnfnihgmankidaaGreatDoor.w
open Go Go.Abs
set_option maxRecDepth 100000
set_option maxHeartbeats 1000000
noncomputable section
theorem cD {α β:Type}[Inhabited β]{P:α->Prop}{Q:α->β->Prop}(h:∀a,P a->∃b,Q a b):∃f:α->β,∀a,P a->Q a (f a):=
 Classical.axiomOfChoice (r:=λa b=>P a->Q a b) λa=>by
  by_cases hp:P a
  ·obtain⟨b,hb⟩:=h a hp;exact⟨b,λ_=>hb⟩
  ·exact⟨default,λh=>absurd h hp⟩
theorem xC {C:cE}{β:Type}[Inhabited β]{g:FuncId}{P:Tree->Prop}(mk:β->Tree)(h:∀x,P x->∃r:β,aq C g [.t x] [] (.ret (.t (mk r)) [] [])):∃f:Tree->β,∀x,P x->aq C g [.t x] [] (.ret (.t (mk (f x))) [] []):=cD h
theorem DX {C:cE}{β:Type}[Inhabited β]{g:FuncId}{P:Tree->Tree->Prop}(mk:β->Tree)(h:∀x y,P x y->∃r:β,aq C g [.t x,.t y] [] (.ret (.t (mk r)) [] [])):
 ∃f:Tree->Tree->β,∀x y,P x y->aq C g [.t x,.t y] [] (.ret (.t (mk (f x y))) [] []):=by
 obtain⟨f,hf⟩:=cD (α:=Tree×Tree) (P:=λp=>P p.1 p.2) (Q:=λp r=>aq C g [.t p.1,.t p.2] [] (.ret (.t (mk r)) [] [])) λp hp=>h p.1 p.2 hp
 exact⟨λx y=>f (x,y),λx y hp=>hf (x,y) hp⟩
def PI (x:Tree):Prop:=∃n,x=.int .u8 n
def PS (x:Tree):Prop:=∃s,x=.str s
def t1 {β:Type}(mk:β->Tree)(P:Tree->Prop)(f:Tree->β):List TV->List aK->Option bB:=ct1 P λx=>.ret (.t (mk (f x))) [] []
def t2 {β:Type}(mk:β->Tree)(P:Tree->Tree->Prop)(f:Tree->Tree->β):List TV->List aK->Option bB:=ct2 P λx y=>.ret (.t (mk (f x y))) [] []
theorem DY {C:cE}{β:Type}{g:FuncId}{mk:β->Tree}{P:Tree->Prop}{f:Tree->β}(h:∀x,P x->aq C g [.t x] [] (.ret (.t (mk (f x))) [] [])):ku C g (t1 mk P f):=aaR h
theorem GC {C:cE}{β:Type}{g:FuncId}{mk:β->Tree}{P:Tree->Tree->Prop}{f:Tree->Tree->β}(h:∀x y,P x y->aq C g [.t x,.t y] [] (.ret (.t (mk (f x y))) [] [])):ku C g (t2 mk P f):=Ti h
theorem DZ {β:Type}{g:FuncId}{mk:β->Tree}{P:Tree->Prop}{f:Tree->β}{ev:aT}{x:Tree}(h:P x):mE g (t1 mk P f) ev g [.t x] []=some (.ret (.t (mk (f x))) [] []):=aaS h
theorem GD {β:Type}{g:FuncId}{mk:β->Tree}{P:Tree->Tree->Prop}{f:Tree->Tree->β}{ev:aT}{x y:Tree}(h:P x y):mE g (t2 mk P f) ev g [.t x,.t y] []=some (.ret (.t (mk (f x y))) [] []):=Tj h
theorem M9 (m:Int):∃f:Tree->Bool,∀x,PI x->aq (cf m) 167 [.t x] [] (.ret (.t (.bool (f x))) [] []):=by
 obtain⟨fd,hd⟩:=xC (C:=cf m) (g:=165) (P:=PI) Tree.bool (λx ⟨n,e⟩=>e▸KD aM n);obtain⟨fl,hl⟩:=xC (C:=cf m) (g:=168) (P:=PI) Tree.bool (λx ⟨n,e⟩=>e▸Ri aM n);refine xC (P:=PI) Tree.bool λx ⟨n,e⟩=>e▸Uw (aB (DY hl) (aB (DY hd) aM)) (λn=>fl (.int .u8 n)) (λn=>fd (.int .u8 n)) (λn=>DZ ⟨n,rfl⟩) (λn=>nD rfl (DZ ⟨n,rfl⟩)) n
def D1 (s:List UInt8):Tree:=.sl (s.map λb=>.int .u8 b.toNat)
theorem Uy (m:Int):∃f:Tree->Tree->Bool,∀x y,((∃s:List UInt8,s.length<=64/\x=D1 s)/\y=.fn (.func 167))->aq (cf m) 166 [.t x,.t y] [] (.ret (.t (.bool (f x y))) [] []):=by
 obtain⟨f1,h1⟩:=M9 m;obtain⟨fi,hi⟩:=DX (C:=cf m) (g:=211) (P:=λx y=>(∃s:List UInt8,s.length<=64/\x=D1 s)/\y=.fn (.func 167)) (Tree.int .i64) (λx y ⟨⟨s,hs,e⟩,e2⟩=>by
  subst e;subst e2;have hform:∀e∈s.map (λb:UInt8=>Tree.int .u8 b.toNat),∃n,e=.int .u8 n:=λe he=>by obtain⟨b,_,rfl⟩:=List.mem_map.1 he;exact⟨_,rfl⟩
  exact abk (aB (DY h1) aM) _ (by rw[List.length_map];omega) hform 167 f1 (λe he=>DZ (hform e he)))
 exact DX Tree.bool λx y hp=>abl (aB (GC hi) aM) x y (fi x y) (GD hp)
theorem Uz (m:Int):∃f:Tree->Tree->Bool,∀x y,(x=.sl (vr.map .str)/\PS y)->aq (cf m) 95 [.t x,.t y] [] (.ret (.t (.bool (f x y))) [] []):=by
 obtain⟨fi,hi⟩:=DX (C:=cf m) (g:=146) (P:=λx y=>x=.sl (vr.map .str)/\PS y) (Tree.int .i64) (λx y ⟨e,s,e2⟩=>by
  subst e;subst e2;exact abo aM _ (by decide) (λe he=>by obtain⟨b,_,rfl⟩:=List.mem_map.1 he;exact⟨_,rfl⟩) s)
 exact DX Tree.bool λx y hp=>abp (aB (GC hi) aM) x y (fi x y) (GD hp)
theorem Rk (m:Int):∃f:Tree->Bool,∀x,PS x->aq (cf m) 108 [.t x] [] (.ret (.t (.bool (f x))) [] []):=by
 obtain⟨fd,hd⟩:=xC (C:=cf m) (g:=165) (P:=PI) Tree.bool (λx ⟨n,e⟩=>e▸KD aM n);obtain⟨fb,hb⟩:=Uy m;obtain⟨fc,hc⟩:=Uz m;have hw:ku (cf m) 164 (Az vt mC):=λargs aQ r h=>live.KG m mC aM args aQ r h
 refine xC (P:=PS) Tree.bool λx ⟨s,e⟩=>e▸Ye (ev:=mE 164 (Az vt mC) (mE 165 (t1 .bool PI fd) (mE 95 (t2 .bool (λx y=>x=.sl (vr.map .str)/\PS y) fc) (mE 166 (t2 .bool (λx y=>(∃s:List UInt8,s.length<=64/\x=D1 s)/\y=.fn (.func 167)) fb) mC))))
  (aB hw (aB (DY hd) (aB (GC hc) (aB (GC hb) aM)))) (λn=>fd (.int .u8 n)) (λs=>fc (.sl (vr.map .str)) (.str s)) (λs=>fb (D1 s) (.fn (.func 167))) rfl
  (λn=>nD rfl (DZ ⟨n,rfl⟩)) (λs=>nD rfl (nD rfl (GD ⟨rfl,s,rfl⟩))) (λs hs=>nD rfl (nD rfl (nD rfl (GD (x:=D1 s) ⟨⟨s,hs,rfl⟩,rfl⟩)))) s
theorem Yf (m:Int):∃f:Tree->Bool,∀x,PS x->aq (cf m) 76 [.t x] [] (.ret (.t (.bool (f x))) [] []):=by
 obtain⟨fn,hn⟩:=Rk m;obtain⟨f1,h1⟩:=xC (C:=cf m) (g:=116) (P:=PS) Tree.bool (λx ⟨s,e⟩=>e▸Iw (aB (DY hn) aM) (λs=>fn (.str s)) (λs=>DZ ⟨s,rfl⟩) s);obtain⟨pc,hpc⟩:=cD (α:=List UInt8) (β:=List (List UInt8)) (P:=λs=>s.length<=64) (Q:=λs l=>l.length<=s.length+1/\aq (cf m) 115 [.t (.str s),.t (.str [58,58])] [] (.ret (.t (.sl (l.map .str))) [] [])) λs hs=>Ux s [58,58] (by omega) (by decide)
 obtain⟨fi,hi⟩:=DX (C:=cf m) (g:=171) (P:=λx y=>(∃s:List UInt8,s.length<=64/\x=.sl ((pc s).map .str))/\y=.fn (.func 116)) (Tree.int .i64) (λx y ⟨⟨s,hs,e⟩,e2⟩=>by
  subst e;subst e2;have hform:∀e∈(pc s).map Tree.str,∃u,e=.str u:=λe he=>by obtain⟨b,_,rfl⟩:=List.mem_map.1 he;exact⟨_,rfl⟩
  exact abm (aB (DY h1) aM) _ (by rw[List.length_map];have:=(hpc s hs).1;omega) hform 116 f1 (λe he=>DZ (hform e he)))
 obtain⟨fc,hc⟩:=DX (C:=cf m) (g:=114) (P:=λx y=>(∃s:List UInt8,s.length<=64/\x=.sl ((pc s).map .str))/\y=.fn (.func 116)) Tree.bool λx y hp=>abn (aB (GC hi) aM) x y (fi x y) (GD hp)
 have hsp:ku (cf m) 115 (ct2 (λx y=>(∃s:List UInt8,s.length<=64/\x=.str s)/\y=.str [58,58]) λx _=>match x with|.str s=>.ret (.t (.sl ((pc s).map .str))) [] []|_=>default):=
  Ti λx y hx=>by obtain⟨⟨s,hs,rfl⟩,rfl⟩:=hx;exact(hpc s hs).2
 exact xC (P:=PS) Tree.bool λx ⟨s,e⟩=>e▸KF (aB hsp (aB (GC hc) aM)) pc (λs=>fc (.sl ((pc s).map .str)) (.fn (.func 116))) (λs hs=>Tj (x:=.str s) (y:=.str [58,58]) ⟨⟨s,hs,rfl⟩,rfl⟩) (λs hs=>nD rfl (GD ⟨⟨s,hs,rfl⟩,rfl⟩)) s
theorem D2 (m:Int):∃f:Tree->Bool,∀x,PS x->aq (cf m) 77 [.t x] [] (.ret (.t (.bool (f x))) [] []):=by
 obtain⟨fw,hw⟩:=xC (C:=cf m) (g:=117) (P:=λx=>∃s:List UInt8,8<=s.length/\x=.str s) (Tree.int .u64) (λx ⟨s,hs,e⟩=>by
  subst e;match s,hs with
  |b0::b1::b2::b3::b4::b5::b6::b7::r,_=>exact XM aM b0 b1 b2 b3 b4 b5 b6 b7 r)
 exact xC (C:=cf m) (g:=77) (P:=PS) Tree.bool (λx ⟨s,e⟩=>e▸Uv _ (aB (DY hw) aM) (λs=>fw (.str s)) (λs hs=>DZ ⟨s,hs,rfl⟩) s)
end
end Go.Proofs.YtnfnihgmankidaaGreatDoor.w
namespace Go.Proofs.YtnfnihgmankidaaGreatDoor.w
open Go Go.Abs
def AJ:Tree->List UInt8
 |.agg [.str n,_]=>n
 |_=>[]
def Rl:Tree->List UInt8
 |.agg [_,.str n]=>n
 |_=>[]
def sOf:Tree->List UInt8
 |.str s=>s
 |_=>[]
def Rm:Tree->Int
 |.int _ k=>k
 |_=>0
def Yg (x y:Int):Int:=if x≠0 then x else y
def qX (a b:List UInt8):Int:=if a<b then -1 else if b<a then 1 else 0
def abq (x y:Tree):Int:=qX (sOf x) (sOf y)
def mA (x y:Tree):Int:=Yg (qX (AJ x) (AJ y)) (qX (Rl x) (Rl y))
def Yh:List Tree->Int
 | []=>0
 |y::r=>if Rm y≠0 then Rm y else Yh r
theorem O7 {a b:List UInt8}:qX a b<0↔a<b:=by
 unfold qX;by_cases h1:a<b
 ·simp[h1]
 ·by_cases h2:b<a<;>simp[h1,h2]
theorem o9 {a b:List UInt8}:qX a b=0↔a=b:=by
 unfold qX;by_cases h1:a<b
 ·simp only[if_pos h1];exact⟨λh=>by omega,λh=>by subst h;exact absurd h1 (List.lt_irrefl _)⟩
 ·by_cases h2:b<a
  ·simp only[if_neg h1,if_pos h2];exact⟨λh=>by omega,λh=>by subst h;exact absurd h2 h1⟩
  ·simp only[if_neg h1,if_neg h2,true_iff];exact List.le_antisymm (List.not_lt.1 h2) (List.not_lt.1 h1)
theorem AK {x y:Tree}:mA x y<0↔AJ x<AJ y\/(AJ x=AJ y/\Rl x<Rl y):=by
 unfold mA Yg;by_cases h:qX (AJ x) (AJ y)=0
 ·rw[if_neg (by simpa using h)];have e:=o9.1 h;rw[O7,e];exact⟨λh=>.inr ⟨rfl,h⟩,λh=>h.elim (λh=>absurd h (List.lt_irrefl _)) λh=>h.2⟩
 ·rw[if_pos h,O7];exact⟨.inl,λq=>q.elim id λq=>absurd (o9.2 q.1) h⟩
theorem D3 {x y:Tree}:mA x y=0↔AJ x=AJ y/\Rl x=Rl y:=by
 unfold mA Yg;by_cases h:qX (AJ x) (AJ y)=0
 ·rw[if_neg (by simpa using h),o9];exact⟨λg=>⟨o9.1 h,g⟩,λg=>g.2⟩
 ·rw[if_pos h];exact⟨λg=>absurd g h,λg=>absurd (o9.2 g.1) h⟩
theorem pg {x y z:Tree}(h1:mA x y<0)(h2:mA y z<0):mA x z<0:=by
 rw[AK] at*;rcases h1 with h1|⟨e1,h1⟩<;>rcases h2 with h2|⟨e2,h2⟩
 ·exact .inl (List.lt_trans h1 h2)
 ·exact .inl (e2▸h1)
 ·exact .inl (e1▸h2)
 ·exact .inr ⟨e1.trans e2,List.lt_trans h1 h2⟩
theorem tD {x:Tree}:¬mA x x<0:=λh=>by
 rw[D3.2 ⟨rfl,rfl⟩] at h;exact absurd h (by decide)
theorem O8 {x y:Tree}(h:¬mA x y<0)(h2:¬mA y x<0):mA x y=0:=by
 rw[AK] at h h2;rw[D3];have n1:¬AJ x<AJ y:=λq=>h (.inl q)
 have n2:¬AJ y<AJ x:=λq=>h2 (.inl q)
 have e:AJ x=AJ y:=List.le_antisymm (List.not_lt.1 n2) (List.not_lt.1 n1);refine⟨e,List.le_antisymm (List.not_lt.1 λq=>h2 (.inr ⟨e.symm,q⟩)) (List.not_lt.1 λq=>h (.inr ⟨e,q⟩))⟩
theorem Iy {a b c d:List UInt8}:mA (.agg [.str a,.str b]) (.agg [.str c,.str d])=0↔Tree.agg [.str a,.str b]=Tree.agg [.str c,.str d]:=by
 rw[D3];constructor
 ·rintro ⟨h1,h2⟩;have h1:a=c:=h1;have h2:b=d:=h2;rw[h1,h2]
 ·intro h;simp only[Tree.agg.injEq,List.cons.injEq,Tree.str.injEq,and_true] at h;exact⟨h.1,h.2⟩
theorem UA:∀(x y:List UInt8),bK x y=decide (x<y)
 | [],[]=>by simp[bK]
 |_::_,[]=>by simp[bK]
 | [],_::_=>by simp[bK]
 |a::x,b::y=>by
  rw[bK,UA x y]
  simp only[List.cons_lt_cons_iff]
  by_cases h1:a<b<;>by_cases h2:a=b<;>by_cases h3:x<y<;>simp[h1,h2,h3]
theorem abr {a b:List UInt8}(h:bK a b=true):qX a b=-1:=by
 rw[UA] at h;exact if_pos (of_decide_eq_true h)
theorem abt {a b:List UInt8}(h:bK a b=false)(h2:(!(bK a b||a==b))=false):qX a b=0:=by
 rw[h] at h2;exact o9.2 (by simpa using h2)
theorem abu {a b:List UInt8}(h:bK a b=false)(h2:(!(bK a b||a==b))=true):qX a b=1:=by
 rw[h] at h2;rw[UA] at h;have h1:¬a<b:=of_decide_eq_false h;have h3:a≠b:=by simpa using h2
 have h4:b<a:=by
  refine Decidable.byContradiction λg=>h3 (List.le_antisymm (List.not_lt.1 g) (List.not_lt.1 h1))
 unfold qX;rw[if_neg h1,if_pos h4]
theorem O9 {y:Tree}(hk:Rm y≠0):∀{l:List Tree} {i:Nat},l[i]?=some y->(∀z∈l.take i,Rm z=0)->Yh l=Rm y
 | [],_,he,_=>by simp at he
 |a::r,0,he,_=>by
  simp only[List.getElem?_cons_zero,Option.some.injEq] at he
  subst he
  exact if_pos hk
 |a::r,i+1,he,h=>by
  have h0:Rm a=0:=h a (by simp)
  show(if Rm a≠0 then Rm a else Yh r)=_
  rw[if_neg (by simp[h0])]
  exact O9 hk (by simpa using he) λz hz=>h z (by simp[hz])
theorem KH:∀{l:List Tree},(∀z∈l,Rm z=0)->Yh l=0
 | [],_=>rfl
 |a::r,h=>by
  show(if Rm a≠0 then Rm a else Yh r)=_
  rw[if_neg (by simp[h a (by simp)])]
  exact KH λz hz=>h z (by simp[hz])
theorem ah0 (a b:Int):Yh [.int .i64 a,.int .i64 b]=Yg a b:=by
 show(if a≠0 then a else if b≠0 then b else 0)=if a≠0 then a else b
 by_cases h:b=0
 ·rw[h];rfl
 ·rw[if_pos h]
theorem AL {l:List Tree}{i:Nat}{x:Tree}{p:Tree->Prop}(he:l[i]?=some x)(hx:p x)(h:∀z∈l.take i,p z):∀z∈l.take (i+1),p z:=λz hz=>by
 rw[jU he] at hz;rcases List.mem_append.1 hz with hz|hz
 ·exact h z hz
 ·rw[List.mem_singleton.1 hz];exact hx
theorem nI {l:List Tree}{i:Nat}(h:l.length<=i){p:Tree->Prop}(h2:∀z∈l.take i,p z):∀z∈l,p z:=λz hz=>h2 z (by rw[List.take_of_length_le h];exact hz)
def cF:Tree->Tree
 |.agg (.str a:: .str b::_)=>.agg [.str a,.str b]
 |_=>.agg []
def ov (l:List Tree):Prop:=l.Pairwise λa b=>mA (cF a) (cF b)<0
theorem ov.at {l:List Tree}(h:ov l){i j:Nat}{a b:Tree}(hij:i<j)(ha:l[i]?=some a)(hb:l[j]?=some b):mA (cF a) (cF b)<0:=by
 obtain⟨h1,rfl⟩:=List.getElem?_eq_some_iff.1 ha;obtain⟨h2,rfl⟩:=List.getElem?_eq_some_iff.1 hb;exact List.pairwise_iff_getElem.1 h i j h1 h2 hij
theorem adR {l:List Tree}{u x:Tree}{h:Nat}(he:l[h]?=some x)(hx:mA (cF x) u<0)(hr:ov l):∀e∈l.take (h+1),mA (cF e) u<0:=λe hm=>by
 obtain⟨i,hi⟩:=List.getElem?_of_mem hm;rw[List.getElem?_take] at hi;split at hi
 ·rename_i hlt;by_cases hih:i=h
  ·subst hih;rw[hi] at he;cases he;exact hx
  ·exact pg (hr.at (by omega) hi he) hx
 ·cases hi
theorem adS {l:List Tree}{u x:Tree}{h:Nat}(he:l[h]?=some x)(hx:¬mA (cF x) u<0)(hr:ov l):∀e∈l.drop h,¬mA (cF e) u<0:=λe hm=>by
 obtain⟨i,hi⟩:=List.getElem?_of_mem hm;rw[List.getElem?_drop] at hi;cases i with
 |zero=>rw[Nat.add_zero,he] at hi;cases hi;exact hx
 |succ i=>exactλq=>hx (pg (hr.at (by omega) he hi) q)
def mS (l:List Tree)(u:Tree)(r:Int×Bool):Prop:=∃k:Nat,r.1=(k:Int)/\k<=l.length/\(r.2=true↔∃e,l[k]?=some e/\cF e=u)/\(ov l->(∀e∈l.take k,mA (cF e) u<0)/\∀e∈l.drop k,¬mA (cF e) u<0)
theorem mS.here {l:List Tree}{r:Int×Bool}{k:Nat}{e:Tree}(h:mS l (cF e) r)(hr:ov l)(he:l[k]?=some e):r=((k:Int),true):=by
 obtain⟨k2,h1,h2,h3,h4⟩:=h;obtain⟨h5,h6⟩:=h4 hr;obtain⟨a,b⟩:=r;have hk:k2=k:=by
  rcases Nat.lt_trichotomy k2 k with g|g|g
  ·have hlt:k<l.length:=(List.getElem?_eq_some_iff.1 he).1;have hx:l[k2]?=some l[k2]:=List.getElem?_eq_getElem (by omega);exact absurd (hr.at g hx he) (h6 _ (List.mem_of_getElem? (i:=0) (by rw[List.getElem?_drop,Nat.add_zero];exact hx)))
  ·exact g
  ·exact absurd (h5 e (List.mem_of_getElem? (i:=k) (by rw[List.getElem?_take,if_pos g];exact he))) tD
 subst hk;have h1:a=(k2:Int):=h1;have h3:b=true:=h3.2 ⟨e,he,rfl⟩;rw[h1,h3]
theorem mS.none {l:List Tree}{u:Tree}{r:Int×Bool}(h:mS l u r)(hn:∀e∈l,cF e≠u):r.2=false:=by
 obtain⟨k,_,_,h3,_⟩:=h;rw[Bool.eq_false_iff];intro g;obtain⟨e,he,hu⟩:=h3.1 g;exact hn e (List.mem_of_getElem? he) hu
theorem Rn {l:List Tree}{k:Nat}{E Y:Tree}{c:Int}(he:l[k]?=some E)(hc:c=mA (cF E) Y)(hE:∃s t,cF E=.agg [.str s,.str t])(hY:∃s t,Y=.agg [.str s,.str t]):((c==0)=true↔∃e,l[k]?=some e/\cF e=Y):=by
 obtain⟨s,t,hE⟩:=hE;obtain⟨s2,t2,rfl⟩:=hY;subst hc;constructor
 ·intro h;have h:=eq_of_beq h;rw[hE] at h;exact⟨E,he,hE.trans (Iy.1 h)⟩
 ·rintro ⟨e,h1,h2⟩;rw[he] at h1;cases h1;rw[h2,Iy.2 rfl];rfl
def yg (l:List Tree):Prop:=∀(k:Nat) a b,l[k]?=some a->l[k+1]?=some b->¬mA (cF b) (cF a)<0
def Fw (l:List Tree)(i:Nat):Prop:=∀(k:Nat) a b,i<=k->l[k]?=some a->l[k+1]?=some b->¬mA (cF b) (cF a)<0
theorem Fw.last {l:List Tree}:Fw l (l.length - 1):=λk a b hk h1 h2=>by
 have h3:=(List.getElem?_eq_some_iff.1 h2).1;omega
theorem Fw.step {l:List Tree}{i:Nat}{a b:Tree}(h:Fw l i)(ha:l[i - 1]?=some a)(hb:l[i]?=some b)(hi:0<i)(hn:¬mA (cF b) (cF a)<0):Fw l (i - 1):=λk x y hk h1 h2=>by
 by_cases e:i<=k
 ·exact h k x y e h1 h2
 ·obtain rfl:k=i - 1:=by omega
  rw[h1] at ha;rw[show i - 1+1=i by omega,hb] at h2;cases ha;cases h2;exact hn
theorem Fw.all {l:List Tree}(h:Fw l 0):yg l:=λk a b h1 h2=>h k a b (Nat.zero_le _) h1 h2
theorem yg.not {l:List Tree}{i:Nat}{a b:Tree}(ha:l[i - 1]?=some a)(hb:l[i]?=some b)(hi:0<i)(hn:mA (cF b) (cF a)<0):¬yg l:=λh=>h (i - 1) a b ha (by rw[show i - 1+1=i by omega];exact hb) hn
theorem yg.ah1 {l:List Tree}(h:yg l)(hn:(l.map cF).Nodup)(hl:∀e∈l,∃s t,cF e=.agg [.str s,.str t]):ov l:=by
 have adj:∀(k:Nat) a b,l[k]?=some a->l[k+1]?=some b->mA (cF a) (cF b)<0:=λk a b h1 h2=>by
  refine Decidable.byContradiction λg=> ?_
  have h3:=O8 g (h k a b h1 h2);obtain⟨s,t,ea⟩:=hl a (List.mem_of_getElem? h1);obtain⟨s2,t2,eb⟩:=hl b (List.mem_of_getElem? h2);have h4:cF a=cF b:=by
   rw[ea,eb] at h3 ⊢;exact Iy.1 h3
  have n1:=(List.getElem?_eq_some_iff.1 h1);have n2:=(List.getElem?_eq_some_iff.1 h2);have h5:=List.pairwise_iff_getElem.1 hn k (k+1) (by simpa using n1.1) (by simpa using n2.1) (by omega);obtain⟨m1,rfl⟩:=n1;obtain⟨m2,rfl⟩:=n2;simp only[List.getElem_map] at h5;exact h5 h4
 have far:∀(d k:Nat) a b,l[k]?=some a->l[k+1+d]?=some b->mA (cF a) (cF b)<0:=by
  intro d;induction d with
  |zero=>exactλk a b h1 h2=>adj k a b h1 h2
  |succ d ih=>
   intro k a b h1 h2
   have hlt:=(List.getElem?_eq_some_iff.1 h2).1
   have hx:l[k+1+d]?=some l[k+1+d]:=List.getElem?_eq_getElem (by omega)
   exact pg (ih k a _ h1 hx) (adj (k+1+d) _ b hx h2)
 refine List.pairwise_iff_getElem.2 λi j hi hj hij=> ?_
 exact far (j - i - 1) i _ _ (List.getElem?_eq_getElem hi) (by rw[show i+1+(j - i - 1)=j by omega];exact List.getElem?_eq_getElem hj)
theorem D4:∀{ks M:List Tree},ks.Nodup->(∀y∈ks,y∈M)->ks.length<=M.length
 | [],_,_,_=>Nat.zero_le _
 | a ::r,M,hn,h=>by
   obtain⟨s,t,rfl⟩:=List.append_of_mem (h a List.mem_cons_self)
   obtain⟨h1,h2⟩:=List.nodup_cons.1 hn
   have:=D4 (M:=s++t) h2 λy hy=>by
     have h3:=h y (List.mem_cons_of_mem _ hy)
     rcases List.mem_append.1 h3 with h3|h3
     · exact List.mem_append_left _ h3
     · rcases List.mem_cons.1 h3 with rfl|h3
       · exact absurd hy h1
       · exact List.mem_append_right _ h3
   simp only[List.length_append,List.length_cons] at this ⊢
   omega
theorem GF:∀{M:List Tree},¬M.Nodup->∃s a t,M=s++a::t/\a∈s++t
 | [],h=>absurd List.nodup_nil h
 | a ::r,h=>by
   by_cases ha:a∈r
   · exact⟨[],a,r,rfl,ha⟩
   · obtain⟨s,b,t,e,hb⟩:=GF (M:=r) λh2=>h (List.nodup_cons.2 ⟨ha,h2⟩)
     exact⟨a::s,b,t,by rw[e];rfl,List.mem_cons_of_mem _ hb⟩
theorem Na {ks M:List Tree}(hn:ks.Nodup)(h:∀y,y∈ks↔y∈M):ks.length<M.length↔¬M.Nodup:=by
 constructor
 ·intro hl hm;have:=D4 hm λy hy=>(h y).2 hy
  omega
 ·intro hm;obtain⟨s,a,t,rfl,ha⟩:=GF hm;have:=D4 (M:=s++t) hn λy hy=>by
   have h3:=(h y).1 hy;rcases List.mem_append.1 h3 with h3|h3
   ·exact List.mem_append_left _ h3
   ·rcases List.mem_cons.1 h3 with rfl|h3
    ·exact ha
    ·exact List.mem_append_right _ h3
  simp only[List.length_append,List.length_cons] at this ⊢;omega
end Go.Proofs.YtnfnihgmankidaaGreatDoor.w
namespace Go.Proofs.YtnfnihgmankidaaGreatDoor.w.e
open Go Go.Abs
set_option maxRecDepth 100000
set_option maxHeartbeats 2000000
noncomputable section
theorem UB (m:Int):∃F:Tree->Int,∀x,(T .au x)->R1 (cf m) 34 x (.int .i64 (F x))/\(True):=by
 refine Ie (P:=λx=>T .au x) (mk:=λ(r:Int)=>.int .i64 r) (Post:=λx r=>True) λx hx=> ?_
 show ∃r:{r:Int // True},aq (cf m) 34 [.t x] [] (.ret (.t (.int .i64 r.1)) [] []);have bR:=hx;obtain⟨type_1,uq,rfl,jQ,gC⟩:=T.aR bR;obtain⟨adT,ah2⟩:=Yf m;obtain⟨Nb,abv⟩:=D2 m;obtain⟨ev,aC,ah3,Iz⟩:∃ev,aF (cf m) ev/\Has ev 76 (BD (λx=>PS x) (λx=>.bool (adT x)))/\Has ev 77 (BD (λx=>PS x) (λx=>.bool (Nb x))):=⟨_,(aB (gA (λx h=>(ah2 x h))) (aB (gA (λx h=>(abv x h))) aM)),aD,(aA rfl aD)⟩;refine AX.start 18 1 Tryz.func34 rfl (by decide) rfl rfl (by decide) ?_;refine AX.frames ?_;have zh1:=iA ah3 (x:=.str type_1) ⟨_,rfl⟩;rcases bg ((!(adT (.str type_1)))) with eE|eE
 ·refine⟨⟨5, ?_⟩,kf ah [oC zh1,oB eE]⟩;trivial
 ·have zh2:=iA Iz (x:=.str uq) ⟨_,rfl⟩;rcases bg ((!(Nb (.str uq)))) with gI|gI
  ·refine⟨⟨6, ?_⟩,kf ah [oC zh1,oB eE,oC zh2,oB gI]⟩;trivial
  ·rcases bg (decide (((uq.length:Nat):Int)>64)) with gK|gK
   ·have vG:=of_decide_eq_true gK;refine⟨⟨3, ?_⟩,kf ah [oC zh1,oB eE,oC zh2,oB gI,oB gK]⟩;trivial
   ·have vG:=of_decide_eq_false gK;refine⟨⟨0, ?_⟩,kf ah [oC zh1,oB eE,oC zh2,oB gI,oB gK]⟩;trivial
theorem zz (m:Int):∃F:Tree->Int,∀x,(T .au x)->(R1 (cf m) 34 x (.int .i64 (F x))/\(True))/\((R1 (cf m) 34 x (.int .i64 0)/\(True))->F x=0):=by
 obtain⟨F,hF⟩:=UB m;classical
 refine⟨λx=>if(R1 (cf m) 34 x (.int .i64 0)/\(True)) then 0 else F x,λx hx=> ?_⟩;by_cases hz:(R1 (cf m) 34 x (.int .i64 0)/\(True))
 ·simp only[if_pos hz];exact⟨⟨hz.1,hz.2⟩,λ_=>trivial⟩
 ·simp only[if_neg hz];exact⟨hF x hx,λh=>absurd h hz⟩
def BJ (m:Int):Tree->Int:=Classical.choose (zz m)
theorem D5 (m:Int):∃F:Tree->Int,∀x,(T .au x)->R1 (cf m) 34 x (.int .i64 (F x))/\((True)/\F x=BJ m x):=⟨BJ m,λx h=>⟨(Classical.choose_spec (zz m) x h).1.1,(Classical.choose_spec (zz m) x h).1.2,rfl⟩⟩
theorem IA (m:Int){x:Tree}(h:(T .au x))(h0:(R1 (cf m) 34 x (.int .i64 0)/\(True))):BJ m x=0:=(Classical.choose_spec (zz m) x h).2 h0
def gM:Tree->List Tree
 |.sl l=>l
 |_=>[]
theorem D6 {l:List Tree}{i:Nat}{e y:Tree}(he:l[i]?=some e)(h:y∉l.take i)(hn:y≠e):y∉l.take (i+1):=by
 rw[jU he];intro hm;rcases List.mem_append.1 hm with hm|hm
 ·exact h hm
 ·exact hn (by simpa using hm)
theorem vH {a b c d:List UInt8}(h:((a==c)&&(b==d))=true):Tree.agg [.str a,.str b]=Tree.agg [.str c,.str d]:=by
 rw[Bool.and_eq_true] at h;rw[eq_of_beq h.1,eq_of_beq h.2]
theorem vI {a b c d:List UInt8}(h:((a==c)&&(b==d))=false):Tree.agg [.str a,.str b]≠Tree.agg [.str c,.str d]:=λe=>by
 simp only[Tree.agg.injEq,List.cons.injEq,Tree.str.injEq,and_true] at e;rw[e.1,e.2] at h;simp at h
theorem UC (m:Int):∃F:Tree->Bool,∀x,(T .string x)->R1 (cf m) 130 x (.bool (F x))/\((F x)=false):=by
 refine Ie (P:=λx=>T .string x) (mk:=λ(r:Bool)=>.bool r) (Post:=λx r=>r=false) λx hx=> ?_
 show ∃r:{r:Bool // r=false},aq (cf m) 130 [.t x] [] (.ret (.t (.bool r.1)) [] []);have bR:=hx;obtain⟨v_1,rfl,jQ⟩:=T.iz bR;obtain⟨ev,aC⟩:∃ev,aF (cf m) ev:=⟨_,aM⟩;refine AX.start 6 1 Tryz.func130 rfl (by decide) rfl rfl (by decide) ?_;refine AX.frames ?_;refine⟨⟨(!(v_1==v_1)), ?_⟩,kf ah []⟩;simp
theorem AN (m:Int):∃F:Tree->Tree->Int,∀x y,(T .string x/\T .string y)->R2 (cf m) 84 x y (.int .i64 (F x y))/\((F x y)=abq x y):=by
 refine wU (P:=λx y=>T .string x/\T .string y) (mk:=λ(r:Int)=>.int .i64 r) (Post:=λx y r=>r=abq x y) λx y hx=> ?_
 obtain⟨hx,hy⟩:=hx;show ∃r:{r:Int // r=abq x y},aq (cf m) 84 [.t x,.t y] [] (.ret (.t (.int .i64 r.1)) [] []);have bR:=hx;obtain⟨v_1,rfl,jQ⟩:=T.iz bR;have fF:=hy;obtain⟨v_2,rfl,lV⟩:=T.iz fF;obtain⟨Pb,UD⟩:=UC m;obtain⟨ev,aC,ZR⟩:∃ev,aF (cf m) ev/\Has ev 130 (BD (λx=>T .string x) (λx=>.bool (Pb x))):=⟨_,(aB (gA (λx h=>(UD x h).1)) aM),aD⟩;refine AX.start 20 2 Tryz.func84 rfl (by decide) rfl rfl (by decide) ?_;refine AX.frames ?_;have C6:=(UD (.str v_1) bR).2;have ZS:=(UD (.str v_2) fF).2;have zh3:=iA ZR (x:=.str v_1) bR;have zh4:=iA ZR (x:=.str v_2) fF;rcases bg ((Pb (.str v_1))) with ji|ji
 ·rcases bg ((Pb (.str v_2))) with kP|kP
  ·refine⟨⟨0, ?_⟩,kf ah [oC zh3,oC zh4,oB ji,oB kP]⟩;first|exact absurd (C6.symm.trans ji) (by decide)|exact absurd (C6.symm.trans ji) (by decide)|exact absurd (ZS.symm.trans ji) (by decide)|exact absurd (ZS.symm.trans ji) (by decide)
  ·refine⟨⟨-1, ?_⟩,kf ah [oC zh3,oC zh4,oB ji,oB kP]⟩;first|exact absurd (C6.symm.trans ji) (by decide)|exact absurd (C6.symm.trans ji) (by decide)|exact absurd (ZS.symm.trans ji) (by decide)|exact absurd (ZS.symm.trans ji) (by decide)
 ·rcases bg ((Pb (.str v_2))) with jB|jB
  ·refine⟨⟨1, ?_⟩,kf ah [oC zh3,oC zh4,oB ji,oB jB]⟩;first|exact absurd (C6.symm.trans jB) (by decide)|exact absurd (C6.symm.trans jB) (by decide)|exact absurd (ZS.symm.trans jB) (by decide)|exact absurd (ZS.symm.trans jB) (by decide)
  ·rcases bg ((bK v_1 v_2)) with k5|k5
   ·refine⟨⟨-1, ?_⟩,kf ah [oC zh3,oC zh4,oB ji,oB jB,oB k5]⟩;exact(abr k5).symm
   ·rcases bg ((!(bK v_1 v_2||v_1==v_2))) with xD|xD
    ·refine⟨⟨1, ?_⟩,kf ah [oC zh3,oC zh4,oB ji,oB jB,oB k5,oB xD]⟩;exact(abu k5 xD).symm
    ·refine⟨⟨0, ?_⟩,kf ah [oC zh3,oC zh4,oB ji,oB jB,oB k5,oB xD]⟩;exact(abt k5 xD).symm
theorem KI (m:Int):∃F:Tree->Int,∀x,(T .Lint x)->R1 (cf m) 83 x (.int .i64 (F x))/\((F x)=Yh (gM x)):=by
 refine Ie (P:=λx=>T .Lint x) (mk:=λ(r:Int)=>.int .i64 r) (Post:=λx r=>r=Yh (gM x)) λx hx=> ?_
 show ∃r:{r:Int // r=Yh (gM x)},aq (cf m) 83 [.t x] [] (.ret (.t (.int .i64 r.1)) [] []);have bR:=hx;obtain⟨v_1,rfl,jQ,gC⟩:=T.Us bR;obtain⟨ev,aC⟩:∃ev,aF (cf m) ev:=⟨_,aM⟩;refine AX.start 18 1 Tryz.func83 rfl (by decide) rfl rfl (by decide) ?_;refine AX.frames ?_;refine kl (α:=Nat) ah 0 [] 18 0 [] [] [3,6,7,8] (λx=>⟨dU 18 [(3,.t (.int .i64 0)),(6,.t (.sl v_1)),(7,.t (.int .i64 ((v_1.length:Nat):Int))),(8,.t (.int .i64 ((x:Nat):Int)))],[],0⟩) (λx=>(x<=v_1.length)/\(∀z∈v_1.take x,Rm z=0)) (λx=>v_1.length - x) 0 (lU (Tryz.f83.body.getD .skip) 3) [] ⟨Nat.zero_le _,λz hz=>by simp at hz⟩ (λx hok=> ?_);obtain⟨i_2,uH⟩:∃y,y=x:=⟨x,rfl⟩;subst uH;replace hok:(i_2<=v_1.length)/\(∀z∈v_1.take i_2,Rm z=0):=hok;obtain⟨Pc,hM⟩:=hok;rcases bg (decide (((i_2:Nat):Int)<((v_1.length:Nat):Int))) with gI|gI
 ·have D7:=of_decide_eq_true gI;obtain⟨e4,gG⟩:=fR v_1 i_2;have ja:=(gC e4 (cg gG));obtain⟨ZT,rfl⟩:=T.lS ja;rcases bg ((ZT != 0)) with kP|kP
  ·have IB:=dS kP;refine kx ah [oB gI,oE gG,oB kP] ?_;refine⟨⟨ZT, ?_⟩,kf ah []⟩;exact(O9 (y:=.int .i64 ZT) (bne_iff_ne.1 kP) gG hM).symm
  ·have IB:=bp kP;exact⟨.inl ⟨i_2+1,⟨⟨(by show(i_2+1)<=v_1.length;omega),(AL gG (bp kP) hM)⟩,(by show(v_1.length - (i_2+1))<(v_1.length - i_2);omega)⟩⟩,kr ah 18 0 [] [3,6,7,8] [oB gI,oE gG,oB kP,oI (i_2) (by omega)]⟩
 ·have D7:=of_decide_eq_false gI;refine kx ah [oB gI] ?_;refine⟨⟨0, ?_⟩,kf ah []⟩;exact(KH (nI (by omega) hM)).symm
theorem zA (m:Int):∃F:Tree->Tree->Int,∀x y,(T .au x/\T .au y)->R2 (cf m) 37 x y (.int .i64 (F x y))/\((F x y)=mA x y):=by
 refine wU (P:=λx y=>T .au x/\T .au y) (mk:=λ(r:Int)=>.int .i64 r) (Post:=λx y r=>r=mA x y) λx y hx=> ?_
 obtain⟨hx,hy⟩:=hx;show ∃r:{r:Int // r=mA x y},aq (cf m) 37 [.t x,.t y] [] (.ret (.t (.int .i64 r.1)) [] []);have bR:=hx;obtain⟨type_1,uq,rfl,jQ,gC⟩:=T.aR bR;have fF:=hy;obtain⟨bE,cu,rfl,lV,mT⟩:=T.aR fF;obtain⟨jb,pY⟩:=AN m;obtain⟨KJ,KK⟩:=KI m;obtain⟨ev,aC,vJ,UE⟩:∃ev,aF (cf m) ev/\Has ev 84 (zf (λx y=>T .string x/\T .string y) (λx y=>.int .i64 (jb x y)))/\Has ev 83 (BD (λx=>T .Lint x) (λx=>.int .i64 (KJ x))):=⟨_,(aB (fB (λx y h=>(pY x y h).1)) (aB (gA (λx h=>(KK x h).1)) aM)),aD,(aA rfl aD)⟩;refine AX.start 17 2 Tryz.func37 rfl (by decide) rfl rfl (by decide) ?_;refine AX.frames ?_;have C6:=(pY (.str type_1) (.str bE) ⟨(.string _ bJ),(.string _ bJ)⟩).2;have ZS:=(pY (.str uq) (.str cu) ⟨(.string _ bJ),(.string _ bJ)⟩).2;have hp5:=(KK (.sl [.int .i64 (jb (.str type_1) (.str bE)),.int .i64 (jb (.str uq) (.str cu))]) (.Lint _ bJ (gl (.int _) (gl (.int _) (λ_ h=>absurd h (by simp)))))).2;refine⟨⟨(KJ (.sl [.int .i64 (jb (.str type_1) (.str bE)),.int .i64 (jb (.str uq) (.str cu))])), ?_⟩,kf ah [oC (dM vJ (x:=.str type_1) (y:=.str bE) ⟨(.string _ bJ),(.string _ bJ)⟩),oC (dM vJ (x:=.str uq) (y:=.str cu) ⟨(.string _ bJ),(.string _ bJ)⟩),oC (iA UE (x:=.sl [.int .i64 (jb (.str type_1) (.str bE)),.int .i64 (jb (.str uq) (.str cu))]) (.Lint _ bJ (gl (.int _) (gl (.int _) (λ_ h=>absurd h (by simp))))))]⟩;refine hp5.trans ((ah0 _ _).trans ?_);rw[C6,ZS];rfl
theorem KL (m:Int):∃F:Tree->Bool,∀x,(T .gY x)->R1 (cf m) 244 x (.bool (F x))/\(True):=by
 refine Ie (P:=λx=>T .gY x) (mk:=λ(r:Bool)=>.bool r) (Post:=λx r=>True) λx hx=> ?_
 show ∃r:{r:Bool // True},aq (cf m) 244 [.t x] [] (.ret (.t (.bool r.1)) [] []);have bR:=hx;obtain⟨v_1,rfl⟩:=T.vF bR;obtain⟨ev,aC⟩:∃ev,aF (cf m) ev:=⟨_,aM⟩;refine AX.start 6 1 Tryz.func244 rfl (by decide) rfl rfl (by decide) ?_;refine AX.frames ?_;refine kAt (f:=0) (n:=3000) (once:=[]) (k:=6) (T:=0) (S:=[]) (ks:=[]) (live:=[0,2]) ah aC (Tryz.f244.body.getD .skip) 1 rfl (⟨dU 6 [(0,.t (.int .u8 v_1)),(2,.t (.bool false))],[],0⟩) [] (by kernel_rfl) ?_;refine AX.region ?_;refine aG.go (f:=0) aC (av rfl) ?_;refine aG.go (f:=0) aC (av rfl) ?_;refine aG.go (f:=0) aC (MB rfl rfl) ?_;refine aG.go (f:=0) aC (az rfl) ?_;refine aG.nil ?_;refine⟨⟨false, ?_⟩,kf ah []⟩;trivial
theorem KO (m:Int):∃F:Tree->Tree->Int,∀x y,(T .gY x/\T .gY y)->R2 (cf m) 212 x y (.int .i64 (F x y))/\(True):=by
 refine wU (P:=λx y=>T .gY x/\T .gY y) (mk:=λ(r:Int)=>.int .i64 r) (Post:=λx y r=>True) λx y hx=> ?_
 obtain⟨hx,hy⟩:=hx;show ∃r:{r:Int // True},aq (cf m) 212 [.t x,.t y] [] (.ret (.t (.int .i64 r.1)) [] []);have bR:=hx;obtain⟨v_1,rfl⟩:=T.vF bR;have fF:=hy;obtain⟨v_2,rfl⟩:=T.vF fF;obtain⟨zB,UF⟩:=KL m;obtain⟨ev,aC,KP⟩:∃ev,aF (cf m) ev/\Has ev 244 (BD (λx=>T .gY x) (λx=>.bool (zB x))):=⟨_,(aB (gA (λx h=>(UF x h).1)) aM),aD⟩;refine AX.start 20 2 Tryz.func212 rfl (by decide) rfl rfl (by decide) ?_;refine AX.frames ?_;have zh5:=iA KP (x:=.int .u8 v_1) bR;have zh6:=iA KP (x:=.int .u8 v_2) fF;rcases bg ((zB (.int .u8 v_1))) with gI|gI
 ·rcases bg ((zB (.int .u8 v_2))) with gK|gK
  ·refine⟨⟨0, ?_⟩,kf ah [oC zh5,oC zh6,oB gI,oB gK]⟩;trivial
  ·refine⟨⟨-1, ?_⟩,kf ah [oC zh5,oC zh6,oB gI,oB gK]⟩;trivial
 ·rcases bg ((zB (.int .u8 v_2))) with ji|ji
  ·refine⟨⟨1, ?_⟩,kf ah [oC zh5,oC zh6,oB gI,oB ji]⟩;trivial
  ·rcases bg (decide (v_1<v_2)) with kP|kP
   ·have IB:=of_decide_eq_true kP;refine⟨⟨-1, ?_⟩,kf ah [oC zh5,oC zh6,oB gI,oB ji,oB kP]⟩;trivial
   ·have IB:=of_decide_eq_false kP;rcases bg (decide (v_1>v_2)) with jB|jB
    ·have AO:=of_decide_eq_true jB;refine⟨⟨1, ?_⟩,kf ah [oC zh5,oC zh6,oB gI,oB ji,oB kP,oB jB]⟩;trivial
    ·have AO:=of_decide_eq_false jB;refine⟨⟨0, ?_⟩,kf ah [oC zh5,oC zh6,oB gI,oB ji,oB kP,oB jB]⟩;trivial
theorem KQ (m:Int):∃F:Tree->Bool,∀x,(T .int64 x)->R1 (cf m) 245 x (.bool (F x))/\(True):=by
 refine Ie (P:=λx=>T .int64 x) (mk:=λ(r:Bool)=>.bool r) (Post:=λx r=>True) λx hx=> ?_
 show ∃r:{r:Bool // True},aq (cf m) 245 [.t x] [] (.ret (.t (.bool r.1)) [] []);have bR:=hx;obtain⟨v_1,rfl⟩:=T.AG bR;obtain⟨ev,aC⟩:∃ev,aF (cf m) ev:=⟨_,aM⟩;refine AX.start 6 1 Tryz.func245 rfl (by decide) rfl rfl (by decide) ?_;refine AX.frames ?_;refine kAt (f:=0) (n:=3000) (once:=[]) (k:=6) (T:=0) (S:=[]) (ks:=[]) (live:=[0,2]) ah aC (Tryz.f245.body.getD .skip) 1 rfl (⟨dU 6 [(0,.t (.int .i64 v_1)),(2,.t (.bool false))],[],0⟩) [] (by kernel_rfl) ?_;refine AX.region ?_;refine aG.go (f:=0) aC (av rfl) ?_;refine aG.go (f:=0) aC (av rfl) ?_;refine aG.go (f:=0) aC (MB rfl rfl) ?_;refine aG.go (f:=0) aC (az rfl) ?_;refine aG.nil ?_;refine⟨⟨false, ?_⟩,kf ah []⟩;trivial
theorem KR (m:Int):∃F:Tree->Tree->Int,∀x y,(T .int64 x/\T .int64 y)->R2 (cf m) 213 x y (.int .i64 (F x y))/\(True):=by
 refine wU (P:=λx y=>T .int64 x/\T .int64 y) (mk:=λ(r:Int)=>.int .i64 r) (Post:=λx y r=>True) λx y hx=> ?_
 obtain⟨hx,hy⟩:=hx;show ∃r:{r:Int // True},aq (cf m) 213 [.t x,.t y] [] (.ret (.t (.int .i64 r.1)) [] []);have bR:=hx;obtain⟨v_1,rfl⟩:=T.AG bR;have fF:=hy;obtain⟨v_2,rfl⟩:=T.AG fF;obtain⟨zC,UG⟩:=KQ m;obtain⟨ev,aC,KS⟩:∃ev,aF (cf m) ev/\Has ev 245 (BD (λx=>T .int64 x) (λx=>.bool (zC x))):=⟨_,(aB (gA (λx h=>(UG x h).1)) aM),aD⟩;refine AX.start 20 2 Tryz.func213 rfl (by decide) rfl rfl (by decide) ?_;refine AX.frames ?_;have zh7:=iA KS (x:=.int .i64 v_1) bR;have zh8:=iA KS (x:=.int .i64 v_2) fF;rcases bg ((zC (.int .i64 v_1))) with gI|gI
 ·rcases bg ((zC (.int .i64 v_2))) with gK|gK
  ·refine⟨⟨0, ?_⟩,kf ah [oC zh7,oC zh8,oB gI,oB gK]⟩;trivial
  ·refine⟨⟨-1, ?_⟩,kf ah [oC zh7,oC zh8,oB gI,oB gK]⟩;trivial
 ·rcases bg ((zC (.int .i64 v_2))) with ji|ji
  ·refine⟨⟨1, ?_⟩,kf ah [oC zh7,oC zh8,oB gI,oB ji]⟩;trivial
  ·rcases bg (decide (v_1<v_2)) with kP|kP
   ·have IB:=of_decide_eq_true kP;refine⟨⟨-1, ?_⟩,kf ah [oC zh7,oC zh8,oB gI,oB ji,oB kP]⟩;trivial
   ·have IB:=of_decide_eq_false kP;rcases bg (decide (v_1>v_2)) with jB|jB
    ·have AO:=of_decide_eq_true jB;refine⟨⟨1, ?_⟩,kf ah [oC zh7,oC zh8,oB gI,oB ji,oB kP,oB jB]⟩;trivial
    ·have AO:=of_decide_eq_false jB;refine⟨⟨0, ?_⟩,kf ah [oC zh7,oC zh8,oB gI,oB ji,oB kP,oB jB]⟩;trivial
theorem KT (m:Int):∃F:Tree->Bool,∀x,(T .int x)->R1 (cf m) 277 x (.bool (F x))/\(True):=by
 refine Ie (P:=λx=>T .int x) (mk:=λ(r:Bool)=>.bool r) (Post:=λx r=>True) λx hx=> ?_
 show ∃r:{r:Bool // True},aq (cf m) 277 [.t x] [] (.ret (.t (.bool r.1)) [] []);have bR:=hx;obtain⟨v_1,rfl⟩:=T.lS bR;obtain⟨ev,aC⟩:∃ev,aF (cf m) ev:=⟨_,aM⟩;refine AX.start 6 1 Tryz.func277 rfl (by decide) rfl rfl (by decide) ?_;refine AX.frames ?_;refine kAt (f:=0) (n:=3000) (once:=[]) (k:=6) (T:=0) (S:=[]) (ks:=[]) (live:=[0,2]) ah aC (Tryz.f277.body.getD .skip) 1 rfl (⟨dU 6 [(0,.t (.int .i64 v_1)),(2,.t (.bool false))],[],0⟩) [] (by kernel_rfl) ?_;refine AX.region ?_;refine aG.go (f:=0) aC (av rfl) ?_;refine aG.go (f:=0) aC (av rfl) ?_;refine aG.go (f:=0) aC (MB rfl rfl) ?_;refine aG.go (f:=0) aC (az rfl) ?_;refine aG.nil ?_;refine⟨⟨false, ?_⟩,kf ah []⟩;trivial
theorem KU (m:Int):∃F:Tree->Tree->Int,∀x y,(T .int x/\T .int y)->R2 (cf m) 246 x y (.int .i64 (F x y))/\(True):=by
 refine wU (P:=λx y=>T .int x/\T .int y) (mk:=λ(r:Int)=>.int .i64 r) (Post:=λx y r=>True) λx y hx=> ?_
 obtain⟨hx,hy⟩:=hx;show ∃r:{r:Int // True},aq (cf m) 246 [.t x,.t y] [] (.ret (.t (.int .i64 r.1)) [] []);have bR:=hx;obtain⟨v_1,rfl⟩:=T.lS bR;have fF:=hy;obtain⟨v_2,rfl⟩:=T.lS fF;obtain⟨zD,UH⟩:=KT m;obtain⟨ev,aC,KV⟩:∃ev,aF (cf m) ev/\Has ev 277 (BD (λx=>T .int x) (λx=>.bool (zD x))):=⟨_,(aB (gA (λx h=>(UH x h).1)) aM),aD⟩;refine AX.start 20 2 Tryz.func246 rfl (by decide) rfl rfl (by decide) ?_;refine AX.frames ?_;have zh9:=iA KV (x:=.int .i64 v_1) bR;have Ro:=iA KV (x:=.int .i64 v_2) fF;rcases bg ((zD (.int .i64 v_1))) with gI|gI
 ·rcases bg ((zD (.int .i64 v_2))) with gK|gK
  ·refine⟨⟨0, ?_⟩,kf ah [oC zh9,oC Ro,oB gI,oB gK]⟩;trivial
  ·refine⟨⟨-1, ?_⟩,kf ah [oC zh9,oC Ro,oB gI,oB gK]⟩;trivial
 ·rcases bg ((zD (.int .i64 v_2))) with ji|ji
  ·refine⟨⟨1, ?_⟩,kf ah [oC zh9,oC Ro,oB gI,oB ji]⟩;trivial
  ·rcases bg (decide (v_1<v_2)) with kP|kP
   ·have IB:=of_decide_eq_true kP;refine⟨⟨-1, ?_⟩,kf ah [oC zh9,oC Ro,oB gI,oB ji,oB kP]⟩;trivial
   ·have IB:=of_decide_eq_false kP;rcases bg (decide (v_1>v_2)) with jB|jB
    ·have AO:=of_decide_eq_true jB;refine⟨⟨1, ?_⟩,kf ah [oC zh9,oC Ro,oB gI,oB ji,oB kP,oB jB]⟩;trivial
    ·have AO:=of_decide_eq_false jB;refine⟨⟨0, ?_⟩,kf ah [oC zh9,oC Ro,oB gI,oB ji,oB kP,oB jB]⟩;trivial
end
end Go.Proofs.YtnfnihgmankidaaGreatDoor.w.e
namespace Go.Proofs.YtnfnihgmankidaaGreatDoor.w.e
open Go Go.Abs
set_option maxRecDepth 100000
set_option maxHeartbeats 2000000
noncomputable section
open Classical in
def px (args:List TV)(aQ:List aK)(r:bB):List TV->List aK->Option bB:=λa o=>if a=args/\o=aQ then some r else none
theorem D8 {C:cE}{g:FuncId}{args:List TV}{aQ:List aK}{r:bB}(h:aq C g args aQ r):ku C g (px args aQ r):=λa o q hq=>by
 unfold px at hq;split at hq
 ·rename_i hp;obtain⟨rfl,rfl⟩:=hp;cases hq;exact h
 ·cases hq
theorem KW {g:FuncId}{ev:aT}{args:List TV}{aQ:List aK}{r:bB}(h:Has ev g (px args aQ r)):ev g args aQ=some r:=h _ _ _ (if_pos ⟨rfl,rfl⟩)
def RK3 (C:cE)(g:FuncId)(k:List TV)(MT:List aK)(x y z r:Tree):Prop:=aq C g (.t x:: .t y:: .t z::k) MT (.ret (.t r) MT [])
open Classical in
def pk3 (k:List TV)(MT:List aK)(P:Tree->Tree->Tree->Prop)(F:Tree->Tree->Tree->Tree):List TV->List aK->Option bB:=λvb os=>match vb with
 |.t x:: .t y:: .t z::r=>if r=k/\os=MT/\P x y z then some (.ret (.t (F x y z)) MT []) else none
 |_=>none
theorem abw {C:cE}{g:FuncId}{k:List TV}{MT:List aK}{P:Tree->Tree->Tree->Prop}{F:Tree->Tree->Tree->Tree}(h:∀x y z,P x y z->RK3 C g k MT x y z (F x y z)):ku C g (pk3 k MT P F):=λargs aQ r hr=>by
 unfold pk3 at hr;split at hr
 ·split at hr
  ·rename_i hp;obtain⟨rfl,rfl,hp⟩:=hp;cases hr;exact h _ _ _ hp
  ·cases hr
 ·cases hr
theorem ZU {ev:FuncId->List TV->List aK->Option bB}{g:FuncId}{k:List TV}{MT:List aK}{P:Tree->Tree->Tree->Prop}{F:Tree->Tree->Tree->Tree}(h:Has ev g (pk3 k MT P F)){x y z:Tree}(hp:P x y z):ev g (.t x:: .t y:: .t z::k) MT=some (.ret (.t (F x y z)) MT []):=h _ _ _ (if_pos ⟨rfl,rfl,hp⟩)
def AtB (l l2:List Tree)(i x y:Tree):Prop:=∃j:Nat,i=.int .i64 j/\j<4194304/\x∈l/\y∈l2
theorem adU (m:Int)(k1:Int)(b1:Bool)(n1:Int)(s1 t1:List UInt8)(N1 L1:List Tree)(k2:Int)(b2:Bool)(n2:Int)(s2 t2:List UInt8)(N2 L2:List Tree)(q:Tree->Tree->Tree->Int)(l l2:List Tree)(hl:l.length<=4194304)(hl2:∀y∈l,T .aY y)(hm:l2.length<=4194304)(hm2:∀y∈l2,T .aY y)(hq:∀x y z,AtB l l2 x y z->RK3 (cf m) 215 [.ptr (.arg 0) 0,.ptr (.arg 1) 0] [.cells 30 (fI k1 b1 n1 s1 t1 N1 L1),.cells 30 (fI k2 b2 n2 s2 t2 N2 L2)] x y z (.int .i64 (q x y z))):∃r:Int,aq (cf m) 214 (.t (.sl l):: .t (.sl l2)::[.fn (.func 215) [] [.ptr (.arg 0) 0,.ptr (.arg 1) 0]]) [.cells 30 (fI k1 b1 n1 s1 t1 N1 L1),.cells 30 (fI k2 b2 n2 s2 t2 N2 L2)] (.ret (.t (.int .i64 r)) [.cells 30 (fI k1 b1 n1 s1 t1 N1 L1),.cells 30 (fI k2 b2 n2 s2 t2 N2 L2)] []):=by
 obtain⟨KX,UI⟩:=KU m;obtain⟨ev,aC,e_q,UJ⟩:∃ev,aF (cf m) ev/\Has ev 215 (pk3 [.ptr (.arg 0) 0,.ptr (.arg 1) 0] [.cells 30 (fI k1 b1 n1 s1 t1 N1 L1),.cells 30 (fI k2 b2 n2 s2 t2 N2 L2)] (AtB l l2) λx y z=>.int .i64 (q x y z))/\Has ev 246 (zf (λx y=>T .int x/\T .int y) (λx y=>.int .i64 (KX x y))):=⟨_,(aB (abw hq) (aB (fB (λx y h=>(UI x y h).1)) aM)),aD,(aA rfl aD)⟩;refine AX.start 37 3 Tryz.func214 rfl (by decide) rfl rfl (by decide) ?_;refine AX.frames ?_;refine kl (α:=Nat) ah 0 [] 37 0 [] [.arg 0,.arg 1] [0,1,2,13,14] (λx=>⟨dU 37 [(0,.t (.sl l)),(1,.t (.sl l2)),(2,.fn (.func 215) [] [.ptr (.arg 0) 0,.ptr (.arg 1) 0]),(13,.t (.int .i64 (min ((l.length:Nat):Int) ((l2.length:Nat):Int)))),(14,.t (.int .i64 ((x:Nat):Int)))],[(.arg 0,.cells 30 (fI k1 b1 n1 s1 t1 N1 L1)),(.arg 1,.cells 30 (fI k2 b2 n2 s2 t2 N2 L2))],0⟩) (λx=>(x<=(min l.length l2.length))) (λx=>(min l.length l2.length) - x) 0 (lU (Tryz.f214.body.getD .skip) 2) [oL .i64 ((l.length:Nat):Int) ((l2.length:Nat):Int)] (by show(0<=(min l.length l2.length));first|trivial|omega|(refine⟨?_, ?_⟩<;>first|omega|exact SM.nil)|simp) (λx hok=> ?_);obtain⟨i_1,uH⟩:∃y,y=x:=⟨x,rfl⟩;subst uH;replace hok:(i_1<=(min l.length l2.length)):=hok;have dh:=hok;rcases bg (decide (((i_1:Nat):Int)<(min ((l.length:Nat):Int) ((l2.length:Nat):Int)))) with eE|eE
 ·have qY:=of_decide_eq_true eE;obtain⟨e3,kQ⟩:=fR l i_1;have qZ:=(hl2 e3 (cg kQ));obtain⟨vK,KY,ZV,ZW,KZ,qG,vL,rfl,vM,vN,IC,D9,ID,IE⟩:=T.dL qZ;obtain⟨e5,rW⟩:=fR l2 i_1;have vO:=(hm2 e5 (cg rW));obtain⟨IF,Yi,n_6,s_6,Yj,Cy,IG,rfl,Ea,Eb,Nc,Nd,Nf,Ng⟩:=T.dL vO;rcases bg (((q (.int .i64 ((i_1:Nat):Int)) (bW vK KY ZV ZW KZ qG vL) (bW IF Yi n_6 s_6 Yj Cy IG)) != 0)) with jB|jB
  ·have AO:=dS jB;refine kx ah [oB eE,oE kQ,oE rW,oC (ZU e_q (x:=.int .i64 ((i_1:Nat):Int)) (y:=(bW vK KY ZV ZW KZ qG vL)) (z:=(bW IF Yi n_6 s_6 Yj Cy IG)) ⟨_,rfl,by omega,cg kQ,cg rW⟩),oB jB] ?_;exact⟨(q (.int .i64 ((i_1:Nat):Int)) (bW vK KY ZV ZW KZ qG vL) (bW IF Yi n_6 s_6 Yj Cy IG)),kf ah []⟩
  ·have AO:=bp jB;exact⟨.inl ⟨i_1+1,⟨(by show(i_1+1)<=(min l.length l2.length);omega),(by show((min l.length l2.length) - (i_1+1))<((min l.length l2.length) - i_1);omega)⟩⟩,Cv ah 0 [] 37 0 [] [.arg 0,.arg 1] [0,1,2,13,14] [oB eE,oE kQ,oE rW,oC (ZU e_q (x:=.int .i64 ((i_1:Nat):Int)) (y:=(bW vK KY ZV ZW KZ qG vL)) (z:=(bW IF Yi n_6 s_6 Yj Cy IG)) ⟨_,rfl,by omega,cg kQ,cg rW⟩),oB jB,oI (i_1) (by omega)]⟩
 ·have qY:=of_decide_eq_false eE;refine kx ah [oB eE] ?_;exact⟨(KX (.int .i64 ((l.length:Nat):Int)) (.int .i64 ((l2.length:Nat):Int))),kf ah [oC (dM UJ (x:=.int .i64 ((l.length:Nat):Int)) (y:=.int .i64 ((l2.length:Nat):Int)) ⟨(.int _),(.int _)⟩)]⟩
end
end Go.Proofs.YtnfnihgmankidaaGreatDoor.w.e
namespace Go.Proofs.YtnfnihgmankidaaGreatDoor.w.e
open Go Go.Abs
set_option maxRecDepth 100000
set_option maxHeartbeats 2000000
noncomputable section
theorem Yk (m:Int)(k1:Int)(b1:Bool)(n1:Int)(s1 t1:List UInt8)(N1 L1:List Tree)(k2:Int)(b2:Bool)(n2:Int)(s2 t2:List UInt8)(N2 L2:List Tree)(hN1:N1.length<=4194304)(abx:∀y∈N1,T .string y)(hN2:N2.length<=4194304)(aby:∀y∈N2,T .string y)(j:Nat)(hj:j<4194304)(x y:Tree)(hx:T .aY x)(hy:T .aY y)(fC:Tree->Tree->Int)(hC:R2 (cf m) 169 x y (.int .i64 (fC x y))):∃r:Int,aq (cf m) 215 (.t (.int .i64 (j:Int)):: .t x:: .t y::[.ptr (.arg 0) 0,.ptr (.arg 1) 0]) [.cells 30 (fI k1 b1 n1 s1 t1 N1 L1),.cells 30 (fI k2 b2 n2 s2 t2 N2 L2)] (.ret (.t (.int .i64 r)) [.cells 30 (fI k1 b1 n1 s1 t1 N1 L1),.cells 30 (fI k2 b2 n2 s2 t2 N2 L2)] []):=by
 have bR:=hx;obtain⟨fV,vP,n_1,s_1,rX,jc,jR,rfl,jQ,gC,Ec,lW,Ed,yh⟩:=T.dL bR;have fF:=hy;obtain⟨mU,Ee,n_2,s_2,yj,nj,nW,rfl,lV,mT,UK,Nh,UL,II⟩:=T.dL fF;obtain⟨jb,pY⟩:=AN m;obtain⟨ev,aC,vJ,e_self⟩:∃ev,aF (cf m) ev/\Has ev 84 (zf (λx y=>T .string x/\T .string y) (λx y=>.int .i64 (jb x y)))/\Has ev 169 (zf (λa b=>a=(bW fV vP n_1 s_1 rX jc jR)/\b=(bW mU Ee n_2 s_2 yj nj nW)) λa b=>.int .i64 (fC a b)):=⟨_,(aB (fB (λx y h=>(pY x y h).1)) (aB (fB λa b h=>by obtain⟨rfl,rfl⟩:=h;exact hC) aM)),aD,(aA rfl aD)⟩;refine AX.start 45 5 Tryz.func215 rfl (by decide) rfl rfl (by decide) ?_;refine AX.frames ?_;rcases bg (decide (((j:Nat):Int)<(min ((N1.length:Nat):Int) ((N2.length:Nat):Int)))) with hg3|hg3
 ·have abz:=of_decide_eq_true hg3;obtain⟨e4,gG⟩:=fR N1 j;have ja:=(abx e4 (cg gG));obtain⟨ZT,rfl,Ni⟩:=T.iz ja;obtain⟨e6,he6⟩:=fR N2 j;have IJ:=(aby e6 (cg he6));obtain⟨v_7,rfl,ah4⟩:=T.iz IJ;rcases bg ((!(ZT==v_7))) with k5|k5
  ·have AP:=ne_of_beq_false (zc k5);have hp9:=(pY (.str ZT) (.str v_7) ⟨ja,IJ⟩).2;exact⟨(jb (.str ZT) (.str v_7)),kf ah ([oL .i64 ((N1.length:Nat):Int) ((N2.length:Nat):Int)]++rq 4 (oB hg3) ([oE gG]++rq 5 (oB hg3) ([oE he6,oB hg3,oB hg3,oB hg3,oB k5,oE gG,oE he6,oC (dM vJ (x:=.str ZT) (y:=.str v_7) ⟨ja,IJ⟩)])))⟩
  ·have AP:=eq_of_beq (vz k5);exact⟨(fC (bW fV vP n_1 s_1 rX jc jR) (bW mU Ee n_2 s_2 yj nj nW)),kf ah ([oL .i64 ((N1.length:Nat):Int) ((N2.length:Nat):Int)]++rq 4 (oB hg3) ([oE gG]++rq 5 (oB hg3) ([oE he6,oB hg3,oB hg3,oB hg3,oB k5,oC (dM e_self (x:=(bW fV vP n_1 s_1 rX jc jR)) (y:=(bW mU Ee n_2 s_2 yj nj nW)) ⟨rfl,rfl⟩)])))⟩
 ·have abz:=of_decide_eq_false hg3;exact⟨(fC (bW fV vP n_1 s_1 rX jc jR) (bW mU Ee n_2 s_2 yj nj nW)),kf ah ([oL .i64 ((N1.length:Nat):Int) ((N2.length:Nat):Int)]++rq 12 (oB hg3) ([oF,oC (dM e_self (x:=(bW fV vP n_1 s_1 rX jc jR)) (y:=(bW mU Ee n_2 s_2 yj nj nW)) ⟨rfl,rfl⟩)]))⟩
theorem Yl (m:Int)(k1:Int)(b1:Bool)(n1:Int)(s1 t1:List UInt8)(N1 L1:List Tree)(k2:Int)(b2:Bool)(n2:Int)(s2 t2:List UInt8)(N2 L2:List Tree)(hN1:N1.length<=4194304)(abx:∀y∈N1,T .string y)(hN2:N2.length<=4194304)(aby:∀y∈N2,T .string y)(hL1:L1.length<=4194304)(ah5:∀y∈L1,T .aY y)(hL2:L2.length<=4194304)(ah6:∀y∈L2,T .aY y)(h:∀a∈L1,∀b∈L2,∃r:Int,R2 (cf m) 169 a b (.int .i64 r)):∃q:Tree->Tree->Tree->Int,∀x y z,AtB L1 L2 x y z->RK3 (cf m) 215 [.ptr (.arg 0) 0,.ptr (.arg 1) 0] [.cells 30 (fI k1 b1 n1 s1 t1 N1 L1),.cells 30 (fI k2 b2 n2 s2 t2 N2 L2)] x y z (.int .i64 (q x y z)):=by
 obtain⟨fC,hC⟩:=cD (α:=Tree×Tree) (P:=λp=>p.1∈L1/\p.2∈L2) (Q:=λp (r:Int)=>R2 (cf m) 169 p.1 p.2 (.int .i64 r)) λp hp=>h p.1 hp.1 p.2 hp.2
 obtain⟨q,hq⟩:=cD (α:=Tree×Tree×Tree) (P:=λp=>AtB L1 L2 p.1 p.2.1 p.2.2) (Q:=λp (r:Int)=>RK3 (cf m) 215 [.ptr (.arg 0) 0,.ptr (.arg 1) 0] [.cells 30 (fI k1 b1 n1 s1 t1 N1 L1),.cells 30 (fI k2 b2 n2 s2 t2 N2 L2)] p.1 p.2.1 p.2.2 (.int .i64 r)) λp hp=>by
  obtain⟨x,y,z⟩:=p;obtain⟨j,rfl,hj,h1,h2⟩:=hp;exact Yk m k1 b1 n1 s1 t1 N1 L1 k2 b2 n2 s2 t2 N2 L2 hN1 abx hN2 aby j hj y z (ah5 _ h1) (ah6 _ h2) (λa b=>fC (a,b)) (hC (y,z) ⟨h1,h2⟩)
 exact⟨λx y z=>q (x,y,z),λx y z h=>hq (x,y,z) h⟩
def lsV:Tree->List Tree
 |.agg [_,_,_,_,_,_,.sl l]=>l
 |_=>[]
theorem abA (m:Int)(x y:Tree)(hx:T .aY x)(hy:T .aY y)(Qz:∀a∈lsV x,∀b∈lsV y,∃r:Int,R2 (cf m) 169 a b (.int .i64 r)):∃r:Int,aq (cf m) 169 [.t x,.t y] [] (.ret (.t (.int .i64 r)) [] []):=by
 have bR:=hx;obtain⟨fV,vP,n_1,s_1,rX,jc,jR,rfl,jQ,gC,Ec,lW,Ed,yh⟩:=T.dL bR;have fF:=hy;obtain⟨mU,Ee,n_2,s_2,yj,nj,nW,rfl,lV,mT,UK,Nh,UL,II⟩:=T.dL fF;obtain⟨K0,UM⟩:=KO m;obtain⟨K1,UN⟩:=KR m;obtain⟨jb,pY⟩:=AN m;obtain⟨KJ,KK⟩:=KI m;obtain⟨qa,hqa⟩:=Yl m fV vP n_1 s_1 rX jc jR mU Ee n_2 s_2 yj nj nW bJ lW bJ Nh bJ yh bJ II Qz;obtain⟨ra,hra⟩:=adU m fV vP n_1 s_1 rX jc jR mU Ee n_2 s_2 yj nj nW qa jR nW bJ yh bJ II hqa;obtain⟨ev,aC,UO,UP,vJ,UE,adV⟩:∃ev,aF (cf m) ev/\Has ev 212 (zf (λx y=>T .gY x/\T .gY y) (λx y=>.int .i64 (K0 x y)))/\Has ev 213 (zf (λx y=>T .int64 x/\T .int64 y) (λx y=>.int .i64 (K1 x y)))/\Has ev 84 (zf (λx y=>T .string x/\T .string y) (λx y=>.int .i64 (jb x y)))/\Has ev 83 (BD (λx=>T .Lint x) (λx=>.int .i64 (KJ x)))/\Has ev 214 (px (.t (.sl jR):: .t (.sl nW)::[.fn (.func 215) [] [.ptr (.arg 0) 0,.ptr (.arg 1) 0]]) [.cells 30 (fI fV vP n_1 s_1 rX jc jR),.cells 30 (fI mU Ee n_2 s_2 yj nj nW)] (.ret (.t (.int .i64 ra)) [.cells 30 (fI fV vP n_1 s_1 rX jc jR),.cells 30 (fI mU Ee n_2 s_2 yj nj nW)] [])):=⟨_,(aB (fB (λx y h=>(UM x y h).1)) (aB (fB (λx y h=>(UN x y h).1)) (aB (fB (λx y h=>(pY x y h).1)) (aB (gA (λx h=>(KK x h).1)) (aB (D8 hra) aM))))),aD,(aA rfl aD),(aA rfl (aA rfl aD)),(aA rfl (aA rfl (aA rfl aD))),(aA rfl (aA rfl (aA rfl (aA rfl aD))))⟩;refine AX.start 67 2 Tryz.func169 rfl (by decide) rfl rfl (by decide) ?_;refine AX.frames ?_;rcases bg ((fV != mU)) with gI|gI
 ·have D7:=dS gI;exact⟨(K0 (.int .u8 fV) (.int .u8 mU)),kf ah [oB gI,oC (dM UO (x:=.int .u8 fV) (y:=.int .u8 mU) ⟨(.gY _),(.gY _)⟩)]⟩
 ·have D7:=bp gI;rcases bg ((fV==0)) with gK|gK
  ·have vG:=eq_of_beq gK;rcases bg ((vP==Ee)) with ji|ji
   ·have IK:=eq_of_beq ji;exact⟨0,kf ah [oB gI,oB gK,oB ji]⟩
   ·have IK:=ne_of_beq_false ji;rcases bg (vP) with kP|kP
    ·exact⟨1,kf ah [oB gI,oB gK,oB ji,oB kP]⟩
    ·exact⟨-1,kf ah [oB gI,oB gK,oB ji,oB kP]⟩
  ·have vG:=ne_of_beq_false gK;rcases bg ((fV==1)) with jB|jB
   ·have AO:=eq_of_beq jB;exact⟨(K1 (.int .i64 n_1) (.int .i64 n_2)),kf ah [oB gI,oB gK,oB jB,oC (dM UP (x:=.int .i64 n_1) (y:=.int .i64 n_2) ⟨(.int64 _),(.int64 _)⟩)]⟩
   ·have AO:=ne_of_beq_false jB;rcases bg ((fV==2)) with k5|k5
    ·have AP:=eq_of_beq k5;have hp9:=(pY (.str s_1) (.str s_2) ⟨(.string _ bJ),(.string _ bJ)⟩).2;exact⟨(jb (.str s_1) (.str s_2)),kf ah [oB gI,oB gK,oB jB,oB k5,oB k5,oB k5,oC (dM vJ (x:=.str s_1) (y:=.str s_2) ⟨(.string _ bJ),(.string _ bJ)⟩)]⟩
    ·have AP:=ne_of_beq_false k5;rcases bg ((fV==3)) with qo|qo
     ·have K2:=eq_of_beq qo;have aka:=(pY (.str rX) (.str yj) ⟨(.string _ bJ),(.string _ bJ)⟩).2;have adW:=(pY (.str s_1) (.str s_2) ⟨(.string _ bJ),(.string _ bJ)⟩).2;have akb:=(KK (.sl [.int .i64 (jb (.str rX) (.str yj)),.int .i64 (jb (.str s_1) (.str s_2))]) (.Lint _ bJ (gl (.int _) (gl (.int _) (λ_ h=>absurd h (by simp)))))).2;exact⟨(KJ (.sl [.int .i64 (jb (.str rX) (.str yj)),.int .i64 (jb (.str s_1) (.str s_2))])),kf ah [oB gI,oB gK,oB jB,oB k5,oB qo,oB k5,oC (dM vJ (x:=.str rX) (y:=.str yj) ⟨(.string _ bJ),(.string _ bJ)⟩),oC (dM vJ (x:=.str s_1) (y:=.str s_2) ⟨(.string _ bJ),(.string _ bJ)⟩),oC (iA UE (x:=.sl [.int .i64 (jb (.str rX) (.str yj)),.int .i64 (jb (.str s_1) (.str s_2))]) (.Lint _ bJ (gl (.int _) (gl (.int _) (λ_ h=>absurd h (by simp))))))]⟩
     ·have K2:=ne_of_beq_false qo;rcases bg ((fV==4)) with Nj|Nj
      ·have adX:=eq_of_beq Nj;exact⟨ra,kf ah [oB gI,oB gK,oB jB,oB k5,oB qo,oB Nj,oB Nj,oC (KW adV)]⟩
      ·have adX:=ne_of_beq_false Nj;rcases bg ((fV==5)) with pZ|pZ
       ·have K3:=eq_of_beq pZ;exact⟨ra,kf ah [oB gI,oB gK,oB jB,oB k5,oB qo,oB Nj,oB pZ,oC (KW adV)]⟩
       ·have K3:=ne_of_beq_false pZ;exact⟨0,kf ah [oB gI,oB gK,oB jB,oB k5,oB qo,oB Nj,oB pZ]⟩
theorem UQ (m:Int):∃F:Tree->Tree->Int,∀x y,T .aY x/\T .aY y->R2 (cf m) 169 x y (.int .i64 (F x y)):=by
 have key:∀(k:K) (x:Tree),T k x->k=.aY->∀y,T .aY y->∃r:Int,R2 (cf m) 169 x y (.int .i64 r):=by
  intro k x h;induction h with
  |aY k1 b1 n1 s1 t1 N1 L1 hs ht h0 h1 h2 h3 _ ih=>exactλ_ y hy=>abA m _ y (.aY k1 b1 n1 s1 t1 N1 L1 hs ht h0 h1 h2 h3) hy λa ha b hb=>ih a ha rfl b (by obtain⟨k2,b2,n2,s2,t2,N2,L2,rfl,_,_,_,_,_,g3⟩:=T.dL hy;exact g3 b hb)
  |_=>exactλe=>(by cases e)
 exact DX (Tree.int .i64) λb x h=>key _ b h.1 rfl x h.2

theorem UR (m:Int)(k1:Int)(b1:Bool)(n1:Int)(s1 t1:List UInt8)(hs1:s1.length<=4194304)(ht1:t1.length<=4194304)(ns ks:List Tree)(ln:ns.length<=4194304)(Xp:∀y∈ns,T .string y)(lk:ks.length<=4194304)(hks:∀y∈ks,T .aY y)(fS:Tree->Int×Int×Bool)(hS:∀y∈ks,aq (cf m) 110 [.t y] [] (.ret (.t (.cT [.int .i64 (fS y).1,.int .i64 (fS y).2.1,.bool (fS y).2.2])) [] [])):∃r:Int×Int×Bool,aq (cf m) 110 [.t (bW k1 b1 n1 s1 t1 ns ks)] [] (.ret (.t (.cT [.int .i64 r.1,.int .i64 r.2.1,.bool r.2.2])) [] []):=by
 obtain⟨Nb,abv⟩:=D2 m;obtain⟨Fx,K4⟩:=D5 m;obtain⟨adY,ah7⟩:=UQ m;obtain⟨ev,aC,Iz,Nk,e_self,ah8⟩:∃ev,aF (cf m) ev/\Has ev 77 (BD (λx=>PS x) (λx=>.bool (Nb x)))/\Has ev 34 (BD (λx=>T .au x) (λx=>.int .i64 (Fx x)))/\Has ev 110 (BD (λy=>y∈ks) λy=>.cT [.int .i64 (fS y).1,.int .i64 (fS y).2.1,.bool (fS y).2.2])/\Has ev 169 (zf (λx y=>T .aY x/\T .aY y) (λx y=>.int .i64 (adY x y))):=⟨_,(aB (gA (λx h=>(abv x h))) (aB (gA (λx h=>(K4 x h).1)) (aB (gA hS) (aB (fB (λx y h=>(ah7 x y h))) aM)))),aD,(aA rfl aD),(aA rfl (aA rfl aD)),(aA rfl (aA rfl (aA rfl aD)))⟩;refine AX.start 220 1 Tryz.func110 rfl (by decide) rfl rfl (by decide) ?_;refine AX.frames ?_;refine O4 (f:=0) ah aC (α:=Bool×Bool×Int×List UInt8×List UInt8) (λx=>⟨dU 220 [(1,.ptr (.loc [0]) 0),(2,.t (.int .i64 0)),(3,.t (.int .i64 0)),(4,.t (.bool x.1)),(5,.ptr (.loc [1]) 0)],[(.loc [0],.cells 30 (fI k1 b1 n1 s1 t1 ns ks)),(.loc [1],.cells 30 [.t (.int .u8 k1),.t (.bool x.2.1),.t (.int .i64 x.2.2.1),.t (.str x.2.2.2.1),.t (.str x.2.2.2.2),.bX,.bX])],2⟩) (λx=>(x.1=true->k1=5->ns.length=ks.length)) 2 (n:=3000) (once:=[]) (k:=220) (T:=2) (S:=[.loc [0],.loc [7]]) (ks:=[.loc [0],.loc [7]]) (live:=[1,2,3,4,5]) (Yb (Tryz.f110.body.getD .skip) 15) (⟨dU 220 [(1,.ptr (.loc [0]) 0),(2,.t (.int .i64 0)),(3,.t (.int .i64 0)),(4,.t (.bool false)),(5,.ptr (.loc [1]) 0)],[(.loc [0],.cells 30 (fI k1 b1 n1 s1 t1 ns ks)),(.loc [1],.cells 30 [.t (.int .u8 k1),.t (.bool false),.t (.int .i64 0),.t (.str []),.t (.str []),.bX,.bX])],2⟩) [] (by kernel_rfl) ?_ ?_
 ·rcases bg ((k1==0)) with eE|eE
  ·have qY:=eq_of_beq eE;exact⟨.inl ⟨⟨true,b1,0,[],[]⟩,(by intro h1 h2;first|omega|(have:=eq_of_beq h1;omega))⟩,kr ah 220 2 [.loc [0],.loc [1]] [1,2,3,4,5] [oB eE]⟩
  ·have qY:=ne_of_beq_false eE;rcases bg ((k1==1)) with gI|gI
   ·have D7:=eq_of_beq gI;exact⟨.inl ⟨⟨true,false,n1,[],[]⟩,(by intro h1 h2;first|omega|(have:=eq_of_beq h1;omega))⟩,kr ah 220 2 [.loc [0],.loc [1]] [1,2,3,4,5] [oB eE,oB gI]⟩
   ·have D7:=ne_of_beq_false gI;rcases bg ((k1==2)) with gK|gK
    ·have vG:=eq_of_beq gK;rcases bg (decide (((s1.length:Nat):Int)<=256)) with L4|L4
     ·have ah9:=of_decide_eq_true L4;exact⟨.inl ⟨⟨(Nb (.str s1)),false,0,s1,[]⟩,(by intro h1 h2;first|omega|(have:=eq_of_beq h1;omega))⟩,kr ah 220 2 [.loc [0],.loc [1]] [1,2,3,4,5] [oB eE,oB gI,oB gK,oB L4,oB L4,oB L4,oC (iA Iz (x:=.str s1) ⟨_,rfl⟩),oB L4]⟩
     ·have ah9:=of_decide_eq_false L4;exact⟨.inl ⟨⟨false,false,0,s1,[]⟩,(by intro h1 h2;first|omega|(have:=eq_of_beq h1;omega))⟩,kr ah 220 2 [.loc [0],.loc [1]] [1,2,3,4,5] ([oB eE,oB gI,oB gK]++rq 4 (oB L4) ([]))⟩
    ·have vG:=ne_of_beq_false gK;rcases bg ((k1==3)) with kP|kP
     ·have IB:=eq_of_beq kP;have Ym:=(K4 (.agg [.str t1,.str s1]) (.au _ _ bJ bJ)).2;exact⟨.inl ⟨⟨((Fx (.agg [.str t1,.str s1]))==0),false,0,s1,t1⟩,(by intro h1 h2;first|omega|(have:=eq_of_beq h1;omega))⟩,kr ah 220 2 [.loc [0],.loc [1]] [1,2,3,4,5] [oB eE,oB gI,oB gK,oB kP,oC (iA Nk (x:=.agg [.str t1,.str s1]) (.au _ _ bJ bJ))]⟩
     ·have IB:=ne_of_beq_false kP;rcases bg ((k1==4)) with k5|k5
      ·have AP:=eq_of_beq k5;exact⟨.inl ⟨⟨(((ns.length:Nat):Int)==0),false,0,[],[]⟩,(by intro h1 h2;first|omega|(have:=eq_of_beq h1;omega))⟩,kr ah 220 2 [.loc [0],.loc [1]] [1,2,3,4,5] [oB eE,oB gI,oB gK,oB kP,oB k5]⟩
      ·have AP:=ne_of_beq_false k5;rcases bg ((k1==5)) with xD|xD
       ·have abB:=eq_of_beq xD;exact⟨.inl ⟨⟨(((ns.length:Nat):Int)==((ks.length:Nat):Int)),false,0,[],[]⟩,(by intro h1 h2;first|omega|(have:=eq_of_beq h1;omega))⟩,kr ah 220 2 [.loc [0],.loc [1]] [1,2,3,4,5] [oB eE,oB gI,oB gK,oB kP,oB k5,oB xD]⟩
       ·have abB:=ne_of_beq_false xD;exact⟨.inl ⟨⟨false,false,0,[],[]⟩,(by intro h1 h2;first|omega|(have:=eq_of_beq h1;omega))⟩,kr ah 220 2 [.loc [0],.loc [1]] [1,2,3,4,5] [oB eE,oB gI,oB gK,oB kP,oB k5,oB xD]⟩
 ·rintro ⟨US,zF,zG,zH,zI⟩ hok;replace hok:(US=true->k1=5->ns.length=ks.length):=hok;have dh:=hok;refine O4 (f:=0) ah aC (α:=Bool) (λx=>⟨dU 220 [(1,.ptr (.loc [0]) 0),(2,.t (.int .i64 0)),(3,.t (.int .i64 0)),(4,.t (.bool US)),(5,.ptr (.loc [1]) 0),(6,.t (.bool x))],[(.loc [0],.cells 30 (fI k1 b1 n1 s1 t1 ns ks)),(.loc [1],.cells 30 [.t (.int .u8 k1),.t (.bool zF),.t (.int .i64 zG),.t (.str zH),.t (.str zI),.bX,.bX])],2⟩) (λx=>True) 15 (n:=3000) (once:=[]) (k:=220) (T:=2) (S:=[.loc [0],.loc [1]]) (ks:=[.loc [0],.loc [1]]) (live:=[1,2,3,4,5]) (Yb (Tryz.f110.body.getD .skip) 16) (⟨dU 220 [(1,.ptr (.loc [0]) 0),(2,.t (.int .i64 0)),(3,.t (.int .i64 0)),(4,.t (.bool US)),(5,.ptr (.loc [1]) 0)],[(.loc [0],.cells 30 (fI k1 b1 n1 s1 t1 ns ks)),(.loc [1],.cells 30 [.t (.int .u8 k1),.t (.bool zF),.t (.int .i64 zG),.t (.str zH),.t (.str zI),.bX,.bX])],2⟩) [] (by kernel_rfl) ?_ ?_
  ·rcases bg ((k1==4)) with AI|AI
   ·have adZ:=eq_of_beq AI;exact⟨.inl ⟨true,trivial⟩,kr ah 220 2 [.loc [0],.loc [1]] [1,2,3,4,5,6] (rq 4 (oB AI) ([]))⟩
   ·have adZ:=ne_of_beq_false AI;exact⟨.inl ⟨(k1==5),trivial⟩,kr ah 220 2 [.loc [0],.loc [1]] [1,2,3,4,5,6] (rq 4 (oB AI) ([]))⟩
  ·intro ZX hok;refine O4 (f:=0) ah aC (α:=Bool) (λx=>⟨dU 220 [(1,.ptr (.loc [0]) 0),(2,.t (.int .i64 0)),(3,.t (.int .i64 0)),(4,.t (.bool x))],[(.loc [0],.cells 30 (fI k1 b1 n1 s1 t1 ns ks))],1⟩) (λx=>(x=true->k1=5->ns.length=ks.length)) 16 (n:=3000) (once:=[]) (k:=220) (T:=2) (S:=[.loc [0],.loc [1]]) (ks:=[.loc [0],.loc [1]]) (live:=[1,2,3,4,5,6]) (Yb (Tryz.f110.body.getD .skip) 17) (⟨dU 220 [(1,.ptr (.loc [0]) 0),(2,.t (.int .i64 0)),(3,.t (.int .i64 0)),(4,.t (.bool US)),(5,.ptr (.loc [1]) 0),(6,.t (.bool ZX))],[(.loc [0],.cells 30 (fI k1 b1 n1 s1 t1 ns ks)),(.loc [1],.cells 30 [.t (.int .u8 k1),.t (.bool zF),.t (.int .i64 zG),.t (.str zH),.t (.str zI),.bX,.bX])],2⟩) [] (by kernel_rfl) ?_ ?_
   ·rcases bg (US) with IL|IL
    ·rcases bg ((b1==zF)) with Fy|Fy
     ·have ad0:=eq_of_beq Fy;rcases bg ((n1==zG)) with IM|IM
      ·have ad1:=eq_of_beq IM;rcases bg ((s1==zH)) with K5|K5
       ·have ad2:=eq_of_beq K5;rcases bg ((t1==zI)) with jA|jA
        ·have ad3:=eq_of_beq jA;rcases bg (ZX) with IP|IP
         ·exact⟨.inl ⟨decide (((ks.length:Nat):Int)<=16),(by intro h1 h2;first|exact dh (by assumption) h2|exact absurd h1 (by decide))⟩,kr ah 220 1 [.loc [0]] [1,2,3,4] (rq 6 (oB IL) (rq 6 (oB Fy) (rq 6 (oB IM) (rq 6 (oB K5) ([oB jA,oB jA]++rq 8 (oB IP) ([oB jA,oB IP,oB jA]++rq 5 oT ([])))))))⟩
         ·rcases bg ((((ks.length+ns.length:Nat):Int)==0)) with uG|uG
          ·have ad4:=eq_of_beq uG;exact⟨.inl ⟨decide (((ks.length:Nat):Int)<=16),(by intro h1 h2;first|exact dh (by assumption) h2|exact absurd h1 (by decide))⟩,kr ah 220 1 [.loc [0]] [1,2,3,4] (rq 6 (oB IL) (rq 6 (oB Fy) (rq 6 (oB IM) (rq 6 (oB K5) ([oB jA,oB jA]++rq 7 (oB IP) ([LZ ks.length ns.length (by first|omega|(simp;omega)),oB IP,oB jA,oB IP,oB jA]++rq 5 (oB uG) ([])))))))⟩
          ·have ad4:=ne_of_beq_false uG;exact⟨.inl ⟨false,(by intro h1 h2;first|exact dh (by assumption) h2|exact absurd h1 (by decide))⟩,kr ah 220 1 [.loc [0]] [1,2,3,4] (rq 6 (oB IL) (rq 6 (oB Fy) (rq 6 (oB IM) (rq 6 (oB K5) ([oB jA,oB jA]++rq 7 (oB IP) ([LZ ks.length ns.length (by first|omega|(simp;omega)),oB IP,oB jA,oB IP,oB jA]++rq 5 (oB uG) ([])))))))⟩
        ·have ad3:=ne_of_beq_false jA;exact⟨.inl ⟨false,(by intro h1 h2;first|exact dh (by assumption) h2|exact absurd h1 (by decide))⟩,kr ah 220 1 [.loc [0]] [1,2,3,4] (rq 6 (oB IL) (rq 6 (oB Fy) (rq 6 (oB IM) (rq 6 (oB K5) (rq 4 (oB jA) (rq 5 oF ([])))))))⟩
       ·have ad2:=ne_of_beq_false K5;exact⟨.inl ⟨false,(by intro h1 h2;first|exact dh (by assumption) h2|exact absurd h1 (by decide))⟩,kr ah 220 1 [.loc [0]] [1,2,3,4] (rq 6 (oB IL) (rq 6 (oB Fy) (rq 6 (oB IM) (rq 6 (oB K5) (rq 9 oF ([]))))))⟩
      ·have ad1:=ne_of_beq_false IM;exact⟨.inl ⟨false,(by intro h1 h2;first|exact dh (by assumption) h2|exact absurd h1 (by decide))⟩,kr ah 220 1 [.loc [0]] [1,2,3,4] (rq 6 (oB IL) (rq 6 (oB Fy) (rq 6 (oB IM) (rq 15 oF ([])))))⟩
     ·have ad0:=ne_of_beq_false Fy;exact⟨.inl ⟨false,(by intro h1 h2;first|exact dh (by assumption) h2|exact absurd h1 (by decide))⟩,kr ah 220 1 [.loc [0]] [1,2,3,4] (rq 6 (oB IL) (rq 6 (oB Fy) (rq 21 oF ([]))))⟩
    ·exact⟨.inl ⟨false,(by intro h1 h2;first|exact dh (by assumption) h2|exact absurd h1 (by decide))⟩,kr ah 220 1 [.loc [0]] [1,2,3,4] (rq 6 (oB IL) (rq 27 oF ([])))⟩
   ·intro ZY hok;replace hok:(ZY=true->k1=5->ns.length=ks.length):=hok;have Ef:=hok;refine kl (α:=Nat×Int×Int×Bool) ah 0 [] 220 1 [.loc [0]] [.loc [0]] [1,2,3,4,7] (λx=>⟨dU 220 [(1,.ptr (.loc [0]) 0),(2,.t (.int .i64 x.2.1)),(3,.t (.int .i64 x.2.2.1)),(4,.t (.bool x.2.2.2)),(7,.t (.int .i64 ((x.1:Nat):Int)))],[(.loc [0],.cells 30 (fI k1 b1 n1 s1 t1 ns ks))],1⟩) (λx=>(x.1<=ks.length)/\(k1=5->(x.2.2.2=true\/0<x.1)->ns.length=ks.length)) (λx=>ks.length - x.1) (⟨0,0,0,ZY⟩) (lU (Tryz.f110.body.getD .skip) 18) [] ⟨Nat.zero_le _,λh1 h2=>Ef (h2.resolve_right (by simp)) h1⟩ (λx hok=> ?_);obtain⟨kV,fE,lX,Pd⟩:=x;replace hok:(kV<=ks.length)/\(k1=5->(Pd=true\/0<kV)->ns.length=ks.length):=hok;obtain⟨UT,Eg⟩:=hok;rcases bg (Pd) with Yn|Yn
    ·rcases bg (decide (((kV:Nat):Int)<((ks.length:Nat):Int))) with UU|UU
     ·have ad5:=of_decide_eq_true UU;refine O4 (f:=0) ah aC (α:=Int×Int×Bool) (λx=>⟨dU 220 [(1,.ptr (.loc [0]) 0),(2,.t (.int .i64 x.1)),(3,.t (.int .i64 x.2.1)),(4,.t (.bool x.2.2)),(7,.t (.int .i64 ((kV:Nat):Int)))],[(.loc [0],.cells 30 (fI k1 b1 n1 s1 t1 ns ks))],1⟩) (λx=>True) 20 (n:=3000) (once:=[]) (k:=220) (T:=1) (S:=[.loc [0]]) (ks:=[.loc [0]]) (live:=[1,2,3,7]) (Yb (Tryz.f110.body.getD .skip) 19) (⟨dU 220 [(1,.ptr (.loc [0]) 0),(2,.t (.int .i64 fE)),(3,.t (.int .i64 lX)),(7,.t (.int .i64 ((kV:Nat):Int)))],[(.loc [0],.cells 30 (fI k1 b1 n1 s1 t1 ns ks))],1⟩) (rq 6 (oB Yn) ([oB UU])) (by kernel_rfl) ?_ ?_
      ·obtain⟨e24,tE⟩:=fR ks kV;have Pe:=(hks e24 (cg tE));obtain⟨bh,cI,eV,eW,cK,aV,bk,rfl,agj,agk,agl,agm,agn,ago⟩:=T.dL Pe;have wV:=iA e_self (x:=(bW bh cI eV eW cK aV bk)) (cg tE);rcases bg (decide (((kV:Nat):Int)>0)) with tF|tF
       ·have ad6:=of_decide_eq_true tF;rcases bg ((k1==4)) with tG|tG
        ·have UW:=eq_of_beq tG;rcases bg ((fS (bW bh cI eV eW cK aV bk)).2.2) with IQ|IQ
         ·obtain⟨e29,ad7⟩:=fR ks (kV - 1);have ZZ:=(hks e29 (cg ad7));obtain⟨Pf,Z0,ad8,ad9,Z1,K6,Pg,rfl,agp,agq,agr,ags,agt,agu⟩:=T.dL ZZ;exact⟨.inl ⟨⟨(max fE ((fS (bW bh cI eV eW cK aV bk)).1)),(IntKind.wrap .i64 (lX+(fS (bW bh cI eV eW cK aV bk)).2.1)),decide ((adY (bW Pf Z0 ad8 ad9 Z1 K6 Pg) (bW bh cI eV eW cK aV bk))<0)⟩,trivial⟩,kr ah 220 1 [.loc [0]] [1,2,3,4,7] ([oE tE,oC wV,oG .i64 fE ((fS (bW bh cI eV eW cK aV bk)).1),oZ]++rq 4 (oB tF) ([oB tG]++rq 4 (oB IQ) ([oS (kV) (by omega) (by omega),oB IQ,oE ad7]++rq 5 (oB IQ) ([oE tE,oB IQ,oB IQ,oC (dM ah8 (x:=(bW Pf Z0 ad8 ad9 Z1 K6 Pg)) (y:=(bW bh cI eV eW cK aV bk)) ⟨ZZ,Pe⟩),oB IQ,oB IQ]))))⟩
         ·exact⟨.inl ⟨⟨(max fE ((fS (bW bh cI eV eW cK aV bk)).1)),(IntKind.wrap .i64 (lX+(fS (bW bh cI eV eW cK aV bk)).2.1)),false⟩,trivial⟩,kr ah 220 1 [.loc [0]] [1,2,3,4,7] ([oE tE,oC wV,oG .i64 fE ((fS (bW bh cI eV eW cK aV bk)).1),oZ]++rq 4 (oB tF) ([oB tG]++rq 14 (oB IQ) ([])))⟩
        ·have UW:=ne_of_beq_false tG;rcases bg ((k1==5)) with Fz|Fz
         ·have aea:=eq_of_beq Fz;have hln:=Eg (by first|assumption|omega) (.inl (by assumption));obtain⟨e32,Nl⟩:=fR ns kV;have aeb:=(Xp e32 (cg Nl));obtain⟨Nn,rfl,agv⟩:=T.iz aeb;rcases bg ((fS (bW bh cI eV eW cK aV bk)).2.2) with tH|tH
          ·rcases bg ((!(Nn==[]))) with K7|K7
           ·have aec:=ne_of_beq_false (zc K7);rcases bg (decide (((Nn.length:Nat):Int)<=64)) with yl|yl
            ·have aed:=of_decide_eq_true yl;rcases bg ((Nb (.str Nn))) with B2|B2
             ·rcases bg ((((kV:Nat):Int)==0)) with Eh|Eh
              ·have aee:=eq_of_beq Eh;exact⟨.inl ⟨⟨(max fE ((fS (bW bh cI eV eW cK aV bk)).1)),(IntKind.wrap .i64 (lX+(fS (bW bh cI eV eW cK aV bk)).2.1)),true⟩,trivial⟩,kr ah 220 1 [.loc [0]] [1,2,3,4,7] ([oE tE,oC wV,oG .i64 fE ((fS (bW bh cI eV eW cK aV bk)).1),oZ]++rq 4 (oB tF) ([oB tG,oB Fz,oE Nl,oB tH,oB tH,oB tH]++rq 4 (oB K7) ([oB yl,oB yl,oC (iA Iz (x:=.str Nn) ⟨_,rfl⟩),oB yl,oB B2,oB B2,oB B2]++rq 8 (oB Eh) ([oB B2,oB Eh,oB B2]))))⟩
              ·have aee:=ne_of_beq_false Eh;obtain⟨e39,aef⟩:=fR ns (kV - 1);have aeg:=(Xp e39 (cg aef));obtain⟨aia,rfl,agw⟩:=T.iz aeg;exact⟨.inl ⟨⟨(max fE ((fS (bW bh cI eV eW cK aV bk)).1)),(IntKind.wrap .i64 (lX+(fS (bW bh cI eV eW cK aV bk)).2.1)),(bK aia Nn)⟩,trivial⟩,kr ah 220 1 [.loc [0]] [1,2,3,4,7] ([oE tE,oC wV,oG .i64 fE ((fS (bW bh cI eV eW cK aV bk)).1),oZ]++rq 4 (oB tF) ([oB tG,oB Fz,oE Nl,oB tH,oB tH,oB tH]++rq 4 (oB K7) ([oB yl,oB yl,oC (iA Iz (x:=.str Nn) ⟨_,rfl⟩),oB yl,oB B2,oB B2,oB B2]++rq 4 (oB Eh) ([oS (kV) (by omega) (by omega),oB Eh,oE aef,oB Eh,oB Eh,oB Eh,oB B2,oB Eh,oB B2]))))⟩
             ·exact⟨.inl ⟨⟨(max fE ((fS (bW bh cI eV eW cK aV bk)).1)),(IntKind.wrap .i64 (lX+(fS (bW bh cI eV eW cK aV bk)).2.1)),false⟩,trivial⟩,kr ah 220 1 [.loc [0]] [1,2,3,4,7] ([oE tE,oC wV,oG .i64 fE ((fS (bW bh cI eV eW cK aV bk)).1),oZ]++rq 4 (oB tF) ([oB tG,oB Fz,oE Nl,oB tH,oB tH,oB tH]++rq 4 (oB K7) ([oB yl,oB yl,oC (iA Iz (x:=.str Nn) ⟨_,rfl⟩),oB yl]++rq 5 (oB B2) ([]))))⟩
            ·have aed:=of_decide_eq_false yl;exact⟨.inl ⟨⟨(max fE ((fS (bW bh cI eV eW cK aV bk)).1)),(IntKind.wrap .i64 (lX+(fS (bW bh cI eV eW cK aV bk)).2.1)),false⟩,trivial⟩,kr ah 220 1 [.loc [0]] [1,2,3,4,7] ([oE tE,oC wV,oG .i64 fE ((fS (bW bh cI eV eW cK aV bk)).1),oZ]++rq 4 (oB tF) ([oB tG,oB Fz,oE Nl,oB tH,oB tH,oB tH]++rq 4 (oB K7) ([oB yl,oB yl,oB yl]++rq 5 oF ([]))))⟩
           ·have aec:=eq_of_beq (vz K7);exact⟨.inl ⟨⟨(max fE ((fS (bW bh cI eV eW cK aV bk)).1)),(IntKind.wrap .i64 (lX+(fS (bW bh cI eV eW cK aV bk)).2.1)),false⟩,trivial⟩,kr ah 220 1 [.loc [0]] [1,2,3,4,7] ([oE tE,oC wV,oG .i64 fE ((fS (bW bh cI eV eW cK aV bk)).1),oZ]++rq 4 (oB tF) ([oB tG,oB Fz,oE Nl,oB tH,oB tH,oB tH]++rq 4 (oB K7) (rq 8 oF ([]))))⟩
          ·exact⟨.inl ⟨⟨(max fE ((fS (bW bh cI eV eW cK aV bk)).1)),(IntKind.wrap .i64 (lX+(fS (bW bh cI eV eW cK aV bk)).2.1)),false⟩,trivial⟩,kr ah 220 1 [.loc [0]] [1,2,3,4,7] ([oE tE,oC wV,oG .i64 fE ((fS (bW bh cI eV eW cK aV bk)).1),oZ]++rq 4 (oB tF) ([oB tG,oB Fz,oE Nl,oB tH,oB tH,oB tH]++rq 12 oF ([])))⟩
         ·have aea:=ne_of_beq_false Fz;exact⟨.inl ⟨⟨(max fE ((fS (bW bh cI eV eW cK aV bk)).1)),(IntKind.wrap .i64 (lX+(fS (bW bh cI eV eW cK aV bk)).2.1)),(fS (bW bh cI eV eW cK aV bk)).2.2⟩,trivial⟩,kr ah 220 1 [.loc [0]] [1,2,3,4,7] ([oE tE,oC wV,oG .i64 fE ((fS (bW bh cI eV eW cK aV bk)).1),oZ]++rq 4 (oB tF) ([oB tG,oB Fz]))⟩
       ·have ad6:=of_decide_eq_false tF;rcases bg ((k1==5)) with FA|FA
        ·have aeh:=eq_of_beq FA;have hln:=Eg (by first|assumption|omega) (.inl (by assumption));obtain⟨e42,Np⟩:=fR ns kV;have UX:=(Xp e42 (cg Np));obtain⟨Nq,rfl,agx⟩:=T.iz UX;rcases bg ((fS (bW bh cI eV eW cK aV bk)).2.2) with tI|tI
         ·rcases bg ((!(Nq==[]))) with gL|gL
          ·have aei:=ne_of_beq_false (zc gL);rcases bg (decide (((Nq.length:Nat):Int)<=64)) with ym|ym
           ·have aej:=of_decide_eq_true ym;rcases bg ((Nb (.str Nq))) with B3|B3
            ·rcases bg ((((kV:Nat):Int)==0)) with Ei|Ei
             ·have aek:=eq_of_beq Ei;exact⟨.inl ⟨⟨(max fE ((fS (bW bh cI eV eW cK aV bk)).1)),(IntKind.wrap .i64 (lX+(fS (bW bh cI eV eW cK aV bk)).2.1)),true⟩,trivial⟩,kr ah 220 1 [.loc [0]] [1,2,3,4,7] ([oE tE,oC wV,oG .i64 fE ((fS (bW bh cI eV eW cK aV bk)).1),oZ]++rq 4 (oB tF) ([oF,oB FA,oE Np,oB tI,oB tI,oB tI]++rq 4 (oB gL) ([oB ym,oB ym,oC (iA Iz (x:=.str Nq) ⟨_,rfl⟩),oB ym,oB B3,oB B3,oB B3]++rq 8 (oB Ei) ([oB B3,oB Ei,oB B3]))))⟩
             ·have aek:=ne_of_beq_false Ei;obtain⟨e49,ael⟩:=fR ns (kV - 1);have aem:=(Xp e49 (cg ael));obtain⟨aib,rfl,agy⟩:=T.iz aem;exact⟨.inl ⟨⟨(max fE ((fS (bW bh cI eV eW cK aV bk)).1)),(IntKind.wrap .i64 (lX+(fS (bW bh cI eV eW cK aV bk)).2.1)),(bK aib Nq)⟩,trivial⟩,kr ah 220 1 [.loc [0]] [1,2,3,4,7] ([oE tE,oC wV,oG .i64 fE ((fS (bW bh cI eV eW cK aV bk)).1),oZ]++rq 4 (oB tF) ([oF,oB FA,oE Np,oB tI,oB tI,oB tI]++rq 4 (oB gL) ([oB ym,oB ym,oC (iA Iz (x:=.str Nq) ⟨_,rfl⟩),oB ym,oB B3,oB B3,oB B3]++rq 4 (oB Ei) ([oS (kV) (by omega) (by omega),oB Ei,oE ael,oB Ei,oB Ei,oB Ei,oB B3,oB Ei,oB B3]))))⟩
            ·exact⟨.inl ⟨⟨(max fE ((fS (bW bh cI eV eW cK aV bk)).1)),(IntKind.wrap .i64 (lX+(fS (bW bh cI eV eW cK aV bk)).2.1)),false⟩,trivial⟩,kr ah 220 1 [.loc [0]] [1,2,3,4,7] ([oE tE,oC wV,oG .i64 fE ((fS (bW bh cI eV eW cK aV bk)).1),oZ]++rq 4 (oB tF) ([oF,oB FA,oE Np,oB tI,oB tI,oB tI]++rq 4 (oB gL) ([oB ym,oB ym,oC (iA Iz (x:=.str Nq) ⟨_,rfl⟩),oB ym]++rq 5 (oB B3) ([]))))⟩
           ·have aej:=of_decide_eq_false ym;exact⟨.inl ⟨⟨(max fE ((fS (bW bh cI eV eW cK aV bk)).1)),(IntKind.wrap .i64 (lX+(fS (bW bh cI eV eW cK aV bk)).2.1)),false⟩,trivial⟩,kr ah 220 1 [.loc [0]] [1,2,3,4,7] ([oE tE,oC wV,oG .i64 fE ((fS (bW bh cI eV eW cK aV bk)).1),oZ]++rq 4 (oB tF) ([oF,oB FA,oE Np,oB tI,oB tI,oB tI]++rq 4 (oB gL) ([oB ym,oB ym,oB ym]++rq 5 oF ([]))))⟩
          ·have aei:=eq_of_beq (vz gL);exact⟨.inl ⟨⟨(max fE ((fS (bW bh cI eV eW cK aV bk)).1)),(IntKind.wrap .i64 (lX+(fS (bW bh cI eV eW cK aV bk)).2.1)),false⟩,trivial⟩,kr ah 220 1 [.loc [0]] [1,2,3,4,7] ([oE tE,oC wV,oG .i64 fE ((fS (bW bh cI eV eW cK aV bk)).1),oZ]++rq 4 (oB tF) ([oF,oB FA,oE Np,oB tI,oB tI,oB tI]++rq 4 (oB gL) (rq 8 oF ([]))))⟩
         ·exact⟨.inl ⟨⟨(max fE ((fS (bW bh cI eV eW cK aV bk)).1)),(IntKind.wrap .i64 (lX+(fS (bW bh cI eV eW cK aV bk)).2.1)),false⟩,trivial⟩,kr ah 220 1 [.loc [0]] [1,2,3,4,7] ([oE tE,oC wV,oG .i64 fE ((fS (bW bh cI eV eW cK aV bk)).1),oZ]++rq 4 (oB tF) ([oF,oB FA,oE Np,oB tI,oB tI,oB tI]++rq 12 oF ([])))⟩
        ·have aeh:=ne_of_beq_false FA;exact⟨.inl ⟨⟨(max fE ((fS (bW bh cI eV eW cK aV bk)).1)),(IntKind.wrap .i64 (lX+(fS (bW bh cI eV eW cK aV bk)).2.1)),(fS (bW bh cI eV eW cK aV bk)).2.2⟩,trivial⟩,kr ah 220 1 [.loc [0]] [1,2,3,4,7] ([oE tE,oC wV,oG .i64 fE ((fS (bW bh cI eV eW cK aV bk)).1),oZ]++rq 4 (oB tF) ([oF,oB FA]))⟩
      ·rintro ⟨aen,aeo,aep⟩ hok;exact⟨.inl ⟨⟨kV+1,aen,aeo,aep⟩,⟨⟨(by show(kV+1)<=ks.length;omega),(λh1 _=>Eg h1 (.inl (by assumption)))⟩,(by show(ks.length - (kV+1))<(ks.length - kV);omega)⟩⟩,kr ah 220 1 [.loc [0]] [1,2,3,4,7] [oI (kV) (by omega)]⟩
     ·have ad5:=of_decide_eq_false UU;refine kx ah (rq 6 (oB Yn) ([oB UU])) ?_;exact⟨((IntKind.wrap .i64 (fE+1)),(IntKind.wrap .i64 (lX+1)),Pd),kf ah [oZ,oZ]⟩
    ·refine kx ah (rq 6 (oB Yn) ([oF])) ?_;exact⟨((IntKind.wrap .i64 (fE+1)),(IntKind.wrap .i64 (lX+1)),Pd),kf ah [oZ,oZ]⟩
theorem Nr (m:Int):∃F:Tree->Int×Int×Bool,∀x,T .aY x->R1 (cf m) 110 x (.cT [.int .i64 (F x).1,.int .i64 (F x).2.1,.bool (F x).2.2]):=by
 have key:∀(k:K) (x:Tree),T k x->k=.aY->∃r:Int×Int×Bool,R1 (cf m) 110 x (.cT [.int .i64 r.1,.int .i64 r.2.1,.bool r.2.2]):=by
  intro k x h;induction h with
  |aY k1 b1 n1 s1 t1 N1 L1 hs ht h0 h1 h2 h3 _ ih=>
   intro _
   obtain⟨fS,hS⟩:=cD (α:=Tree) (P:=λy=>y∈L1) (Q:=λy (r:Int×Int×Bool)=>R1 (cf m) 110 y (.cT [.int .i64 r.1,.int .i64 r.2.1,.bool r.2.2])) λy hy=>ih y hy rfl
   exact UR m k1 b1 n1 s1 t1 hs ht N1 L1 h0 h1 h2 h3 fS hS
  |_=>exactλe=>(by cases e)
 exact xC (λr:Int×Int×Bool=>.cT [.int .i64 r.1,.int .i64 r.2.1,.bool r.2.2]) λx h=>key _ x h rfl
theorem UY (m:Int):∃F:Tree->Int,∀x,(T .aY x)->R1 (cf m) 69 x (.int .i64 (F x))/\(True):=by
 refine Ie (P:=λx=>T .aY x) (mk:=λ(r:Int)=>.int .i64 r) (Post:=λx r=>True) λx hx=> ?_
 show ∃r:{r:Int // True},aq (cf m) 69 [.t x] [] (.ret (.t (.int .i64 r.1)) [] []);have bR:=hx;obtain⟨fV,vP,n_1,s_1,rX,jc,jR,rfl,jQ,gC,Ec,lW,Ed,yh⟩:=T.dL bR;obtain⟨GG,aeq⟩:=Nr m;obtain⟨ev,aC,aer⟩:∃ev,aF (cf m) ev/\Has ev 110 (BD (λx=>T .aY x) (λx=>.cT [.int .i64 (GG x).1,.int .i64 (GG x).2.1,.bool (GG x).2.2])):=⟨_,(aB (gA (λx h=>(aeq x h))) aM),aD⟩;refine AX.start 21 1 Tryz.func69 rfl (by decide) rfl rfl (by decide) ?_;refine AX.frames ?_;have Yo:=iA aer (x:=(bW fV vP n_1 s_1 rX jc jR)) bR;rcases bg ((!(GG (bW fV vP n_1 s_1 rX jc jR)).2.2)) with eE|eE
 ·refine⟨⟨7, ?_⟩,kf ah [oC Yo,oB eE]⟩;trivial
 ·rcases bg (decide ((GG (bW fV vP n_1 s_1 rX jc jR)).1>8)) with gI|gI
  ·have D7:=of_decide_eq_true gI;refine⟨⟨4, ?_⟩,kf ah [oC Yo,oB eE,oB gI]⟩;trivial
  ·have D7:=of_decide_eq_false gI;rcases bg (decide ((GG (bW fV vP n_1 s_1 rX jc jR)).2.1>128)) with gK|gK
   ·have vG:=of_decide_eq_true gK;refine⟨⟨2, ?_⟩,kf ah [oC Yo,oB eE,oB gI,oB gK]⟩;trivial
   ·have vG:=of_decide_eq_false gK;refine⟨⟨0, ?_⟩,kf ah [oC Yo,oB eE,oB gI,oB gK]⟩;trivial
theorem Ej (m:Int):∃F:Tree->Int,∀x,(T .aY x)->(R1 (cf m) 69 x (.int .i64 (F x))/\(True))/\((R1 (cf m) 69 x (.int .i64 0)/\(True))->F x=0):=by
 obtain⟨F,hF⟩:=UY m;classical
 refine⟨λx=>if(R1 (cf m) 69 x (.int .i64 0)/\(True)) then 0 else F x,λx hx=> ?_⟩;by_cases hz:(R1 (cf m) 69 x (.int .i64 0)/\(True))
 ·simp only[if_pos hz];exact⟨⟨hz.1,hz.2⟩,λ_=>trivial⟩
 ·simp only[if_neg hz];exact⟨hF x hx,λh=>absurd h hz⟩
def vcG (m:Int):Tree->Int:=Classical.choose (Ej m)
theorem UZ (m:Int):∃F:Tree->Int,∀x,(T .aY x)->R1 (cf m) 69 x (.int .i64 (F x))/\((True)/\F x=vcG m x):=⟨vcG m,λx h=>⟨(Classical.choose_spec (Ej m) x h).1.1,(Classical.choose_spec (Ej m) x h).1.2,rfl⟩⟩
end
end Go.Proofs.YtnfnihgmankidaaGreatDoor.w.e
