/- More of it. -/
import Derived.Test.YtfdnciimclnncaaGreatDoorV
import Derived.Test.YtfdnciimclnncaaGreatDoorW
import Derived.Test.YtfdnciimclnncaaGreatDoorX
import Derived.Test.YtfdnciimclnncaaGreatDoorT
import Derived.Test.YtfdnciimclnncaaGreatDoorR
set_option linter.unusedVariables false
set_option linter.unusedSimpArgs false
namespace Go.Proofs.YtfdnciimclnncaaGreatDoor.w
open Go Go.Abs
set_option maxRecDepth 100000
set_option maxHeartbeats 1000000
noncomputable section
theorem bK {α β:Type}[Inhabited β]{P:α->Prop}{Q:α->β->Prop}(h:∀a,P a->∃b,Q a b):∃f:α->β,∀a,P a->Q a (f a):=
 Classical.axiomOfChoice (r:=λa b=>P a->Q a b) λa=>by
  by_cases hp:P a
  ·obtain⟨b,hb⟩:=h a hp;exact⟨b,λ_=>hb⟩
  ·exact⟨default,λh=>absurd h hp⟩
theorem Bq {C:ew}{β:Type}[Inhabited β]{g:FuncId}{P:Tree->Prop}(mk:β->Tree)(h:∀x,P x->∃r:β,ai C g [.t x] [] (.ret (.t (mk r)) [] [])):∃f:Tree->β,∀x,P x->ai C g [.t x] [] (.ret (.t (mk (f x))) [] []):=bK h
theorem zM {C:ew}{β:Type}[Inhabited β]{g:FuncId}{P:Tree->Tree->Prop}(mk:β->Tree)(h:∀x y,P x y->∃r:β,ai C g [.t x,.t y] [] (.ret (.t (mk r)) [] [])):
 ∃f:Tree->Tree->β,∀x y,P x y->ai C g [.t x,.t y] [] (.ret (.t (mk (f x y))) [] []):=by
 obtain⟨f,hf⟩:=bK (α:=Tree×Tree) (P:=λp=>P p.1 p.2) (Q:=λp r=>ai C g [.t p.1,.t p.2] [] (.ret (.t (mk r)) [] [])) λp hp=>h p.1 p.2 hp
 exact⟨λx y=>f (x,y),λx y hp=>hf (x,y) hp⟩
def PI (x:Tree):Prop:=∃n,x=.int .u8 n
def PS (x:Tree):Prop:=∃s,x=.str s
def t1 {β:Type}(mk:β->Tree)(P:Tree->Prop)(f:Tree->β):List TV->List aP->Option br:=ct1 P λx=>.ret (.t (mk (f x))) [] []
def t2 {β:Type}(mk:β->Tree)(P:Tree->Tree->Prop)(f:Tree->Tree->β):List TV->List aP->Option br:=ct2 P λx y=>.ret (.t (mk (f x y))) [] []
theorem J2 {C:ew}{β:Type}{g:FuncId}{mk:β->Tree}{P:Tree->Prop}{f:Tree->β}(h:∀x,P x->ai C g [.t x] [] (.ret (.t (mk (f x))) [] [])):ko C g (t1 mk P f):=ais h
theorem Mm {C:ew}{β:Type}{g:FuncId}{mk:β->Tree}{P:Tree->Tree->Prop}{f:Tree->Tree->β}(h:∀x y,P x y->ai C g [.t x,.t y] [] (.ret (.t (mk (f x y))) [] [])):ko C g (t2 mk P f):=Zu h
theorem J3 {β:Type}{g:FuncId}{mk:β->Tree}{P:Tree->Prop}{f:Tree->β}{ev:bp}{x:Tree}(h:P x):qz g (t1 mk P f) ev g [.t x] []=some (.ret (.t (mk (f x))) [] []):=ait h
theorem Mn {β:Type}{g:FuncId}{mk:β->Tree}{P:Tree->Tree->Prop}{f:Tree->Tree->β}{ev:bp}{x y:Tree}(h:P x y):qz g (t2 mk P f) ev g [.t x,.t y] []=some (.ret (.t (mk (f x y))) [] []):=Zv h
theorem TN (m:Int):∃f:Tree->Bool,∀x,PI x->ai (cf m) 131 [.t x] [] (.ret (.t (.bool (f x))) [] []):=by
 obtain⟨fd,hd⟩:=Bq (C:=cf m) (g:=129) (P:=PI) Tree.bool (λx ⟨n,e⟩=>e▸QH aF n);obtain⟨fl,hl⟩:=Bq (C:=cf m) (g:=132) (P:=PI) Tree.bool (λx ⟨n,e⟩=>e▸Xz aF n);refine Bq (P:=PI) Tree.bool λx ⟨n,e⟩=>e▸aax (aq (J2 hl) (aq (J2 hd) aF)) (λn=>fl (.int .u8 n)) (λn=>fd (.int .u8 n)) (λn=>J3 ⟨n,rfl⟩) (λn=>rD rfl (J3 ⟨n,rfl⟩)) n
def J4 (s:List UInt8):Tree:=.sl (s.map λb=>.int .u8 b.toNat)
theorem aaz (m:Int):∃f:Tree->Tree->Bool,∀x y,((∃s:List UInt8,s.length<=64/\x=J4 s)/\y=.fn (.func 131))->ai (cf m) 130 [.t x,.t y] [] (.ret (.t (.bool (f x y))) [] []):=by
 obtain⟨f1,h1⟩:=TN m;obtain⟨fi,hi⟩:=zM (C:=cf m) (g:=179) (P:=λx y=>(∃s:List UInt8,s.length<=64/\x=J4 s)/\y=.fn (.func 131)) (Tree.int .i64) (λx y ⟨⟨s,hs,e⟩,e2⟩=>by
  subst e;subst e2;have hform:∀e∈s.map (λb:UInt8=>Tree.int .u8 b.toNat),∃n,e=.int .u8 n:=λe he=>by obtain⟨b,_,rfl⟩:=List.mem_map.1 he;exact⟨_,rfl⟩
  exact aiT (aq (J2 h1) aF) _ (by rw[List.length_map];omega) hform 131 f1 (λe he=>J3 (hform e he)))
 exact zM Tree.bool λx y hp=>aiU (aq (Mm hi) aF) x y (fi x y) (Mn hp)
theorem aaA (m:Int):∃f:Tree->Tree->Bool,∀x y,(x=.sl (zC.map .str)/\PS y)->ai (cf m) 76 [.t x,.t y] [] (.ret (.t (.bool (f x y))) [] []):=by
 obtain⟨fi,hi⟩:=zM (C:=cf m) (g:=101) (P:=λx y=>x=.sl (zC.map .str)/\PS y) (Tree.int .i64) (λx y ⟨e,s,e2⟩=>by
  subst e;subst e2;exact aiX aF _ (by decide) (λe he=>by obtain⟨b,_,rfl⟩:=List.mem_map.1 he;exact⟨_,rfl⟩) s)
 exact zM Tree.bool λx y hp=>aiY (aq (Mm hi) aF) x y (fi x y) (Mn hp)
theorem XB (m:Int):∃f:Tree->Bool,∀x,PS x->ai (cf m) 82 [.t x] [] (.ret (.t (.bool (f x))) [] []):=by
 obtain⟨fd,hd⟩:=Bq (C:=cf m) (g:=129) (P:=PI) Tree.bool (λx ⟨n,e⟩=>e▸QH aF n);obtain⟨fb,hb⟩:=aaz m;obtain⟨fc,hc⟩:=aaA m;have hw:ko (cf m) 128 (vJ zD pO):=λargs bq r h=>live.QJ m pO aF args bq r h
 refine Bq (P:=PS) Tree.bool λx ⟨s,e⟩=>e▸aeL (ev:=qz 128 (vJ zD pO) (qz 129 (t1 .bool PI fd) (qz 76 (t2 .bool (λx y=>x=.sl (zC.map .str)/\PS y) fc) (qz 130 (t2 .bool (λx y=>(∃s:List UInt8,s.length<=64/\x=J4 s)/\y=.fn (.func 131)) fb) pO))))
  (aq hw (aq (J2 hd) (aq (Mm hc) (aq (Mm hb) aF)))) (λn=>fd (.int .u8 n)) (λs=>fc (.sl (zC.map .str)) (.str s)) (λs=>fb (J4 s) (.fn (.func 131))) rfl
  (λn=>rD rfl (J3 ⟨n,rfl⟩)) (λs=>rD rfl (rD rfl (Mn ⟨rfl,s,rfl⟩))) (λs hs=>rD rfl (rD rfl (rD rfl (Mn (x:=J4 s) ⟨⟨s,hs,rfl⟩,rfl⟩)))) s
theorem Vz (m:Int):∃f:Tree->Bool,∀x,PS x->ai (cf m) 40 [.t x] [] (.ret (.t (.bool (f x))) [] []):=by
 obtain⟨fn,hn⟩:=XB m;obtain⟨f1,h1⟩:=Bq (C:=cf m) (g:=81) (P:=PS) Tree.bool (λx ⟨s,e⟩=>e▸N7 (aq (J2 hn) aF) (λs=>fn (.str s)) (λs=>J3 ⟨s,rfl⟩) s);obtain⟨pc,hpc⟩:=bK (α:=List UInt8) (β:=List (List UInt8)) (P:=λs=>s.length<=64) (Q:=λs l=>l.length<=s.length+1/\ai (cf m) 80 [.t (.str s),.t (.str [58,58])] [] (.ret (.t (.sl (l.map .str))) [] [])) λs hs=>aay s [58,58] (by omega) (by decide)
 obtain⟨fi,hi⟩:=zM (C:=cf m) (g:=126) (P:=λx y=>(∃s:List UInt8,s.length<=64/\x=.sl ((pc s).map .str))/\y=.fn (.func 81)) (Tree.int .i64) (λx y ⟨⟨s,hs,e⟩,e2⟩=>by
  subst e;subst e2;have hform:∀e∈(pc s).map Tree.str,∃u,e=.str u:=λe he=>by obtain⟨b,_,rfl⟩:=List.mem_map.1 he;exact⟨_,rfl⟩
  exact aiV (aq (J2 h1) aF) _ (by rw[List.length_map];have:=(hpc s hs).1;omega) hform 81 f1 (λe he=>J3 (hform e he)))
 obtain⟨fc,hc⟩:=zM (C:=cf m) (g:=79) (P:=λx y=>(∃s:List UInt8,s.length<=64/\x=.sl ((pc s).map .str))/\y=.fn (.func 81)) Tree.bool λx y hp=>aiW (aq (Mm hi) aF) x y (fi x y) (Mn hp)
 have hsp:ko (cf m) 80 (ct2 (λx y=>(∃s:List UInt8,s.length<=64/\x=.str s)/\y=.str [58,58]) λx _=>match x with|.str s=>.ret (.t (.sl ((pc s).map .str))) [] []|_=>default):=
  Zu λx y hx=>by obtain⟨⟨s,hs,rfl⟩,rfl⟩:=hx;exact(hpc s hs).2
 exact Bq (P:=PS) Tree.bool λx ⟨s,e⟩=>e▸QI (aq hsp (aq (Mm hc) aF)) pc (λs=>fc (.sl ((pc s).map .str)) (.fn (.func 81))) (λs hs=>Zv (x:=.str s) (y:=.str [58,58]) ⟨⟨s,hs,rfl⟩,rfl⟩) (λs hs=>rD rfl (Mn ⟨⟨s,hs,rfl⟩,rfl⟩)) s
theorem x7 (m:Int):∃f:Tree->Bool,∀x,PS x->ai (cf m) 41 [.t x] [] (.ret (.t (.bool (f x))) [] []):=by
 obtain⟨fw,hw⟩:=Bq (C:=cf m) (g:=83) (P:=λx=>∃s:List UInt8,8<=s.length/\x=.str s) (Tree.int .u64) (λx ⟨s,hs,e⟩=>by
  subst e;match s,hs with
  |b0::b1::b2::b3::b4::b5::b6::b7::r,_=>exact aek aF b0 b1 b2 b3 b4 b5 b6 b7 r)
 exact Bq (C:=cf m) (g:=41) (P:=PS) Tree.bool (λx ⟨s,e⟩=>e▸aaw _ (aq (J2 hw) aF) (λs=>fw (.str s)) (λs hs=>J3 ⟨s,hs,rfl⟩) s)
end
end Go.Proofs.YtfdnciimclnncaaGreatDoor.w
namespace Go.Proofs.YtfdnciimclnncaaGreatDoor.w.e
open Go Go.Abs
set_option maxRecDepth 100000
set_option maxHeartbeats 2000000
noncomputable section
theorem N8 (m:Int):∃F:Tree->Int,∀x,(T .aB x)->R1 (cf m) 22 x (.int .i64 (F x))/\(True):=by
 refine BV (P:=λx=>T .aB x) (mk:=λ(r:Int)=>.int .i64 r) (Post:=λx r=>True) λx hx=> ?_
 show ∃r:{r:Int // True},ai (cf m) 22 [.t x] [] (.ret (.t (.int .i64 r.1)) [] []);have bu:=hx;obtain⟨type_1,DB,rfl,cT,cQ⟩:=T.bH bu;obtain⟨aaB,aiZ⟩:=Vz m;obtain⟨DC,TP⟩:=x7 m;obtain⟨ev,aI,ai0,F5⟩:∃ev,aC (cf m) ev/\Has ev 40 (mW (λx=>PS x) (λx=>.bool (aaB x)))/\Has ev 41 (mW (λx=>PS x) (λx=>.bool (DC x))):=⟨_,(aq (bU (λx h=>(aiZ x h))) (aq (bU (λx h=>(TP x h))) aF)),au,(az rfl au)⟩;refine AX.start 18 1 Tryz.func22 rfl (by decide) rfl rfl (by decide) ?_;refine AX.frames ?_;have zh1:=cE ai0 (x:=.str type_1) ⟨_,rfl⟩;rcases aK ((!(aaB (.str type_1)))) with cm|cm
 ·refine⟨⟨5, ?_⟩,kf ah [oC zh1,oB cm]⟩;trivial
 ·have zh2:=cE F5 (x:=.str DB) ⟨_,rfl⟩;rcases aK ((!(DC (.str DB)))) with bN|bN
  ·refine⟨⟨6, ?_⟩,kf ah [oC zh1,oB cm,oC zh2,oB bN]⟩;trivial
  ·rcases aK (decide (((DB.length:Nat):Int)>64)) with gu|gu
   ·have r7:=of_decide_eq_true gu;refine⟨⟨3, ?_⟩,kf ah [oC zh1,oB cm,oC zh2,oB bN,oB gu]⟩;trivial
   ·have r7:=of_decide_eq_false gu;refine⟨⟨0, ?_⟩,kf ah [oC zh1,oB cm,oC zh2,oB bN,oB gu]⟩;trivial
def Yq (m:Int):Tree->Int:=Classical.choose (N8 m)
theorem wV (m:Int):∃F:Tree->Int,∀x,(T .aB x)->R1 (cf m) 22 x (.int .i64 (F x))/\((True)/\F x=Yq m x):=⟨Yq m,λx h=>⟨(Classical.choose_spec (N8 m) x h).1,(Classical.choose_spec (N8 m) x h).2,rfl⟩⟩
def iq:Tree->List Tree
 |.sl l=>l
 |_=>[]
theorem cmp_eq {l:Bool}{a b:List UInt8}(h6:l=false)(h7:(!(l||a==b))=false):Tree.str a=Tree.str b:=by subst h6;rw[show a=b by simpa using h7]
theorem XC {l:List Tree}{i:Nat}{k:Int}(he:l[i]?=some (Tree.int .i64 k))(hk:k=0)(h:∀n,Tree.int .i64 n∈l.take i->n=0):∀n,Tree.int .i64 n∈l.take (i+1)->n=0:=λn hn=>by
 rw[mO he] at hn;rcases List.mem_append.1 hn with hn|hn
 ·exact h n hn
 ·rw[List.mem_singleton] at hn;injection hn with _ e;rw[e];exact hk
theorem J5 {l:List Tree}{i:Nat}{e y:Tree}(he:l[i]?=some e)(h:y∉l.take i)(hn:y≠e):y∉l.take (i+1):=by
 rw[mO he];intro hm;rcases List.mem_append.1 hm with hm|hm
 ·exact h hm
 ·exact hn (by simpa using hm)
theorem ai1 {a b c d:List UInt8}(h:((a==c)&&(b==d))=true):Tree.agg [.str a,.str b]=Tree.agg [.str c,.str d]:=by
 rw[Bool.and_eq_true] at h;rw[eq_of_beq h.1,eq_of_beq h.2]
theorem TQ {a b c d:List UInt8}(h:((a==c)&&(b==d))=false):Tree.agg [.str a,.str b]≠Tree.agg [.str c,.str d]:=λe=>by
 simp only[Tree.agg.injEq,List.cons.injEq,Tree.str.injEq,and_true] at e;rw[e.1,e.2] at h;simp at h
theorem aaC (m:Int):∃F:Tree->Bool,∀x,(T .string x)->R1 (cf m) 138 x (.bool (F x))/\((F x)=false):=by
 refine BV (P:=λx=>T .string x) (mk:=λ(r:Bool)=>.bool r) (Post:=λx r=>r=false) λx hx=> ?_
 show ∃r:{r:Bool // r=false},ai (cf m) 138 [.t x] [] (.ret (.t (.bool r.1)) [] []);have bu:=hx;obtain⟨v_1,rfl,cT⟩:=T.bE bu;obtain⟨ev,aI⟩:∃ev,aC (cf m) ev:=⟨_,aF⟩;refine AX.start 6 1 Tryz.func138 rfl (by decide) rfl rfl (by decide) ?_;refine AX.frames ?_;refine⟨⟨(!(v_1==v_1)), ?_⟩,kf ah []⟩;simp
theorem F6 (m:Int):∃F:Tree->Tree->Int,∀x y,(T .string x/\T .string y)->R2 (cf m) 87 x y (.int .i64 (F x y))/\((F x y)=0->x=y):=by
 refine tK (P:=λx y=>T .string x/\T .string y) (mk:=λ(r:Int)=>.int .i64 r) (Post:=λx y r=>r=0->x=y) λx y hx=> ?_
 obtain⟨hx,hy⟩:=hx;show ∃r:{r:Int // r=0->x=y},ai (cf m) 87 [.t x,.t y] [] (.ret (.t (.int .i64 r.1)) [] []);have bu:=hx;obtain⟨v_1,rfl,cT⟩:=T.bE bu;have dz:=hy;obtain⟨v_2,rfl,iA⟩:=T.bE dz;obtain⟨VA,aaD⟩:=aaC m;obtain⟨ev,aI,QK⟩:∃ev,aC (cf m) ev/\Has ev 138 (mW (λx=>T .string x) (λx=>.bool (VA x))):=⟨_,(aq (bU (λx h=>(aaD x h).1)) aF),au⟩;refine AX.start 20 2 Tryz.func87 rfl (by decide) rfl rfl (by decide) ?_;refine AX.frames ?_;have Ni:=(aaD (.str v_1) bu).2;have hp4:=(aaD (.str v_2) dz).2;have zh3:=cE QK (x:=.str v_1) bu;have zh4:=cE QK (x:=.str v_2) dz;rcases aK ((VA (.str v_1))) with ja|ja
 ·rcases aK ((VA (.str v_2))) with nI|nI
  ·refine⟨⟨0, ?_⟩,kf ah [oC zh3,oC zh4,oB ja,oB nI]⟩;intro _;exact absurd (Ni.symm.trans ja) (by decide)
  ·refine⟨⟨-1, ?_⟩,kf ah [oC zh3,oC zh4,oB ja,oB nI]⟩;intro h;exact absurd h (by decide)
 ·rcases aK ((VA (.str v_2))) with gx|gx
  ·refine⟨⟨1, ?_⟩,kf ah [oC zh3,oC zh4,oB ja,oB gx]⟩;intro h;exact absurd h (by decide)
  ·rcases aK ((jx v_1 v_2)) with iJ|iJ
   ·refine⟨⟨-1, ?_⟩,kf ah [oC zh3,oC zh4,oB ja,oB gx,oB iJ]⟩;intro h;exact absurd h (by decide)
   ·rcases aK ((!(jx v_1 v_2||v_1==v_2))) with nU|nU
    ·refine⟨⟨1, ?_⟩,kf ah [oC zh3,oC zh4,oB ja,oB gx,oB iJ,oB nU]⟩;intro h;exact absurd h (by decide)
    ·refine⟨⟨0, ?_⟩,kf ah [oC zh3,oC zh4,oB ja,oB gx,oB iJ,oB nU]⟩;intro _;exact cmp_eq iJ nU
theorem QL (m:Int):∃F:Tree->Int,∀x,(T .Lint x)->R1 (cf m) 86 x (.int .i64 (F x))/\((F x)=0->∀n,Tree.int .i64 n∈iq x->n=0):=by
 refine BV (P:=λx=>T .Lint x) (mk:=λ(r:Int)=>.int .i64 r) (Post:=λx r=>r=0->∀n,Tree.int .i64 n∈iq x->n=0) λx hx=> ?_
 show ∃r:{r:Int // r=0->∀n,Tree.int .i64 n∈iq x->n=0},ai (cf m) 86 [.t x] [] (.ret (.t (.int .i64 r.1)) [] []);have bu:=hx;obtain⟨v_1,rfl,cT,cQ⟩:=T.aat bu;obtain⟨ev,aI⟩:∃ev,aC (cf m) ev:=⟨_,aF⟩;refine AX.start 18 1 Tryz.func86 rfl (by decide) rfl rfl (by decide) ?_;refine AX.frames ?_;refine kl (α:=Nat) ah 0 [] 18 0 [] [] [3,6,7,8] (λx=>⟨eA 18 [(3,.t (.int .i64 0)),(6,.t (.sl v_1)),(7,.t (.int .i64 ((v_1.length:Nat):Int))),(8,.t (.int .i64 ((x:Nat):Int)))],[],0⟩) (λx=>(x<=v_1.length)/\(∀n,Tree.int .i64 n∈v_1.take x->n=0)) (λx=>v_1.length - x) 0 (j6 (Tryz.f86.body.getD .skip) 3) [] ⟨Nat.zero_le _,λn hn=>by simp at hn⟩ (λx hok=> ?_);obtain⟨i_2,zN⟩:∃y,y=x:=⟨x,rfl⟩;subst zN;replace hok:(i_2<=v_1.length)/\(∀n,Tree.int .i64 n∈v_1.take i_2->n=0):=hok;obtain⟨Ip,AQ⟩:=hok;rcases aK (decide (((i_2:Nat):Int)<((v_1.length:Nat):Int))) with bN|bN
 ·have mX:=of_decide_eq_true bN;obtain⟨e4,uF⟩:=dn v_1 i_2;have nV:=(cQ e4 (fT uF));obtain⟨v_5,rfl⟩:=T.uY nV;rcases aK ((v_5 != 0)) with nI|nI
  ·have F7:=dI nI;refine kx ah [oB bN,oE uF,oB nI] ?_;refine⟨⟨v_5, ?_⟩,kf ah []⟩;intro h;exact absurd h (bne_iff_ne.1 nI)
  ·have F7:=cg nI;exact⟨.inl ⟨i_2+1,⟨⟨(by show(i_2+1)<=v_1.length;omega),(XC uF (cg nI) AQ)⟩,(by show(v_1.length - (i_2+1))<(v_1.length - i_2);omega)⟩⟩,kr ah 18 0 [] [3,6,7,8] [oB bN,oE uF,oB nI,oI (i_2) (by omega)]⟩
 ·have mX:=of_decide_eq_false bN;refine kx ah [oB bN] ?_;refine⟨⟨0, ?_⟩,kf ah []⟩;intro _ n hn;exact AQ n (by rw[List.take_of_length_le (by omega)];exact hn)
theorem DD (m:Int):∃F:Tree->Tree->Int,∀x y,(T .aB x/\T .aB y)->R2 (cf m) 46 x y (.int .i64 (F x y))/\((F x y)=0->x=y):=by
 refine tK (P:=λx y=>T .aB x/\T .aB y) (mk:=λ(r:Int)=>.int .i64 r) (Post:=λx y r=>r=0->x=y) λx y hx=> ?_
 obtain⟨hx,hy⟩:=hx;show ∃r:{r:Int // r=0->x=y},ai (cf m) 46 [.t x,.t y] [] (.ret (.t (.int .i64 r.1)) [] []);have bu:=hx;obtain⟨type_1,DB,rfl,cT,cQ⟩:=T.bH bu;have dz:=hy;obtain⟨dR,fO,rfl,iA,lU⟩:=T.bH dz;obtain⟨lp,tP⟩:=F6 m;obtain⟨QM,QN⟩:=QL m;obtain⟨ev,aI,zO,aaE⟩:∃ev,aC (cf m) ev/\Has ev 87 (rZ (λx y=>T .string x/\T .string y) (λx y=>.int .i64 (lp x y)))/\Has ev 86 (mW (λx=>T .Lint x) (λx=>.int .i64 (QM x))):=⟨_,(aq (dG (λx y h=>(tP x y h).1)) (aq (bU (λx h=>(QN x h).1)) aF)),au,(az rfl au)⟩;refine AX.start 17 2 Tryz.func46 rfl (by decide) rfl rfl (by decide) ?_;refine AX.frames ?_;have Ni:=(tP (.str type_1) (.str dR) ⟨(.string _ bJ),(.string _ bJ)⟩).2;have hp4:=(tP (.str DB) (.str fO) ⟨(.string _ bJ),(.string _ bJ)⟩).2;have hp5:=(QN (.sl [.int .i64 (lp (.str type_1) (.str dR)),.int .i64 (lp (.str DB) (.str fO))]) (.Lint _ bJ (bx (.int _) (bx (.int _) (λ_ h=>absurd h (by simp)))))).2;refine⟨⟨(QM (.sl [.int .i64 (lp (.str type_1) (.str dR)),.int .i64 (lp (.str DB) (.str fO))])), ?_⟩,kf ah [oC (eO zO (x:=.str type_1) (y:=.str dR) ⟨(.string _ bJ),(.string _ bJ)⟩),oC (eO zO (x:=.str DB) (y:=.str fO) ⟨(.string _ bJ),(.string _ bJ)⟩),oC (cE aaE (x:=.sl [.int .i64 (lp (.str type_1) (.str dR)),.int .i64 (lp (.str DB) (.str fO))]) (.Lint _ bJ (bx (.int _) (bx (.int _) (λ_ h=>absurd h (by simp))))))]⟩;intro h;have h1:=hp5 h;have e1:=Tree.str.inj (Ni (h1 _ (by simp[iq])));have e2:=Tree.str.inj (hp4 (h1 _ (by simp[iq])));rw[e1,e2]
theorem QS (m:Int):∃F:Tree->Bool,∀x,(T .jU x)->R1 (cf m) 180 x (.bool (F x))/\(True):=by
 refine BV (P:=λx=>T .jU x) (mk:=λ(r:Bool)=>.bool r) (Post:=λx r=>True) λx hx=> ?_
 show ∃r:{r:Bool // True},ai (cf m) 180 [.t x] [] (.ret (.t (.bool r.1)) [] []);have bu:=hx;obtain⟨v_1,rfl⟩:=T.zL bu;obtain⟨ev,aI⟩:∃ev,aC (cf m) ev:=⟨_,aF⟩;refine AX.start 6 1 Tryz.func180 rfl (by decide) rfl rfl (by decide) ?_;refine AX.frames ?_;refine kAt (f:=0) (n:=3000) (once:=[]) (k:=6) (T:=0) (S:=[]) (ks:=[]) (live:=[0,2]) ah aI (Tryz.f180.body.getD .skip) 1 rfl (⟨eA 6 [(0,.t (.int .u8 v_1)),(2,.t (.bool false))],[],0⟩) [] (by kernel_rfl) ?_;refine AX.region ?_;refine aO.go (f:=0) aI (aH rfl) ?_;refine aO.go (f:=0) aI (aH rfl) ?_;refine aO.go (f:=0) aI (NF rfl rfl) ?_;refine aO.go (f:=0) aI (aJ rfl) ?_;refine aO.nil ?_;refine⟨⟨false, ?_⟩,kf ah []⟩;trivial
theorem QT (m:Int):∃F:Tree->Tree->Int,∀x y,(T .jU x/\T .jU y)->R2 (cf m) 133 x y (.int .i64 (F x y))/\(True):=by
 refine tK (P:=λx y=>T .jU x/\T .jU y) (mk:=λ(r:Int)=>.int .i64 r) (Post:=λx y r=>True) λx y hx=> ?_
 obtain⟨hx,hy⟩:=hx;show ∃r:{r:Int // True},ai (cf m) 133 [.t x,.t y] [] (.ret (.t (.int .i64 r.1)) [] []);have bu:=hx;obtain⟨v_1,rfl⟩:=T.zL bu;have dz:=hy;obtain⟨v_2,rfl⟩:=T.zL dz;obtain⟨DE,aaF⟩:=QS m;obtain⟨ev,aI,QU⟩:∃ev,aC (cf m) ev/\Has ev 180 (mW (λx=>T .jU x) (λx=>.bool (DE x))):=⟨_,(aq (bU (λx h=>(aaF x h).1)) aF),au⟩;refine AX.start 20 2 Tryz.func133 rfl (by decide) rfl rfl (by decide) ?_;refine AX.frames ?_;have zh5:=cE QU (x:=.int .u8 v_1) bu;have zh6:=cE QU (x:=.int .u8 v_2) dz;rcases aK ((DE (.int .u8 v_1))) with bN|bN
 ·rcases aK ((DE (.int .u8 v_2))) with gu|gu
  ·refine⟨⟨0, ?_⟩,kf ah [oC zh5,oC zh6,oB bN,oB gu]⟩;trivial
  ·refine⟨⟨-1, ?_⟩,kf ah [oC zh5,oC zh6,oB bN,oB gu]⟩;trivial
 ·rcases aK ((DE (.int .u8 v_2))) with ja|ja
  ·refine⟨⟨1, ?_⟩,kf ah [oC zh5,oC zh6,oB bN,oB ja]⟩;trivial
  ·rcases aK (decide (v_1<v_2)) with nI|nI
   ·have F7:=of_decide_eq_true nI;refine⟨⟨-1, ?_⟩,kf ah [oC zh5,oC zh6,oB bN,oB ja,oB nI]⟩;trivial
   ·have F7:=of_decide_eq_false nI;rcases aK (decide (v_1>v_2)) with gx|gx
    ·have nW:=of_decide_eq_true gx;refine⟨⟨1, ?_⟩,kf ah [oC zh5,oC zh6,oB bN,oB ja,oB nI,oB gx]⟩;trivial
    ·have nW:=of_decide_eq_false gx;refine⟨⟨0, ?_⟩,kf ah [oC zh5,oC zh6,oB bN,oB ja,oB nI,oB gx]⟩;trivial
theorem QV (m:Int):∃F:Tree->Bool,∀x,(T .int64 x)->R1 (cf m) 181 x (.bool (F x))/\(True):=by
 refine BV (P:=λx=>T .int64 x) (mk:=λ(r:Bool)=>.bool r) (Post:=λx r=>True) λx hx=> ?_
 show ∃r:{r:Bool // True},ai (cf m) 181 [.t x] [] (.ret (.t (.bool r.1)) [] []);have bu:=hx;obtain⟨v_1,rfl⟩:=T.ov bu;obtain⟨ev,aI⟩:∃ev,aC (cf m) ev:=⟨_,aF⟩;refine AX.start 6 1 Tryz.func181 rfl (by decide) rfl rfl (by decide) ?_;refine AX.frames ?_;refine kAt (f:=0) (n:=3000) (once:=[]) (k:=6) (T:=0) (S:=[]) (ks:=[]) (live:=[0,2]) ah aI (Tryz.f181.body.getD .skip) 1 rfl (⟨eA 6 [(0,.t (.int .i64 v_1)),(2,.t (.bool false))],[],0⟩) [] (by kernel_rfl) ?_;refine AX.region ?_;refine aO.go (f:=0) aI (aH rfl) ?_;refine aO.go (f:=0) aI (aH rfl) ?_;refine aO.go (f:=0) aI (NF rfl rfl) ?_;refine aO.go (f:=0) aI (aJ rfl) ?_;refine aO.nil ?_;refine⟨⟨false, ?_⟩,kf ah []⟩;trivial
theorem QW (m:Int):∃F:Tree->Tree->Int,∀x y,(T .int64 x/\T .int64 y)->R2 (cf m) 134 x y (.int .i64 (F x y))/\(True):=by
 refine tK (P:=λx y=>T .int64 x/\T .int64 y) (mk:=λ(r:Int)=>.int .i64 r) (Post:=λx y r=>True) λx y hx=> ?_
 obtain⟨hx,hy⟩:=hx;show ∃r:{r:Int // True},ai (cf m) 134 [.t x,.t y] [] (.ret (.t (.int .i64 r.1)) [] []);have bu:=hx;obtain⟨v_1,rfl⟩:=T.ov bu;have dz:=hy;obtain⟨v_2,rfl⟩:=T.ov dz;obtain⟨DF,aaG⟩:=QV m;obtain⟨ev,aI,QX⟩:∃ev,aC (cf m) ev/\Has ev 181 (mW (λx=>T .int64 x) (λx=>.bool (DF x))):=⟨_,(aq (bU (λx h=>(aaG x h).1)) aF),au⟩;refine AX.start 20 2 Tryz.func134 rfl (by decide) rfl rfl (by decide) ?_;refine AX.frames ?_;have zh7:=cE QX (x:=.int .i64 v_1) bu;have zh8:=cE QX (x:=.int .i64 v_2) dz;rcases aK ((DF (.int .i64 v_1))) with bN|bN
 ·rcases aK ((DF (.int .i64 v_2))) with gu|gu
  ·refine⟨⟨0, ?_⟩,kf ah [oC zh7,oC zh8,oB bN,oB gu]⟩;trivial
  ·refine⟨⟨-1, ?_⟩,kf ah [oC zh7,oC zh8,oB bN,oB gu]⟩;trivial
 ·rcases aK ((DF (.int .i64 v_2))) with ja|ja
  ·refine⟨⟨1, ?_⟩,kf ah [oC zh7,oC zh8,oB bN,oB ja]⟩;trivial
  ·rcases aK (decide (v_1<v_2)) with nI|nI
   ·have F7:=of_decide_eq_true nI;refine⟨⟨-1, ?_⟩,kf ah [oC zh7,oC zh8,oB bN,oB ja,oB nI]⟩;trivial
   ·have F7:=of_decide_eq_false nI;rcases aK (decide (v_1>v_2)) with gx|gx
    ·have nW:=of_decide_eq_true gx;refine⟨⟨1, ?_⟩,kf ah [oC zh7,oC zh8,oB bN,oB ja,oB nI,oB gx]⟩;trivial
    ·have nW:=of_decide_eq_false gx;refine⟨⟨0, ?_⟩,kf ah [oC zh7,oC zh8,oB bN,oB ja,oB nI,oB gx]⟩;trivial
theorem QY (m:Int):∃F:Tree->Bool,∀x,(T .int x)->R1 (cf m) 206 x (.bool (F x))/\(True):=by
 refine BV (P:=λx=>T .int x) (mk:=λ(r:Bool)=>.bool r) (Post:=λx r=>True) λx hx=> ?_
 show ∃r:{r:Bool // True},ai (cf m) 206 [.t x] [] (.ret (.t (.bool r.1)) [] []);have bu:=hx;obtain⟨v_1,rfl⟩:=T.uY bu;obtain⟨ev,aI⟩:∃ev,aC (cf m) ev:=⟨_,aF⟩;refine AX.start 6 1 Tryz.func206 rfl (by decide) rfl rfl (by decide) ?_;refine AX.frames ?_;refine kAt (f:=0) (n:=3000) (once:=[]) (k:=6) (T:=0) (S:=[]) (ks:=[]) (live:=[0,2]) ah aI (Tryz.f206.body.getD .skip) 1 rfl (⟨eA 6 [(0,.t (.int .i64 v_1)),(2,.t (.bool false))],[],0⟩) [] (by kernel_rfl) ?_;refine AX.region ?_;refine aO.go (f:=0) aI (aH rfl) ?_;refine aO.go (f:=0) aI (aH rfl) ?_;refine aO.go (f:=0) aI (NF rfl rfl) ?_;refine aO.go (f:=0) aI (aJ rfl) ?_;refine aO.nil ?_;refine⟨⟨false, ?_⟩,kf ah []⟩;trivial
theorem QZ (m:Int):∃F:Tree->Tree->Int,∀x y,(T .int x/\T .int y)->R2 (cf m) 182 x y (.int .i64 (F x y))/\(True):=by
 refine tK (P:=λx y=>T .int x/\T .int y) (mk:=λ(r:Int)=>.int .i64 r) (Post:=λx y r=>True) λx y hx=> ?_
 obtain⟨hx,hy⟩:=hx;show ∃r:{r:Int // True},ai (cf m) 182 [.t x,.t y] [] (.ret (.t (.int .i64 r.1)) [] []);have bu:=hx;obtain⟨v_1,rfl⟩:=T.uY bu;have dz:=hy;obtain⟨v_2,rfl⟩:=T.uY dz;obtain⟨DG,aaH⟩:=QY m;obtain⟨ev,aI,Q0⟩:∃ev,aC (cf m) ev/\Has ev 206 (mW (λx=>T .int x) (λx=>.bool (DG x))):=⟨_,(aq (bU (λx h=>(aaH x h).1)) aF),au⟩;refine AX.start 20 2 Tryz.func182 rfl (by decide) rfl rfl (by decide) ?_;refine AX.frames ?_;have zh9:=cE Q0 (x:=.int .i64 v_1) bu;have XD:=cE Q0 (x:=.int .i64 v_2) dz;rcases aK ((DG (.int .i64 v_1))) with bN|bN
 ·rcases aK ((DG (.int .i64 v_2))) with gu|gu
  ·refine⟨⟨0, ?_⟩,kf ah [oC zh9,oC XD,oB bN,oB gu]⟩;trivial
  ·refine⟨⟨-1, ?_⟩,kf ah [oC zh9,oC XD,oB bN,oB gu]⟩;trivial
 ·rcases aK ((DG (.int .i64 v_2))) with ja|ja
  ·refine⟨⟨1, ?_⟩,kf ah [oC zh9,oC XD,oB bN,oB ja]⟩;trivial
  ·rcases aK (decide (v_1<v_2)) with nI|nI
   ·have F7:=of_decide_eq_true nI;refine⟨⟨-1, ?_⟩,kf ah [oC zh9,oC XD,oB bN,oB ja,oB nI]⟩;trivial
   ·have F7:=of_decide_eq_false nI;rcases aK (decide (v_1>v_2)) with gx|gx
    ·have nW:=of_decide_eq_true gx;refine⟨⟨1, ?_⟩,kf ah [oC zh9,oC XD,oB bN,oB ja,oB nI,oB gx]⟩;trivial
    ·have nW:=of_decide_eq_false gx;refine⟨⟨0, ?_⟩,kf ah [oC zh9,oC XD,oB bN,oB ja,oB nI,oB gx]⟩;trivial
end
end Go.Proofs.YtfdnciimclnncaaGreatDoor.w.e
namespace Go.Proofs.YtfdnciimclnncaaGreatDoor.w.e
open Go Go.Abs
set_option maxRecDepth 100000
set_option maxHeartbeats 2000000
noncomputable section
open Classical in
def px (args:List TV)(bq:List aP)(r:br):List TV->List aP->Option br:=λa o=>if a=args/\o=bq then some r else none
theorem fU {C:ew}{g:FuncId}{args:List TV}{bq:List aP}{r:br}(h:ai C g args bq r):ko C g (px args bq r):=λa o q hq=>by
 unfold px at hq;split at hq
 ·rename_i hp;obtain⟨rfl,rfl⟩:=hp;cases hq;exact h
 ·cases hq
theorem jm {g:FuncId}{ev:bp}{args:List TV}{bq:List aP}{r:br}(h:Has ev g (px args bq r)):ev g args bq=some r:=h _ _ _ (if_pos ⟨rfl,rfl⟩)
def RK3 (C:ew)(g:FuncId)(k:List TV)(AN:List aP)(x y z r:Tree):Prop:=ai C g (.t x:: .t y:: .t z::k) AN (.ret (.t r) AN [])
open Classical in
def pk3 (k:List TV)(AN:List aP)(P:Tree->Tree->Tree->Prop)(F:Tree->Tree->Tree->Tree):List TV->List aP->Option br:=λvb os=>match vb with
 |.t x:: .t y:: .t z::r=>if r=k/\os=AN/\P x y z then some (.ret (.t (F x y z)) AN []) else none
 |_=>none
theorem ai2 {C:ew}{g:FuncId}{k:List TV}{AN:List aP}{P:Tree->Tree->Tree->Prop}{F:Tree->Tree->Tree->Tree}(h:∀x y z,P x y z->RK3 C g k AN x y z (F x y z)):ko C g (pk3 k AN P F):=λargs bq r hr=>by
 unfold pk3 at hr;split at hr
 ·split at hr
  ·rename_i hp;obtain⟨rfl,rfl,hp⟩:=hp;cases hr;exact h _ _ _ hp
  ·cases hr
 ·cases hr
theorem ahs {ev:FuncId->List TV->List aP->Option br}{g:FuncId}{k:List TV}{AN:List aP}{P:Tree->Tree->Tree->Prop}{F:Tree->Tree->Tree->Tree}(h:Has ev g (pk3 k AN P F)){x y z:Tree}(hp:P x y z):ev g (.t x:: .t y:: .t z::k) AN=some (.ret (.t (F x y z)) AN []):=h _ _ _ (if_pos ⟨rfl,rfl,hp⟩)
def AtB (l l2:List Tree)(i x y:Tree):Prop:=∃j:Nat,i=.int .i64 j/\j<4194304/\x∈l/\y∈l2
theorem aml (m:Int)(k1:Int)(b1:Bool)(n1:Int)(s1 t1:List UInt8)(N1 L1:List Tree)(k2:Int)(b2:Bool)(n2:Int)(s2 t2:List UInt8)(N2 L2:List Tree)(q:Tree->Tree->Tree->Int)(l l2:List Tree)(hl:l.length<=4194304)(hl2:∀y∈l,T .av y)(hm:l2.length<=4194304)(hm2:∀y∈l2,T .av y)(hq:∀x y z,AtB l l2 x y z->RK3 (cf m) 136 [.ptr (.arg 0) 0,.ptr (.arg 1) 0] [.cells 32 (cF k1 b1 n1 s1 t1 N1 L1),.cells 32 (cF k2 b2 n2 s2 t2 N2 L2)] x y z (.int .i64 (q x y z))):∃r:Int,ai (cf m) 135 (.t (.sl l):: .t (.sl l2)::[.fn (.func 136) [] [.ptr (.arg 0) 0,.ptr (.arg 1) 0]]) [.cells 32 (cF k1 b1 n1 s1 t1 N1 L1),.cells 32 (cF k2 b2 n2 s2 t2 N2 L2)] (.ret (.t (.int .i64 r)) [.cells 32 (cF k1 b1 n1 s1 t1 N1 L1),.cells 32 (cF k2 b2 n2 s2 t2 N2 L2)] []):=by
 obtain⟨Q5,aaI⟩:=QZ m;obtain⟨ev,aI,e_q,aaJ⟩:∃ev,aC (cf m) ev/\Has ev 136 (pk3 [.ptr (.arg 0) 0,.ptr (.arg 1) 0] [.cells 32 (cF k1 b1 n1 s1 t1 N1 L1),.cells 32 (cF k2 b2 n2 s2 t2 N2 L2)] (AtB l l2) λx y z=>.int .i64 (q x y z))/\Has ev 182 (rZ (λx y=>T .int x/\T .int y) (λx y=>.int .i64 (Q5 x y))):=⟨_,(aq (ai2 hq) (aq (dG (λx y h=>(aaI x y h).1)) aF)),au,(az rfl au)⟩;refine AX.start 37 3 Tryz.func135 rfl (by decide) rfl rfl (by decide) ?_;refine AX.frames ?_;refine kl (α:=Nat) ah 0 [] 37 0 [] [.arg 0,.arg 1] [0,1,2,13,14] (λx=>⟨eA 37 [(0,.t (.sl l)),(1,.t (.sl l2)),(2,.fn (.func 136) [] [.ptr (.arg 0) 0,.ptr (.arg 1) 0]),(13,.t (.int .i64 (min ((l.length:Nat):Int) ((l2.length:Nat):Int)))),(14,.t (.int .i64 ((x:Nat):Int)))],[(.arg 0,.cells 32 (cF k1 b1 n1 s1 t1 N1 L1)),(.arg 1,.cells 32 (cF k2 b2 n2 s2 t2 N2 L2))],0⟩) (λx=>(x<=(min l.length l2.length))) (λx=>(min l.length l2.length) - x) 0 (j6 (Tryz.f135.body.getD .skip) 2) [oL .i64 ((l.length:Nat):Int) ((l2.length:Nat):Int)] (by show(0<=(min l.length l2.length));first|trivial|omega|(refine⟨?_, ?_⟩<;>first|omega|exact SM.nil)|simp) (λx hok=> ?_);obtain⟨i_1,zN⟩:∃y,y=x:=⟨x,rfl⟩;subst zN;replace hok:(i_1<=(min l.length l2.length)):=hok;have cI:=hok;rcases aK (decide (((i_1:Nat):Int)<(min ((l.length:Nat):Int) ((l2.length:Nat):Int)))) with cm|cm
 ·have jP:=of_decide_eq_true cm;obtain⟨e3,kR⟩:=dn l i_1;have mY:=(hl2 e3 (fT kR));obtain⟨nX,B4,yM,yN,B5,kE,mZ,rfl,r8,tQ,B6,zP,B7,B8⟩:=T.aD mY;obtain⟨e5,j3⟩:=dn l2 i_1;have lF:=(hm2 e5 (fT j3));obtain⟨cZ,j8,qm,qR,j9,cK,bD,rfl,pX,r9,tR,tS,tT,pY⟩:=T.aD lF;rcases aK (((q (.int .i64 ((i_1:Nat):Int)) (aA nX B4 yM yN B5 kE mZ) (aA cZ j8 qm qR j9 cK bD)) != 0)) with gx|gx
  ·have nW:=dI gx;refine kx ah [oB cm,oE kR,oE j3,oC (ahs e_q (x:=.int .i64 ((i_1:Nat):Int)) (y:=(aA nX B4 yM yN B5 kE mZ)) (z:=(aA cZ j8 qm qR j9 cK bD)) ⟨_,rfl,by omega,fT kR,fT j3⟩),oB gx] ?_;exact⟨(q (.int .i64 ((i_1:Nat):Int)) (aA nX B4 yM yN B5 kE mZ) (aA cZ j8 qm qR j9 cK bD)),kf ah []⟩
  ·have nW:=cg gx;exact⟨.inl ⟨i_1+1,⟨(by show(i_1+1)<=(min l.length l2.length);omega),(by show((min l.length l2.length) - (i_1+1))<((min l.length l2.length) - i_1);omega)⟩⟩,vL ah 0 [] 37 0 [] [.arg 0,.arg 1] [0,1,2,13,14] [oB cm,oE kR,oE j3,oC (ahs e_q (x:=.int .i64 ((i_1:Nat):Int)) (y:=(aA nX B4 yM yN B5 kE mZ)) (z:=(aA cZ j8 qm qR j9 cK bD)) ⟨_,rfl,by omega,fT kR,fT j3⟩),oB gx,oI (i_1) (by omega)]⟩
 ·have jP:=of_decide_eq_false cm;refine kx ah [oB cm] ?_;exact⟨(Q5 (.int .i64 ((l.length:Nat):Int)) (.int .i64 ((l2.length:Nat):Int))),kf ah [oC (eO aaJ (x:=.int .i64 ((l.length:Nat):Int)) (y:=.int .i64 ((l2.length:Nat):Int)) ⟨(.int _),(.int _)⟩)]⟩
end
end Go.Proofs.YtfdnciimclnncaaGreatDoor.w.e
namespace Go.Proofs.YtfdnciimclnncaaGreatDoor.w.e
open Go Go.Abs
set_option maxRecDepth 100000
set_option maxHeartbeats 2000000
noncomputable section
theorem aeM (m:Int)(k1:Int)(b1:Bool)(n1:Int)(s1 t1:List UInt8)(N1 L1:List Tree)(k2:Int)(b2:Bool)(n2:Int)(s2 t2:List UInt8)(N2 L2:List Tree)(hN1:N1.length<=4194304)(ai3:∀y∈N1,T .string y)(hN2:N2.length<=4194304)(ai4:∀y∈N2,T .string y)(j:Nat)(hj:j<4194304)(x y:Tree)(hx:T .av x)(hy:T .av y)(fC:Tree->Tree->Int)(hC:R2 (cf m) 84 x y (.int .i64 (fC x y))):∃r:Int,ai (cf m) 136 (.t (.int .i64 (j:Int)):: .t x:: .t y::[.ptr (.arg 0) 0,.ptr (.arg 1) 0]) [.cells 32 (cF k1 b1 n1 s1 t1 N1 L1),.cells 32 (cF k2 b2 n2 s2 t2 N2 L2)] (.ret (.t (.int .i64 r)) [.cells 32 (cF k1 b1 n1 s1 t1 N1 L1),.cells 32 (cF k2 b2 n2 s2 t2 N2 L2)] []):=by
 have bu:=hx;obtain⟨cL,jX,n_1,s_1,dA,aV,dh,rfl,cT,cQ,gh,dX,fM,fe⟩:=T.aD bu;have dz:=hy;obtain⟨cq,kg,n_2,s_2,jd,cz,dY,rfl,iA,lU,x8,vM,x9,tU⟩:=T.aD dz;obtain⟨lp,tP⟩:=F6 m;obtain⟨ev,aI,zO,e_self⟩:∃ev,aC (cf m) ev/\Has ev 87 (rZ (λx y=>T .string x/\T .string y) (λx y=>.int .i64 (lp x y)))/\Has ev 84 (rZ (λa b=>a=(aA cL jX n_1 s_1 dA aV dh)/\b=(aA cq kg n_2 s_2 jd cz dY)) λa b=>.int .i64 (fC a b)):=⟨_,(aq (dG (λx y h=>(tP x y h).1)) (aq (dG λa b h=>by obtain⟨rfl,rfl⟩:=h;exact hC) aF)),au,(az rfl au)⟩;refine AX.start 45 5 Tryz.func136 rfl (by decide) rfl rfl (by decide) ?_;refine AX.frames ?_;rcases aK (decide (((j:Nat):Int)<(min ((N1.length:Nat):Int) ((N2.length:Nat):Int)))) with hg3|hg3
 ·have F8:=of_decide_eq_true hg3;obtain⟨e4,uF⟩:=dn N1 j;have nV:=(ai3 e4 (fT uF));obtain⟨v_5,rfl,ya⟩:=T.bE nV;obtain⟨e6,he6⟩:=dn N2 j;have B9:=(ai4 e6 (fT he6));obtain⟨v_7,rfl,aaK⟩:=T.bE B9;rcases aK ((!(v_5==v_7))) with iJ|iJ
  ·have zQ:=ne_of_beq_false (wL iJ);have hp9:=(tP (.str v_5) (.str v_7) ⟨nV,B9⟩).2;exact⟨(lp (.str v_5) (.str v_7)),kf ah ([oL .i64 ((N1.length:Nat):Int) ((N2.length:Nat):Int)]++rq 4 (oB hg3) ([oE uF]++rq 5 (oB hg3) ([oE he6,oB hg3,oB hg3,oB hg3,oB iJ,oE uF,oE he6,oC (eO zO (x:=.str v_5) (y:=.str v_7) ⟨nV,B9⟩)])))⟩
  ·have zQ:=eq_of_beq (kJ iJ);exact⟨(fC (aA cL jX n_1 s_1 dA aV dh) (aA cq kg n_2 s_2 jd cz dY)),kf ah ([oL .i64 ((N1.length:Nat):Int) ((N2.length:Nat):Int)]++rq 4 (oB hg3) ([oE uF]++rq 5 (oB hg3) ([oE he6,oB hg3,oB hg3,oB hg3,oB iJ,oC (eO e_self (x:=(aA cL jX n_1 s_1 dA aV dh)) (y:=(aA cq kg n_2 s_2 jd cz dY)) ⟨rfl,rfl⟩)])))⟩
 ·have F8:=of_decide_eq_false hg3;exact⟨(fC (aA cL jX n_1 s_1 dA aV dh) (aA cq kg n_2 s_2 jd cz dY)),kf ah ([oL .i64 ((N1.length:Nat):Int) ((N2.length:Nat):Int)]++rq 12 (oB hg3) ([oF,oC (eO e_self (x:=(aA cL jX n_1 s_1 dA aV dh)) (y:=(aA cq kg n_2 s_2 jd cz dY)) ⟨rfl,rfl⟩)]))⟩
theorem aeN (m:Int)(k1:Int)(b1:Bool)(n1:Int)(s1 t1:List UInt8)(N1 L1:List Tree)(k2:Int)(b2:Bool)(n2:Int)(s2 t2:List UInt8)(N2 L2:List Tree)(hN1:N1.length<=4194304)(ai3:∀y∈N1,T .string y)(hN2:N2.length<=4194304)(ai4:∀y∈N2,T .string y)(hL1:L1.length<=4194304)(aqW:∀y∈L1,T .av y)(hL2:L2.length<=4194304)(aqX:∀y∈L2,T .av y)(h:∀a∈L1,∀b∈L2,∃r:Int,R2 (cf m) 84 a b (.int .i64 r)):∃q:Tree->Tree->Tree->Int,∀x y z,AtB L1 L2 x y z->RK3 (cf m) 136 [.ptr (.arg 0) 0,.ptr (.arg 1) 0] [.cells 32 (cF k1 b1 n1 s1 t1 N1 L1),.cells 32 (cF k2 b2 n2 s2 t2 N2 L2)] x y z (.int .i64 (q x y z)):=by
 obtain⟨fC,hC⟩:=bK (α:=Tree×Tree) (P:=λp=>p.1∈L1/\p.2∈L2) (Q:=λp (r:Int)=>R2 (cf m) 84 p.1 p.2 (.int .i64 r)) λp hp=>h p.1 hp.1 p.2 hp.2
 obtain⟨q,hq⟩:=bK (α:=Tree×Tree×Tree) (P:=λp=>AtB L1 L2 p.1 p.2.1 p.2.2) (Q:=λp (r:Int)=>RK3 (cf m) 136 [.ptr (.arg 0) 0,.ptr (.arg 1) 0] [.cells 32 (cF k1 b1 n1 s1 t1 N1 L1),.cells 32 (cF k2 b2 n2 s2 t2 N2 L2)] p.1 p.2.1 p.2.2 (.int .i64 r)) λp hp=>by
  obtain⟨x,y,z⟩:=p;obtain⟨j,rfl,hj,h1,h2⟩:=hp;exact aeM m k1 b1 n1 s1 t1 N1 L1 k2 b2 n2 s2 t2 N2 L2 hN1 ai3 hN2 ai4 j hj y z (aqW _ h1) (aqX _ h2) (λa b=>fC (a,b)) (hC (y,z) ⟨h1,h2⟩)
 exact⟨λx y z=>q (x,y,z),λx y z h=>hq (x,y,z) h⟩
def lsV:Tree->List Tree
 |.agg [_,_,_,_,_,_,.sl l]=>l
 |_=>[]
theorem ai5 (m:Int)(x y:Tree)(hx:T .av x)(hy:T .av y)(W4:∀a∈lsV x,∀b∈lsV y,∃r:Int,R2 (cf m) 84 a b (.int .i64 r)):∃r:Int,ai (cf m) 84 [.t x,.t y] [] (.ret (.t (.int .i64 r)) [] []):=by
 have bu:=hx;obtain⟨cL,jX,n_1,s_1,dA,aV,dh,rfl,cT,cQ,gh,dX,fM,fe⟩:=T.aD bu;have dz:=hy;obtain⟨cq,kg,n_2,s_2,jd,cz,dY,rfl,iA,lU,x8,vM,x9,tU⟩:=T.aD dz;obtain⟨Q6,aaL⟩:=QT m;obtain⟨Q7,aaM⟩:=QW m;obtain⟨lp,tP⟩:=F6 m;obtain⟨QM,QN⟩:=QL m;obtain⟨qa,hqa⟩:=aeN m cL jX n_1 s_1 dA aV dh cq kg n_2 s_2 jd cz dY bJ dX bJ vM bJ fe bJ tU W4;obtain⟨ra,hra⟩:=aml m cL jX n_1 s_1 dA aV dh cq kg n_2 s_2 jd cz dY qa dh dY bJ fe bJ tU hqa;obtain⟨ev,aI,aaN,aaO,zO,aaE,amm⟩:∃ev,aC (cf m) ev/\Has ev 133 (rZ (λx y=>T .jU x/\T .jU y) (λx y=>.int .i64 (Q6 x y)))/\Has ev 134 (rZ (λx y=>T .int64 x/\T .int64 y) (λx y=>.int .i64 (Q7 x y)))/\Has ev 87 (rZ (λx y=>T .string x/\T .string y) (λx y=>.int .i64 (lp x y)))/\Has ev 86 (mW (λx=>T .Lint x) (λx=>.int .i64 (QM x)))/\Has ev 135 (px (.t (.sl dh):: .t (.sl dY)::[.fn (.func 136) [] [.ptr (.arg 0) 0,.ptr (.arg 1) 0]]) [.cells 32 (cF cL jX n_1 s_1 dA aV dh),.cells 32 (cF cq kg n_2 s_2 jd cz dY)] (.ret (.t (.int .i64 ra)) [.cells 32 (cF cL jX n_1 s_1 dA aV dh),.cells 32 (cF cq kg n_2 s_2 jd cz dY)] [])):=⟨_,(aq (dG (λx y h=>(aaL x y h).1)) (aq (dG (λx y h=>(aaM x y h).1)) (aq (dG (λx y h=>(tP x y h).1)) (aq (bU (λx h=>(QN x h).1)) (aq (fU hra) aF))))),au,(az rfl au),(az rfl (az rfl au)),(az rfl (az rfl (az rfl au))),(az rfl (az rfl (az rfl (az rfl au))))⟩;refine AX.start 67 2 Tryz.func84 rfl (by decide) rfl rfl (by decide) ?_;refine AX.frames ?_;rcases aK ((cL != cq)) with bN|bN
 ·have mX:=dI bN;exact⟨(Q6 (.int .u8 cL) (.int .u8 cq)),kf ah [oB bN,oC (eO aaN (x:=.int .u8 cL) (y:=.int .u8 cq) ⟨(.jU _),(.jU _)⟩)]⟩
 ·have mX:=cg bN;rcases aK ((cL==0)) with gu|gu
  ·have r7:=eq_of_beq gu;rcases aK ((jX==kg)) with ja|ja
   ·have Ca:=eq_of_beq ja;exact⟨0,kf ah [oB bN,oB gu,oB ja]⟩
   ·have Ca:=ne_of_beq_false ja;rcases aK (jX) with nI|nI
    ·exact⟨1,kf ah [oB bN,oB gu,oB ja,oB nI]⟩
    ·exact⟨-1,kf ah [oB bN,oB gu,oB ja,oB nI]⟩
  ·have r7:=ne_of_beq_false gu;rcases aK ((cL==1)) with gx|gx
   ·have nW:=eq_of_beq gx;exact⟨(Q7 (.int .i64 n_1) (.int .i64 n_2)),kf ah [oB bN,oB gu,oB gx,oC (eO aaO (x:=.int .i64 n_1) (y:=.int .i64 n_2) ⟨(.int64 _),(.int64 _)⟩)]⟩
   ·have nW:=ne_of_beq_false gx;rcases aK ((cL==2)) with iJ|iJ
    ·have zQ:=eq_of_beq iJ;have hp9:=(tP (.str s_1) (.str s_2) ⟨(.string _ bJ),(.string _ bJ)⟩).2;exact⟨(lp (.str s_1) (.str s_2)),kf ah [oB bN,oB gu,oB gx,oB iJ,oB iJ,oB iJ,oC (eO zO (x:=.str s_1) (y:=.str s_2) ⟨(.string _ bJ),(.string _ bJ)⟩)]⟩
    ·have zQ:=ne_of_beq_false iJ;rcases aK ((cL==3)) with jC|jC
     ·have DH:=eq_of_beq jC;have ath:=(tP (.str dA) (.str jd) ⟨(.string _ bJ),(.string _ bJ)⟩).2;have ati:=(tP (.str s_1) (.str s_2) ⟨(.string _ bJ),(.string _ bJ)⟩).2;have amn:=(QN (.sl [.int .i64 (lp (.str dA) (.str jd)),.int .i64 (lp (.str s_1) (.str s_2))]) (.Lint _ bJ (bx (.int _) (bx (.int _) (λ_ h=>absurd h (by simp)))))).2;exact⟨(QM (.sl [.int .i64 (lp (.str dA) (.str jd)),.int .i64 (lp (.str s_1) (.str s_2))])),kf ah [oB bN,oB gu,oB gx,oB iJ,oB jC,oB iJ,oC (eO zO (x:=.str dA) (y:=.str jd) ⟨(.string _ bJ),(.string _ bJ)⟩),oC (eO zO (x:=.str s_1) (y:=.str s_2) ⟨(.string _ bJ),(.string _ bJ)⟩),oC (cE aaE (x:=.sl [.int .i64 (lp (.str dA) (.str jd)),.int .i64 (lp (.str s_1) (.str s_2))]) (.Lint _ bJ (bx (.int _) (bx (.int _) (λ_ h=>absurd h (by simp))))))]⟩
     ·have DH:=ne_of_beq_false jC;rcases aK ((cL==4)) with F9|F9
      ·have aaP:=eq_of_beq F9;exact⟨ra,kf ah [oB bN,oB gu,oB gx,oB iJ,oB jC,oB F9,oB F9,oC (jm amm)]⟩
      ·have aaP:=ne_of_beq_false F9;rcases aK ((cL==5)) with eY|eY
       ·have DI:=eq_of_beq eY;exact⟨ra,kf ah [oB bN,oB gu,oB gx,oB iJ,oB jC,oB F9,oB eY,oC (jm amm)]⟩
       ·have DI:=ne_of_beq_false eY;exact⟨0,kf ah [oB bN,oB gu,oB gx,oB iJ,oB jC,oB F9,oB eY]⟩
theorem Q8 (m:Int):∃F:Tree->Tree->Int,∀x y,T .av x/\T .av y->R2 (cf m) 84 x y (.int .i64 (F x y)):=by
 have key:∀(k:K) (x:Tree),T k x->k=.av->∀y,T .av y->∃r:Int,R2 (cf m) 84 x y (.int .i64 r):=by
  intro k x h;induction h with
  |av k1 b1 n1 s1 t1 N1 L1 hs ht h0 h1 h2 h3 _ ih=>exactλ_ y hy=>ai5 m _ y (.av k1 b1 n1 s1 t1 N1 L1 hs ht h0 h1 h2 h3) hy λa ha b hb=>ih a ha rfl b (by obtain⟨k2,b2,n2,s2,t2,N2,L2,rfl,_,_,_,_,_,g3⟩:=T.aD hy;exact g3 b hb)
  |_=>exactλe=>(by cases e)
 exact zM (Tree.int .i64) λb x h=>key _ b h.1 rfl x h.2
theorem aaQ (m:Int):∃F:Tree->Int,∀x,(T .int64 x)->R1 (cf m) 219 x (.int .u64 (F x))/\(True):=by
 refine BV (P:=λx=>T .int64 x) (mk:=λ(r:Int)=>.int .u64 r) (Post:=λx r=>True) λx hx=> ?_
 show ∃r:{r:Int // True},ai (cf m) 219 [.t x] [] (.ret (.t (.int .u64 r.1)) [] []);have bu:=hx;obtain⟨v_1,rfl⟩:=T.ov bu;obtain⟨ev,aI⟩:∃ev,aC (cf m) ev:=⟨_,aF⟩;refine AX.start 10 1 Tryz.func219 rfl (by decide) rfl rfl (by decide) ?_;refine AX.frames ?_;rcases aK (decide (v_1<0)) with cm|cm
 ·have jP:=of_decide_eq_true cm;refine⟨⟨(IntKind.wrap .u64 (0 - ((IntKind.wrap .u64 v_1)))), ?_⟩,kf ah [oB cm,oZ]⟩;trivial
 ·have jP:=of_decide_eq_false cm;refine⟨⟨(IntKind.wrap .u64 v_1), ?_⟩,kf ah [oB cm,oZ]⟩;trivial
theorem aaR (m:Int)(k1:Int)(b1:Bool)(n1:Int)(s1 t1:List UInt8)(hs1:s1.length<=4194304)(ht1:t1.length<=4194304)(ns ks:List Tree)(ln:ns.length<=4194304)(Yo:∀y∈ns,T .string y)(lk:ks.length<=4194304)(hks:∀y∈ks,T .av y)(fS:Tree->Int×Int×Bool)(hS:∀y∈ks,ai (cf m) 42 [.t y] [] (.ret (.t (.cG [.int .i64 (fS y).1,.int .i64 (fS y).2.1,.bool (fS y).2.2])) [] [])):∃r:Int×Int×Bool,ai (cf m) 42 [.t (aA k1 b1 n1 s1 t1 ns ks)] [] (.ret (.t (.cG [.int .i64 r.1,.int .i64 r.2.1,.bool r.2.2])) [] []):=by
 obtain⟨DC,TP⟩:=x7 m;obtain⟨wW,zR⟩:=wV m;obtain⟨amo,aqY⟩:=Q8 m;obtain⟨ev,aI,F5,A7,e_self,J6⟩:∃ev,aC (cf m) ev/\Has ev 41 (mW (λx=>PS x) (λx=>.bool (DC x)))/\Has ev 22 (mW (λx=>T .aB x) (λx=>.int .i64 (wW x)))/\Has ev 42 (mW (λy=>y∈ks) λy=>.cG [.int .i64 (fS y).1,.int .i64 (fS y).2.1,.bool (fS y).2.2])/\Has ev 84 (rZ (λx y=>T .av x/\T .av y) (λx y=>.int .i64 (amo x y))):=⟨_,(aq (bU (λx h=>(TP x h))) (aq (bU (λx h=>(zR x h).1)) (aq (bU hS) (aq (dG (λx y h=>(aqY x y h))) aF)))),au,(az rfl au),(az rfl (az rfl au)),(az rfl (az rfl (az rfl au)))⟩;refine AX.start 220 1 Tryz.func42 rfl (by decide) rfl rfl (by decide) ?_;refine AX.frames ?_;refine Vy (f:=0) ah aI (α:=Bool×Bool×Int×List UInt8×List UInt8) (λx=>⟨eA 220 [(1,.ptr (.loc [0]) 0),(2,.t (.int .i64 0)),(3,.t (.int .i64 0)),(4,.t (.bool x.1)),(5,.ptr (.loc [1]) 0)],[(.loc [0],.cells 32 (cF k1 b1 n1 s1 t1 ns ks)),(.loc [1],.cells 32 [.t (.int .u8 k1),.t (.bool x.2.1),.t (.int .i64 x.2.2.1),.t (.str x.2.2.2.1),.t (.str x.2.2.2.2),.bX,.bX])],2⟩) (λx=>(x.1=true->k1=5->ns.length=ks.length)) 2 (n:=3000) (once:=[]) (k:=220) (T:=2) (S:=[.loc [0],.loc [7]]) (ks:=[.loc [0],.loc [7]]) (live:=[1,2,3,4,5]) (aeI (Tryz.f42.body.getD .skip) 15) (⟨eA 220 [(1,.ptr (.loc [0]) 0),(2,.t (.int .i64 0)),(3,.t (.int .i64 0)),(4,.t (.bool false)),(5,.ptr (.loc [1]) 0)],[(.loc [0],.cells 32 (cF k1 b1 n1 s1 t1 ns ks)),(.loc [1],.cells 32 [.t (.int .u8 k1),.t (.bool false),.t (.int .i64 0),.t (.str []),.t (.str []),.bX,.bX])],2⟩) [] (by kernel_rfl) ?_ ?_
 ·rcases aK ((k1==0)) with cm|cm
  ·have jP:=eq_of_beq cm;exact⟨.inl ⟨⟨true,b1,0,[],[]⟩,(by intro h1 h2;first|omega|(have:=eq_of_beq h1;omega))⟩,kr ah 220 2 [.loc [0],.loc [1]] [1,2,3,4,5] [oB cm]⟩
  ·have jP:=ne_of_beq_false cm;rcases aK ((k1==1)) with bN|bN
   ·have mX:=eq_of_beq bN;exact⟨.inl ⟨⟨true,false,n1,[],[]⟩,(by intro h1 h2;first|omega|(have:=eq_of_beq h1;omega))⟩,kr ah 220 2 [.loc [0],.loc [1]] [1,2,3,4,5] [oB cm,oB bN]⟩
   ·have mX:=ne_of_beq_false bN;rcases aK ((k1==2)) with gu|gu
    ·have r7:=eq_of_beq gu;rcases aK (decide (((s1.length:Nat):Int)<=256)) with mI|mI
     ·have J7:=of_decide_eq_true mI;exact⟨.inl ⟨⟨(DC (.str s1)),false,0,s1,[]⟩,(by intro h1 h2;first|omega|(have:=eq_of_beq h1;omega))⟩,kr ah 220 2 [.loc [0],.loc [1]] [1,2,3,4,5] [oB cm,oB bN,oB gu,oB mI,oB mI,oB mI,oC (cE F5 (x:=.str s1) ⟨_,rfl⟩),oB mI]⟩
     ·have J7:=of_decide_eq_false mI;exact⟨.inl ⟨⟨false,false,0,s1,[]⟩,(by intro h1 h2;first|omega|(have:=eq_of_beq h1;omega))⟩,kr ah 220 2 [.loc [0],.loc [1]] [1,2,3,4,5] ([oB cm,oB bN,oB gu]++rq 4 (oB mI) ([]))⟩
    ·have r7:=ne_of_beq_false gu;rcases aK ((k1==3)) with nI|nI
     ·have F7:=eq_of_beq nI;have hp7:=(zR (.agg [.str t1,.str s1]) (.aB _ _ bJ bJ)).2;exact⟨.inl ⟨⟨((wW (.agg [.str t1,.str s1]))==0),false,0,s1,t1⟩,(by intro h1 h2;first|omega|(have:=eq_of_beq h1;omega))⟩,kr ah 220 2 [.loc [0],.loc [1]] [1,2,3,4,5] [oB cm,oB bN,oB gu,oB nI,oC (cE A7 (x:=.agg [.str t1,.str s1]) (.aB _ _ bJ bJ))]⟩
     ·have F7:=ne_of_beq_false nI;rcases aK ((k1==4)) with iJ|iJ
      ·have zQ:=eq_of_beq iJ;exact⟨.inl ⟨⟨(((ns.length:Nat):Int)==0),false,0,[],[]⟩,(by intro h1 h2;first|omega|(have:=eq_of_beq h1;omega))⟩,kr ah 220 2 [.loc [0],.loc [1]] [1,2,3,4,5] [oB cm,oB bN,oB gu,oB nI,oB iJ]⟩
      ·have zQ:=ne_of_beq_false iJ;rcases aK ((k1==5)) with nU|nU
       ·have Ga:=eq_of_beq nU;exact⟨.inl ⟨⟨(((ns.length:Nat):Int)==((ks.length:Nat):Int)),false,0,[],[]⟩,(by intro h1 h2;first|omega|(have:=eq_of_beq h1;omega))⟩,kr ah 220 2 [.loc [0],.loc [1]] [1,2,3,4,5] [oB cm,oB bN,oB gu,oB nI,oB iJ,oB nU]⟩
       ·have Ga:=ne_of_beq_false nU;exact⟨.inl ⟨⟨false,false,0,[],[]⟩,(by intro h1 h2;first|omega|(have:=eq_of_beq h1;omega))⟩,kr ah 220 2 [.loc [0],.loc [1]] [1,2,3,4,5] [oB cm,oB bN,oB gu,oB nI,oB iJ,oB nU]⟩
 ·rintro ⟨aaS,DJ,DK,DL,DM⟩ hok;replace hok:(aaS=true->k1=5->ns.length=ks.length):=hok;have cI:=hok;refine Vy (f:=0) ah aI (α:=Bool) (λx=>⟨eA 220 [(1,.ptr (.loc [0]) 0),(2,.t (.int .i64 0)),(3,.t (.int .i64 0)),(4,.t (.bool aaS)),(5,.ptr (.loc [1]) 0),(6,.t (.bool x))],[(.loc [0],.cells 32 (cF k1 b1 n1 s1 t1 ns ks)),(.loc [1],.cells 32 [.t (.int .u8 k1),.t (.bool DJ),.t (.int .i64 DK),.t (.str DL),.t (.str DM),.bX,.bX])],2⟩) (λx=>True) 15 (n:=3000) (once:=[]) (k:=220) (T:=2) (S:=[.loc [0],.loc [1]]) (ks:=[.loc [0],.loc [1]]) (live:=[1,2,3,4,5]) (aeI (Tryz.f42.body.getD .skip) 16) (⟨eA 220 [(1,.ptr (.loc [0]) 0),(2,.t (.int .i64 0)),(3,.t (.int .i64 0)),(4,.t (.bool aaS)),(5,.ptr (.loc [1]) 0)],[(.loc [0],.cells 32 (cF k1 b1 n1 s1 t1 ns ks)),(.loc [1],.cells 32 [.t (.int .u8 k1),.t (.bool DJ),.t (.int .i64 DK),.t (.str DL),.t (.str DM),.bX,.bX])],2⟩) [] (by kernel_rfl) ?_ ?_
  ·rcases aK ((k1==4)) with gC|gC
   ·have Q9:=eq_of_beq gC;exact⟨.inl ⟨true,trivial⟩,kr ah 220 2 [.loc [0],.loc [1]] [1,2,3,4,5,6] (rq 4 (oB gC) ([]))⟩
   ·have Q9:=ne_of_beq_false gC;exact⟨.inl ⟨(k1==5),trivial⟩,kr ah 220 2 [.loc [0],.loc [1]] [1,2,3,4,5,6] (rq 4 (oB gC) ([]))⟩
  ·intro aht hok;refine Vy (f:=0) ah aI (α:=Bool) (λx=>⟨eA 220 [(1,.ptr (.loc [0]) 0),(2,.t (.int .i64 0)),(3,.t (.int .i64 0)),(4,.t (.bool x))],[(.loc [0],.cells 32 (cF k1 b1 n1 s1 t1 ns ks))],1⟩) (λx=>(x=true->k1=5->ns.length=ks.length)) 16 (n:=3000) (once:=[]) (k:=220) (T:=2) (S:=[.loc [0],.loc [1]]) (ks:=[.loc [0],.loc [1]]) (live:=[1,2,3,4,5,6]) (aeI (Tryz.f42.body.getD .skip) 17) (⟨eA 220 [(1,.ptr (.loc [0]) 0),(2,.t (.int .i64 0)),(3,.t (.int .i64 0)),(4,.t (.bool aaS)),(5,.ptr (.loc [1]) 0),(6,.t (.bool aht))],[(.loc [0],.cells 32 (cF k1 b1 n1 s1 t1 ns ks)),(.loc [1],.cells 32 [.t (.int .u8 k1),.t (.bool DJ),.t (.int .i64 DK),.t (.str DL),.t (.str DM),.bX,.bX])],2⟩) [] (by kernel_rfl) ?_ ?_
   ·rcases aK (aaS) with gq|gq
    ·rcases aK ((b1==DJ)) with jD|jD
     ·have J8:=eq_of_beq jD;rcases aK ((n1==DK)) with eM|eM
      ·have Ra:=eq_of_beq eM;rcases aK ((s1==DL)) with iF|iF
       ·have Rb:=eq_of_beq iF;rcases aK ((t1==DM)) with lg|lg
        ·have amq:=eq_of_beq lg;rcases aK (aht) with qu|qu
         ·exact⟨.inl ⟨decide (((ks.length:Nat):Int)<=16),(by intro h1 h2;first|exact cI (by assumption) h2|exact absurd h1 (by decide))⟩,kr ah 220 1 [.loc [0]] [1,2,3,4] (rq 6 (oB gq) (rq 6 (oB jD) (rq 6 (oB eM) (rq 6 (oB iF) ([oB lg,oB lg]++rq 8 (oB qu) ([oB lg,oB qu,oB lg]++rq 5 oT ([])))))))⟩
         ·rcases aK ((((ks.length+ns.length:Nat):Int)==0)) with mH|mH
          ·have amr:=eq_of_beq mH;exact⟨.inl ⟨decide (((ks.length:Nat):Int)<=16),(by intro h1 h2;first|exact cI (by assumption) h2|exact absurd h1 (by decide))⟩,kr ah 220 1 [.loc [0]] [1,2,3,4] (rq 6 (oB gq) (rq 6 (oB jD) (rq 6 (oB eM) (rq 6 (oB iF) ([oB lg,oB lg]++rq 7 (oB qu) ([Il ks.length ns.length (by first|omega|(simp;omega)),oB qu,oB lg,oB qu,oB lg]++rq 5 (oB mH) ([])))))))⟩
          ·have amr:=ne_of_beq_false mH;exact⟨.inl ⟨false,(by intro h1 h2;first|exact cI (by assumption) h2|exact absurd h1 (by decide))⟩,kr ah 220 1 [.loc [0]] [1,2,3,4] (rq 6 (oB gq) (rq 6 (oB jD) (rq 6 (oB eM) (rq 6 (oB iF) ([oB lg,oB lg]++rq 7 (oB qu) ([Il ks.length ns.length (by first|omega|(simp;omega)),oB qu,oB lg,oB qu,oB lg]++rq 5 (oB mH) ([])))))))⟩
        ·have amq:=ne_of_beq_false lg;exact⟨.inl ⟨false,(by intro h1 h2;first|exact cI (by assumption) h2|exact absurd h1 (by decide))⟩,kr ah 220 1 [.loc [0]] [1,2,3,4] (rq 6 (oB gq) (rq 6 (oB jD) (rq 6 (oB eM) (rq 6 (oB iF) (rq 4 (oB lg) (rq 5 oF ([])))))))⟩
       ·have Rb:=ne_of_beq_false iF;exact⟨.inl ⟨false,(by intro h1 h2;first|exact cI (by assumption) h2|exact absurd h1 (by decide))⟩,kr ah 220 1 [.loc [0]] [1,2,3,4] (rq 6 (oB gq) (rq 6 (oB jD) (rq 6 (oB eM) (rq 6 (oB iF) (rq 9 oF ([]))))))⟩
      ·have Ra:=ne_of_beq_false eM;exact⟨.inl ⟨false,(by intro h1 h2;first|exact cI (by assumption) h2|exact absurd h1 (by decide))⟩,kr ah 220 1 [.loc [0]] [1,2,3,4] (rq 6 (oB gq) (rq 6 (oB jD) (rq 6 (oB eM) (rq 15 oF ([])))))⟩
     ·have J8:=ne_of_beq_false jD;exact⟨.inl ⟨false,(by intro h1 h2;first|exact cI (by assumption) h2|exact absurd h1 (by decide))⟩,kr ah 220 1 [.loc [0]] [1,2,3,4] (rq 6 (oB gq) (rq 6 (oB jD) (rq 21 oF ([]))))⟩
    ·exact⟨.inl ⟨false,(by intro h1 h2;first|exact cI (by assumption) h2|exact absurd h1 (by decide))⟩,kr ah 220 1 [.loc [0]] [1,2,3,4] (rq 6 (oB gq) (rq 27 oF ([])))⟩
   ·intro ahu hok;replace hok:(ahu=true->k1=5->ns.length=ks.length):=hok;have aaT:=hok;refine kl (α:=Nat×Int×Int×Bool) ah 0 [] 220 1 [.loc [0]] [.loc [0]] [1,2,3,4,7] (λx=>⟨eA 220 [(1,.ptr (.loc [0]) 0),(2,.t (.int .i64 x.2.1)),(3,.t (.int .i64 x.2.2.1)),(4,.t (.bool x.2.2.2)),(7,.t (.int .i64 ((x.1:Nat):Int)))],[(.loc [0],.cells 32 (cF k1 b1 n1 s1 t1 ns ks))],1⟩) (λx=>(x.1<=ks.length)/\(k1=5->(x.2.2.2=true\/0<x.1)->ns.length=ks.length)) (λx=>ks.length - x.1) (⟨0,0,0,ahu⟩) (j6 (Tryz.f42.body.getD .skip) 18) [] ⟨Nat.zero_le _,λh1 h2=>aaT (h2.resolve_right (by simp)) h1⟩ (λx hok=> ?_);obtain⟨nY,iX,pZ,VB⟩:=x;replace hok:(nY<=ks.length)/\(k1=5->(VB=true\/0<nY)->ns.length=ks.length):=hok;obtain⟨aaU,DN⟩:=hok;rcases aK (VB) with J9|J9
    ·rcases aK (decide (((nY:Nat):Int)<((ks.length:Nat):Int))) with HO|HO
     ·have aaV:=of_decide_eq_true HO;refine Vy (f:=0) ah aI (α:=Int×Int×Bool) (λx=>⟨eA 220 [(1,.ptr (.loc [0]) 0),(2,.t (.int .i64 x.1)),(3,.t (.int .i64 x.2.1)),(4,.t (.bool x.2.2)),(7,.t (.int .i64 ((nY:Nat):Int)))],[(.loc [0],.cells 32 (cF k1 b1 n1 s1 t1 ns ks))],1⟩) (λx=>True) 20 (n:=3000) (once:=[]) (k:=220) (T:=1) (S:=[.loc [0]]) (ks:=[.loc [0]]) (live:=[1,2,3,7]) (aeI (Tryz.f42.body.getD .skip) 19) (⟨eA 220 [(1,.ptr (.loc [0]) 0),(2,.t (.int .i64 iX)),(3,.t (.int .i64 pZ)),(7,.t (.int .i64 ((nY:Nat):Int)))],[(.loc [0],.cells 32 (cF k1 b1 n1 s1 t1 ns ks))],1⟩) (rq 6 (oB J9) ([oB HO])) (by kernel_rfl) ?_ ?_
      ·obtain⟨e24,yb⟩:=dn ks nY;have ahv:=(hks e24 (fT yb));obtain⟨bL,eC,iG,iH,eD,bt,bM,rfl,apB,apC,apD,apE,apF,apG⟩:=T.aD ahv;have A8:=cE e_self (x:=(aA bL eC iG iH eD bt bM)) (fT yb);rcases aK (decide (((nY:Nat):Int)>0)) with yc|yc
       ·have ams:=of_decide_eq_true yc;rcases aK ((k1==4)) with yd|yd
        ·have aaW:=eq_of_beq yd;rcases aK ((fS (aA bL eC iG iH eD bt bM)).2.2) with Cb|Cb
         ·obtain⟨e29,amt⟩:=dn ks (nY - 1);have ahw:=(hks e29 (fT amt));obtain⟨VC,ahx,amu,amv,ahy,Rc,VD,rfl,apH,apI,apJ,apK,apL,apM⟩:=T.aD ahw;exact⟨.inl ⟨⟨(max iX ((fS (aA bL eC iG iH eD bt bM)).1)),(IntKind.wrap .i64 (pZ+(fS (aA bL eC iG iH eD bt bM)).2.1)),decide ((amo (aA VC ahx amu amv ahy Rc VD) (aA bL eC iG iH eD bt bM))<0)⟩,trivial⟩,kr ah 220 1 [.loc [0]] [1,2,3,4,7] ([oE yb,oC A8,oG .i64 iX ((fS (aA bL eC iG iH eD bt bM)).1),oZ]++rq 4 (oB yc) ([oB yd]++rq 4 (oB Cb) ([oS (nY) (by omega) (by omega),oB Cb,oE amt]++rq 5 (oB Cb) ([oE yb,oB Cb,oB Cb,oC (eO J6 (x:=(aA VC ahx amu amv ahy Rc VD)) (y:=(aA bL eC iG iH eD bt bM)) ⟨ahw,ahv⟩),oB Cb,oB Cb]))))⟩
         ·exact⟨.inl ⟨⟨(max iX ((fS (aA bL eC iG iH eD bt bM)).1)),(IntKind.wrap .i64 (pZ+(fS (aA bL eC iG iH eD bt bM)).2.1)),false⟩,trivial⟩,kr ah 220 1 [.loc [0]] [1,2,3,4,7] ([oE yb,oC A8,oG .i64 iX ((fS (aA bL eC iG iH eD bt bM)).1),oZ]++rq 4 (oB yc) ([oB yd]++rq 14 (oB Cb) ([])))⟩
        ·have aaW:=ne_of_beq_false yd;rcases aK ((k1==5)) with Lu|Lu
         ·have amw:=eq_of_beq Lu;have hln:=DN (by first|assumption|omega) (.inl (by assumption));obtain⟨e32,TR⟩:=dn ns nY;have amx:=(Yo e32 (fT TR));obtain⟨TS,rfl,apN⟩:=T.bE amx;rcases aK ((fS (aA bL eC iG iH eD bt bM)).2.2) with ye|ye
          ·rcases aK ((!(TS==[]))) with Gb|Gb
           ·have amy:=ne_of_beq_false (wL Gb);rcases aK (decide (((TS.length:Nat):Int)<=64)) with vN|vN
            ·have aaX:=of_decide_eq_true vN;rcases aK ((DC (.str TS))) with HP|HP
             ·rcases aK ((((nY:Nat):Int)==0)) with A9|A9
              ·have amz:=eq_of_beq A9;exact⟨.inl ⟨⟨(max iX ((fS (aA bL eC iG iH eD bt bM)).1)),(IntKind.wrap .i64 (pZ+(fS (aA bL eC iG iH eD bt bM)).2.1)),true⟩,trivial⟩,kr ah 220 1 [.loc [0]] [1,2,3,4,7] ([oE yb,oC A8,oG .i64 iX ((fS (aA bL eC iG iH eD bt bM)).1),oZ]++rq 4 (oB yc) ([oB yd,oB Lu,oE TR,oB ye,oB ye,oB ye]++rq 4 (oB Gb) ([oB vN,oB vN,oC (cE F5 (x:=.str TS) ⟨_,rfl⟩),oB vN,oB HP,oB HP,oB HP]++rq 8 (oB A9) ([oB HP,oB A9,oB HP]))))⟩
              ·have amz:=ne_of_beq_false A9;obtain⟨e39,amA⟩:=dn ns (nY - 1);have amB:=(Yo e39 (fT amA));obtain⟨aqZ,rfl,apO⟩:=T.bE amB;exact⟨.inl ⟨⟨(max iX ((fS (aA bL eC iG iH eD bt bM)).1)),(IntKind.wrap .i64 (pZ+(fS (aA bL eC iG iH eD bt bM)).2.1)),(jx aqZ TS)⟩,trivial⟩,kr ah 220 1 [.loc [0]] [1,2,3,4,7] ([oE yb,oC A8,oG .i64 iX ((fS (aA bL eC iG iH eD bt bM)).1),oZ]++rq 4 (oB yc) ([oB yd,oB Lu,oE TR,oB ye,oB ye,oB ye]++rq 4 (oB Gb) ([oB vN,oB vN,oC (cE F5 (x:=.str TS) ⟨_,rfl⟩),oB vN,oB HP,oB HP,oB HP]++rq 4 (oB A9) ([oS (nY) (by omega) (by omega),oB A9,oE amA,oB A9,oB A9,oB A9,oB HP,oB A9,oB HP]))))⟩
             ·exact⟨.inl ⟨⟨(max iX ((fS (aA bL eC iG iH eD bt bM)).1)),(IntKind.wrap .i64 (pZ+(fS (aA bL eC iG iH eD bt bM)).2.1)),false⟩,trivial⟩,kr ah 220 1 [.loc [0]] [1,2,3,4,7] ([oE yb,oC A8,oG .i64 iX ((fS (aA bL eC iG iH eD bt bM)).1),oZ]++rq 4 (oB yc) ([oB yd,oB Lu,oE TR,oB ye,oB ye,oB ye]++rq 4 (oB Gb) ([oB vN,oB vN,oC (cE F5 (x:=.str TS) ⟨_,rfl⟩),oB vN]++rq 5 (oB HP) ([]))))⟩
            ·have aaX:=of_decide_eq_false vN;exact⟨.inl ⟨⟨(max iX ((fS (aA bL eC iG iH eD bt bM)).1)),(IntKind.wrap .i64 (pZ+(fS (aA bL eC iG iH eD bt bM)).2.1)),false⟩,trivial⟩,kr ah 220 1 [.loc [0]] [1,2,3,4,7] ([oE yb,oC A8,oG .i64 iX ((fS (aA bL eC iG iH eD bt bM)).1),oZ]++rq 4 (oB yc) ([oB yd,oB Lu,oE TR,oB ye,oB ye,oB ye]++rq 4 (oB Gb) ([oB vN,oB vN,oB vN]++rq 5 oF ([]))))⟩
           ·have amy:=eq_of_beq (kJ Gb);exact⟨.inl ⟨⟨(max iX ((fS (aA bL eC iG iH eD bt bM)).1)),(IntKind.wrap .i64 (pZ+(fS (aA bL eC iG iH eD bt bM)).2.1)),false⟩,trivial⟩,kr ah 220 1 [.loc [0]] [1,2,3,4,7] ([oE yb,oC A8,oG .i64 iX ((fS (aA bL eC iG iH eD bt bM)).1),oZ]++rq 4 (oB yc) ([oB yd,oB Lu,oE TR,oB ye,oB ye,oB ye]++rq 4 (oB Gb) (rq 8 oF ([]))))⟩
          ·exact⟨.inl ⟨⟨(max iX ((fS (aA bL eC iG iH eD bt bM)).1)),(IntKind.wrap .i64 (pZ+(fS (aA bL eC iG iH eD bt bM)).2.1)),false⟩,trivial⟩,kr ah 220 1 [.loc [0]] [1,2,3,4,7] ([oE yb,oC A8,oG .i64 iX ((fS (aA bL eC iG iH eD bt bM)).1),oZ]++rq 4 (oB yc) ([oB yd,oB Lu,oE TR,oB ye,oB ye,oB ye]++rq 12 oF ([])))⟩
         ·have amw:=ne_of_beq_false Lu;exact⟨.inl ⟨⟨(max iX ((fS (aA bL eC iG iH eD bt bM)).1)),(IntKind.wrap .i64 (pZ+(fS (aA bL eC iG iH eD bt bM)).2.1)),(fS (aA bL eC iG iH eD bt bM)).2.2⟩,trivial⟩,kr ah 220 1 [.loc [0]] [1,2,3,4,7] ([oE yb,oC A8,oG .i64 iX ((fS (aA bL eC iG iH eD bt bM)).1),oZ]++rq 4 (oB yc) ([oB yd,oB Lu]))⟩
       ·have ams:=of_decide_eq_false yc;rcases aK ((k1==5)) with Lv|Lv
        ·have amC:=eq_of_beq Lv;have hln:=DN (by first|assumption|omega) (.inl (by assumption));obtain⟨e42,TT⟩:=dn ns nY;have amD:=(Yo e42 (fT TT));obtain⟨TU,rfl,apP⟩:=T.bE amD;rcases aK ((fS (aA bL eC iG iH eD bt bM)).2.2) with sg|sg
         ·rcases aK ((!(TU==[]))) with jO|jO
          ·have amE:=ne_of_beq_false (wL jO);rcases aK (decide (((TU.length:Nat):Int)<=64)) with vO|vO
           ·have aaY:=of_decide_eq_true vO;rcases aK ((DC (.str TU))) with HQ|HQ
            ·rcases aK ((((nY:Nat):Int)==0)) with zS|zS
             ·have aaZ:=eq_of_beq zS;exact⟨.inl ⟨⟨(max iX ((fS (aA bL eC iG iH eD bt bM)).1)),(IntKind.wrap .i64 (pZ+(fS (aA bL eC iG iH eD bt bM)).2.1)),true⟩,trivial⟩,kr ah 220 1 [.loc [0]] [1,2,3,4,7] ([oE yb,oC A8,oG .i64 iX ((fS (aA bL eC iG iH eD bt bM)).1),oZ]++rq 4 (oB yc) ([oF,oB Lv,oE TT,oB sg,oB sg,oB sg]++rq 4 (oB jO) ([oB vO,oB vO,oC (cE F5 (x:=.str TU) ⟨_,rfl⟩),oB vO,oB HQ,oB HQ,oB HQ]++rq 8 (oB zS) ([oB HQ,oB zS,oB HQ]))))⟩
             ·have aaZ:=ne_of_beq_false zS;obtain⟨e49,amF⟩:=dn ns (nY - 1);have amG:=(Yo e49 (fT amF));obtain⟨aq0,rfl,apQ⟩:=T.bE amG;exact⟨.inl ⟨⟨(max iX ((fS (aA bL eC iG iH eD bt bM)).1)),(IntKind.wrap .i64 (pZ+(fS (aA bL eC iG iH eD bt bM)).2.1)),(jx aq0 TU)⟩,trivial⟩,kr ah 220 1 [.loc [0]] [1,2,3,4,7] ([oE yb,oC A8,oG .i64 iX ((fS (aA bL eC iG iH eD bt bM)).1),oZ]++rq 4 (oB yc) ([oF,oB Lv,oE TT,oB sg,oB sg,oB sg]++rq 4 (oB jO) ([oB vO,oB vO,oC (cE F5 (x:=.str TU) ⟨_,rfl⟩),oB vO,oB HQ,oB HQ,oB HQ]++rq 4 (oB zS) ([oS (nY) (by omega) (by omega),oB zS,oE amF,oB zS,oB zS,oB zS,oB HQ,oB zS,oB HQ]))))⟩
            ·exact⟨.inl ⟨⟨(max iX ((fS (aA bL eC iG iH eD bt bM)).1)),(IntKind.wrap .i64 (pZ+(fS (aA bL eC iG iH eD bt bM)).2.1)),false⟩,trivial⟩,kr ah 220 1 [.loc [0]] [1,2,3,4,7] ([oE yb,oC A8,oG .i64 iX ((fS (aA bL eC iG iH eD bt bM)).1),oZ]++rq 4 (oB yc) ([oF,oB Lv,oE TT,oB sg,oB sg,oB sg]++rq 4 (oB jO) ([oB vO,oB vO,oC (cE F5 (x:=.str TU) ⟨_,rfl⟩),oB vO]++rq 5 (oB HQ) ([]))))⟩
           ·have aaY:=of_decide_eq_false vO;exact⟨.inl ⟨⟨(max iX ((fS (aA bL eC iG iH eD bt bM)).1)),(IntKind.wrap .i64 (pZ+(fS (aA bL eC iG iH eD bt bM)).2.1)),false⟩,trivial⟩,kr ah 220 1 [.loc [0]] [1,2,3,4,7] ([oE yb,oC A8,oG .i64 iX ((fS (aA bL eC iG iH eD bt bM)).1),oZ]++rq 4 (oB yc) ([oF,oB Lv,oE TT,oB sg,oB sg,oB sg]++rq 4 (oB jO) ([oB vO,oB vO,oB vO]++rq 5 oF ([]))))⟩
          ·have amE:=eq_of_beq (kJ jO);exact⟨.inl ⟨⟨(max iX ((fS (aA bL eC iG iH eD bt bM)).1)),(IntKind.wrap .i64 (pZ+(fS (aA bL eC iG iH eD bt bM)).2.1)),false⟩,trivial⟩,kr ah 220 1 [.loc [0]] [1,2,3,4,7] ([oE yb,oC A8,oG .i64 iX ((fS (aA bL eC iG iH eD bt bM)).1),oZ]++rq 4 (oB yc) ([oF,oB Lv,oE TT,oB sg,oB sg,oB sg]++rq 4 (oB jO) (rq 8 oF ([]))))⟩
         ·exact⟨.inl ⟨⟨(max iX ((fS (aA bL eC iG iH eD bt bM)).1)),(IntKind.wrap .i64 (pZ+(fS (aA bL eC iG iH eD bt bM)).2.1)),false⟩,trivial⟩,kr ah 220 1 [.loc [0]] [1,2,3,4,7] ([oE yb,oC A8,oG .i64 iX ((fS (aA bL eC iG iH eD bt bM)).1),oZ]++rq 4 (oB yc) ([oF,oB Lv,oE TT,oB sg,oB sg,oB sg]++rq 12 oF ([])))⟩
        ·have amC:=ne_of_beq_false Lv;exact⟨.inl ⟨⟨(max iX ((fS (aA bL eC iG iH eD bt bM)).1)),(IntKind.wrap .i64 (pZ+(fS (aA bL eC iG iH eD bt bM)).2.1)),(fS (aA bL eC iG iH eD bt bM)).2.2⟩,trivial⟩,kr ah 220 1 [.loc [0]] [1,2,3,4,7] ([oE yb,oC A8,oG .i64 iX ((fS (aA bL eC iG iH eD bt bM)).1),oZ]++rq 4 (oB yc) ([oF,oB Lv]))⟩
      ·rintro ⟨amH,amI,amJ⟩ hok;exact⟨.inl ⟨⟨nY+1,amH,amI,amJ⟩,⟨⟨(by show(nY+1)<=ks.length;omega),(λh1 _=>DN h1 (.inl (by assumption)))⟩,(by show(ks.length - (nY+1))<(ks.length - nY);omega)⟩⟩,kr ah 220 1 [.loc [0]] [1,2,3,4,7] [oI (nY) (by omega)]⟩
     ·have aaV:=of_decide_eq_false HO;refine kx ah (rq 6 (oB J9) ([oB HO])) ?_;exact⟨((IntKind.wrap .i64 (iX+1)),(IntKind.wrap .i64 (pZ+1)),VB),kf ah [oZ,oZ]⟩
    ·refine kx ah (rq 6 (oB J9) ([oF])) ?_;exact⟨((IntKind.wrap .i64 (iX+1)),(IntKind.wrap .i64 (pZ+1)),VB),kf ah [oZ,oZ]⟩
theorem TW (m:Int):∃F:Tree->Int×Int×Bool,∀x,T .av x->R1 (cf m) 42 x (.cG [.int .i64 (F x).1,.int .i64 (F x).2.1,.bool (F x).2.2]):=by
 have key:∀(k:K) (x:Tree),T k x->k=.av->∃r:Int×Int×Bool,R1 (cf m) 42 x (.cG [.int .i64 r.1,.int .i64 r.2.1,.bool r.2.2]):=by
  intro k x h;induction h with
  |av k1 b1 n1 s1 t1 N1 L1 hs ht h0 h1 h2 h3 _ ih=>
   intro _
   obtain⟨fS,hS⟩:=bK (α:=Tree) (P:=λy=>y∈L1) (Q:=λy (r:Int×Int×Bool)=>R1 (cf m) 42 y (.cG [.int .i64 r.1,.int .i64 r.2.1,.bool r.2.2])) λy hy=>ih y hy rfl
   exact aaR m k1 b1 n1 s1 t1 hs ht N1 L1 h0 h1 h2 h3 fS hS
  |_=>exactλe=>(by cases e)
 exact Bq (λr:Int×Int×Bool=>.cG [.int .i64 r.1,.int .i64 r.2.1,.bool r.2.2]) λx h=>key _ x h rfl
theorem VE (m:Int):∃F:Tree->Int,∀x,(T .av x)->R1 (cf m) 23 x (.int .i64 (F x))/\(True):=by
 refine BV (P:=λx=>T .av x) (mk:=λ(r:Int)=>.int .i64 r) (Post:=λx r=>True) λx hx=> ?_
 show ∃r:{r:Int // True},ai (cf m) 23 [.t x] [] (.ret (.t (.int .i64 r.1)) [] []);have bu:=hx;obtain⟨cL,jX,n_1,s_1,dA,aV,dh,rfl,cT,cQ,gh,dX,fM,fe⟩:=T.aD bu;obtain⟨Mp,amK⟩:=TW m;obtain⟨ev,aI,amL⟩:∃ev,aC (cf m) ev/\Has ev 42 (mW (λx=>T .av x) (λx=>.cG [.int .i64 (Mp x).1,.int .i64 (Mp x).2.1,.bool (Mp x).2.2])):=⟨_,(aq (bU (λx h=>(amK x h))) aF),au⟩;refine AX.start 21 1 Tryz.func23 rfl (by decide) rfl rfl (by decide) ?_;refine AX.frames ?_;have aeO:=cE amL (x:=(aA cL jX n_1 s_1 dA aV dh)) bu;rcases aK ((!(Mp (aA cL jX n_1 s_1 dA aV dh)).2.2)) with cm|cm
 ·refine⟨⟨7, ?_⟩,kf ah [oC aeO,oB cm]⟩;trivial
 ·rcases aK (decide ((Mp (aA cL jX n_1 s_1 dA aV dh)).1>8)) with bN|bN
  ·have mX:=of_decide_eq_true bN;refine⟨⟨4, ?_⟩,kf ah [oC aeO,oB cm,oB bN]⟩;trivial
  ·have mX:=of_decide_eq_false bN;rcases aK (decide ((Mp (aA cL jX n_1 s_1 dA aV dh)).2.1>128)) with gu|gu
   ·have r7:=of_decide_eq_true gu;refine⟨⟨2, ?_⟩,kf ah [oC aeO,oB cm,oB bN,oB gu]⟩;trivial
   ·have r7:=of_decide_eq_false gu;refine⟨⟨0, ?_⟩,kf ah [oC aeO,oB cm,oB bN,oB gu]⟩;trivial
theorem VF (m:Int):∃F:Tree->Int,∀x,(T .bP x)->R1 (cf m) 9 x (.int .i64 (F x))/\(True):=by
 refine BV (P:=λx=>T .bP x) (mk:=λ(r:Int)=>.int .i64 r) (Post:=λx r=>True) λx hx=> ?_
 show ∃r:{r:Int // True},ai (cf m) 9 [.t x] [] (.ret (.t (.int .i64 r.1)) [] []);have bu:=hx;obtain⟨wX,zT,Br,G8,yO,Bt,jE,ow,ox,oy,oz,jS,kL,rfl,cT,cQ,gh,dX,fM,fe,jQ,Cc,N9,vP,apR,Oa⟩:=T.kK bu;obtain⟨wW,zR⟩:=wV m;obtain⟨TX,ai6⟩:=VE m;obtain⟨ev,aI,A7,TY⟩:∃ev,aC (cf m) ev/\Has ev 22 (mW (λx=>T .aB x) (λx=>.int .i64 (wW x)))/\Has ev 23 (mW (λx=>T .av x) (λx=>.int .i64 (TX x))):=⟨_,(aq (bU (λx h=>(zR x h).1)) (aq (bU (λx h=>(ai6 x h).1)) aF)),au,(az rfl au)⟩;refine AX.start 35 1 Tryz.func9 rfl (by decide) rfl rfl (by decide) ?_;refine AX.frames ?_;refine kl (α:=Nat×List Tree) ah 0 [] 35 1 [.loc [0]] [.loc [0]] [1,13,14,15] (λx=>⟨eA 35 [(1,.ptr (.loc [0]) 0),(13,.qp x.2),(14,.t (.int .i64 ((x.2.length:Nat):Int))),(15,.t (.int .i64 ((x.1:Nat):Int)))],[(.loc [0],.cells 34 (mD wX zT Br G8 yO Bt jE ow ox oy oz jS kL))],1⟩) (λx=>(x.1<=x.2.length)/\(x.2.length<=4194304/\∀y∈x.2,T .aB y)) (λx=>x.2.length - x.1) (⟨0,([.agg [.str wX,.str zT],.agg [.str Br,.str G8],.agg [.str yO,.str Bt]]:List Tree)⟩) (j6 (Tryz.f9.body.getD .skip) 2) [] ⟨Nat.zero_le _,⟨bJ,(bx (.aB _ _ bJ bJ) (bx (.aB _ _ bJ bJ) (bx (.aB _ _ bJ bJ) (λ_ h=>absurd h (by simp)))))⟩⟩ (λx hok=> ?_);obtain⟨i_2,yf⟩:=x;replace hok:(i_2<=yf.length)/\(yf.length<=4194304/\∀y∈yf,T .aB y):=hok;obtain⟨Ip,AQ⟩:=hok;rcases aK (decide (((i_2:Nat):Int)<((yf.length:Nat):Int))) with bN|bN
 ·have mX:=of_decide_eq_true bN;obtain⟨e4,uF⟩:=dn yf i_2;have nV:=(AQ.2 e4 (fT uF));obtain⟨yg,DO,rfl,ya,Cd⟩:=T.bH nV;have hp6:=(zR (.agg [.str yg,.str DO]) nV).2;have amM:=cE A7 (x:=.agg [.str yg,.str DO]) nV;rcases aK (((wW (.agg [.str yg,.str DO])) != 0)) with gx|gx
  ·have nW:=dI gx;refine kx ah [oB bN,oE uF,oC amM,oB gx] ?_;refine⟨⟨(wW (.agg [.str yg,.str DO])), ?_⟩,kf ah []⟩;trivial
  ·have nW:=cg gx;exact⟨.inl ⟨⟨i_2+1,yf⟩,⟨⟨(by show(i_2+1)<=yf.length;omega),AQ⟩,(by show(yf.length - (i_2+1))<(yf.length - i_2);omega)⟩⟩,kr ah 35 1 [.loc [0]] [1,13,14,15] [oB bN,oE uF,oC amM,oB gx,oI (i_2) (by omega)]⟩
 ·have mX:=of_decide_eq_false bN;refine kx ah [oB bN] ?_;rcases aK (((TX (aA jE ow ox oy oz jS kL)) != 0)) with iJ|iJ
  ·have zQ:=dI iJ;refine⟨⟨(TX (aA jE ow ox oy oz jS kL)), ?_⟩,kf ah [oC (cE TY (x:=(aA jE ow ox oy oz jS kL)) (.av _ _ _ _ _ _ _ bJ bJ bJ vP bJ Oa)),oB iJ]⟩;trivial
  ·have zQ:=cg iJ;rcases aK ((jE != 5)) with nU|nU
   ·have Ga:=dI nU;refine⟨⟨7, ?_⟩,kf ah [oC (cE TY (x:=(aA jE ow ox oy oz jS kL)) (.av _ _ _ _ _ _ _ bJ bJ bJ vP bJ Oa)),oB iJ,oB nU]⟩;trivial
   ·have Ga:=cg nU;refine⟨⟨0, ?_⟩,kf ah [oC (cE TY (x:=(aA jE ow ox oy oz jS kL)) (.av _ _ _ _ _ _ _ bJ bJ bJ vP bJ Oa)),oB iJ,oB nU]⟩;trivial
end
end Go.Proofs.YtfdnciimclnncaaGreatDoor.w.e
