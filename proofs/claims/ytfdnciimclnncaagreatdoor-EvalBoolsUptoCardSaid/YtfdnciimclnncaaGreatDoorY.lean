/- More of it. -/
import Derived.Test.YtfdnciimclnncaaGreatDoorV
import Derived.Test.YtfdnciimclnncaaGreatDoorW
import Derived.Test.YtfdnciimclnncaaGreatDoorX
import Derived.Test.YtfdnciimclnncaaGreatDoorT
import Derived.Test.YtfdnciimclnncaaGreatDoorR
set_option linter.unusedVariables false
set_option linter.unusedSimpArgs false
namespace Go.Proofs.YtfdnciimclnncaaGreatDoor.w
open Go Go.Abs
set_option maxRecDepth 100000
set_option maxHeartbeats 1000000
noncomputable section
theorem bK {α β:Type}[Inhabited β]{P:α->Prop}{Q:α->β->Prop}(h:∀a,P a->∃b,Q a b):∃f:α->β,∀a,P a->Q a (f a):=
 Classical.axiomOfChoice (r:=λa b=>P a->Q a b) λa=>by
  by_cases hp:P a
  ·obtain⟨b,hb⟩:=h a hp;exact⟨b,λ_=>hb⟩
  ·exact⟨default,λh=>absurd h hp⟩
theorem A7 {C:ey}{β:Type}[Inhabited β]{g:FuncId}{P:Tree->Prop}(mk:β->Tree)(h:∀x,P x->∃r:β,ai C g [.t x] [] (.ret (.t (mk r)) [] [])):∃f:Tree->β,∀x,P x->ai C g [.t x] [] (.ret (.t (mk (f x))) [] []):=bK h
theorem zo {C:ey}{β:Type}[Inhabited β]{g:FuncId}{P:Tree->Tree->Prop}(mk:β->Tree)(h:∀x y,P x y->∃r:β,ai C g [.t x,.t y] [] (.ret (.t (mk r)) [] [])):
 ∃f:Tree->Tree->β,∀x y,P x y->ai C g [.t x,.t y] [] (.ret (.t (mk (f x y))) [] []):=by
 obtain⟨f,hf⟩:=bK (α:=Tree×Tree) (P:=λp=>P p.1 p.2) (Q:=λp r=>ai C g [.t p.1,.t p.2] [] (.ret (.t (mk r)) [] [])) λp hp=>h p.1 p.2 hp
 exact⟨λx y=>f (x,y),λx y hp=>hf (x,y) hp⟩
def PI (x:Tree):Prop:=∃n,x=.int .u8 n
def PS (x:Tree):Prop:=∃s,x=.str s
def t1 {β:Type}(mk:β->Tree)(P:Tree->Prop)(f:Tree->β):List TV->List aO->Option br:=ct1 P λx=>.ret (.t (mk (f x))) [] []
def t2 {β:Type}(mk:β->Tree)(P:Tree->Tree->Prop)(f:Tree->Tree->β):List TV->List aO->Option br:=ct2 P λx y=>.ret (.t (mk (f x y))) [] []
theorem JD {C:ey}{β:Type}{g:FuncId}{mk:β->Tree}{P:Tree->Prop}{f:Tree->β}(h:∀x,P x->ai C g [.t x] [] (.ret (.t (mk (f x))) [] [])):kN C g (t1 mk P f):=aib h
theorem Md {C:ey}{β:Type}{g:FuncId}{mk:β->Tree}{P:Tree->Tree->Prop}{f:Tree->Tree->β}(h:∀x y,P x y->ai C g [.t x,.t y] [] (.ret (.t (mk (f x y))) [] [])):kN C g (t2 mk P f):=Zk h
theorem JE {β:Type}{g:FuncId}{mk:β->Tree}{P:Tree->Prop}{f:Tree->β}{ev:bt}{x:Tree}(h:P x):qf g (t1 mk P f) ev g [.t x] []=some (.ret (.t (mk (f x))) [] []):=aic h
theorem Me {β:Type}{g:FuncId}{mk:β->Tree}{P:Tree->Tree->Prop}{f:Tree->Tree->β}{ev:bt}{x y:Tree}(h:P x y):qf g (t2 mk P f) ev g [.t x,.t y] []=some (.ret (.t (mk (f x y))) [] []):=Zl h
theorem TC (m:Int):∃f:Tree->Bool,∀x,PI x->ai (cf m) 131 [.t x] [] (.ret (.t (.bool (f x))) [] []):=by
 obtain⟨fd,hd⟩:=A7 (C:=cf m) (g:=129) (P:=PI) Tree.bool (λx ⟨n,e⟩=>e▸Qv aF n);obtain⟨fl,hl⟩:=A7 (C:=cf m) (g:=132) (P:=PI) Tree.bool (λx ⟨n,e⟩=>e▸Xo aF n);refine A7 (P:=PI) Tree.bool λx ⟨n,e⟩=>e▸aan (aq (JD hl) (aq (JD hd) aF)) (λn=>fl (.int .u8 n)) (λn=>fd (.int .u8 n)) (λn=>JE ⟨n,rfl⟩) (λn=>qZ rfl (JE ⟨n,rfl⟩)) n
def JF (s:List UInt8):Tree:=.sl (s.map λb=>.int .u8 b.toNat)
theorem aap (m:Int):∃f:Tree->Tree->Bool,∀x y,((∃s:List UInt8,s.length<=64/\x=JF s)/\y=.fn (.func 131))->ai (cf m) 130 [.t x,.t y] [] (.ret (.t (.bool (f x y))) [] []):=by
 obtain⟨f1,h1⟩:=TC m;obtain⟨fi,hi⟩:=zo (C:=cf m) (g:=179) (P:=λx y=>(∃s:List UInt8,s.length<=64/\x=JF s)/\y=.fn (.func 131)) (Tree.int .i64) (λx y ⟨⟨s,hs,e⟩,e2⟩=>by
  subst e;subst e2;have hform:∀e∈s.map (λb:UInt8=>Tree.int .u8 b.toNat),∃n,e=.int .u8 n:=λe he=>by obtain⟨b,_,rfl⟩:=List.mem_map.1 he;exact⟨_,rfl⟩
  exact aiD (aq (JD h1) aF) _ (by rw[List.length_map];omega) hform 131 f1 (λe he=>JE (hform e he)))
 exact zo Tree.bool λx y hp=>aiE (aq (Md hi) aF) x y (fi x y) (Me hp)
theorem aaq (m:Int):∃f:Tree->Tree->Bool,∀x y,(x=.sl (zg.map .str)/\PS y)->ai (cf m) 76 [.t x,.t y] [] (.ret (.t (.bool (f x y))) [] []):=by
 obtain⟨fi,hi⟩:=zo (C:=cf m) (g:=101) (P:=λx y=>x=.sl (zg.map .str)/\PS y) (Tree.int .i64) (λx y ⟨e,s,e2⟩=>by
  subst e;subst e2;exact aiH aF _ (by decide) (λe he=>by obtain⟨b,_,rfl⟩:=List.mem_map.1 he;exact⟨_,rfl⟩) s)
 exact zo Tree.bool λx y hp=>aiI (aq (Md hi) aF) x y (fi x y) (Me hp)
theorem Xq (m:Int):∃f:Tree->Bool,∀x,PS x->ai (cf m) 82 [.t x] [] (.ret (.t (.bool (f x))) [] []):=by
 obtain⟨fd,hd⟩:=A7 (C:=cf m) (g:=129) (P:=PI) Tree.bool (λx ⟨n,e⟩=>e▸Qv aF n);obtain⟨fb,hb⟩:=aap m;obtain⟨fc,hc⟩:=aaq m;have hw:kN (cf m) 128 (vF zh o9):=λargs bu r h=>live.Qx m o9 aF args bu r h
 refine A7 (P:=PS) Tree.bool λx ⟨s,e⟩=>e▸aeu (ev:=qf 128 (vF zh o9) (qf 129 (t1 .bool PI fd) (qf 76 (t2 .bool (λx y=>x=.sl (zg.map .str)/\PS y) fc) (qf 130 (t2 .bool (λx y=>(∃s:List UInt8,s.length<=64/\x=JF s)/\y=.fn (.func 131)) fb) o9))))
  (aq hw (aq (JD hd) (aq (Md hc) (aq (Md hb) aF)))) (λn=>fd (.int .u8 n)) (λs=>fc (.sl (zg.map .str)) (.str s)) (λs=>fb (JF s) (.fn (.func 131))) rfl
  (λn=>qZ rfl (JE ⟨n,rfl⟩)) (λs=>qZ rfl (qZ rfl (Me ⟨rfl,s,rfl⟩))) (λs hs=>qZ rfl (qZ rfl (qZ rfl (Me (x:=JF s) ⟨⟨s,hs,rfl⟩,rfl⟩)))) s
theorem Vi (m:Int):∃f:Tree->Bool,∀x,PS x->ai (cf m) 40 [.t x] [] (.ret (.t (.bool (f x))) [] []):=by
 obtain⟨fn,hn⟩:=Xq m;obtain⟨f1,h1⟩:=A7 (C:=cf m) (g:=81) (P:=PS) Tree.bool (λx ⟨s,e⟩=>e▸NX (aq (JD hn) aF) (λs=>fn (.str s)) (λs=>JE ⟨s,rfl⟩) s);obtain⟨pc,hpc⟩:=bK (α:=List UInt8) (β:=List (List UInt8)) (P:=λs=>s.length<=64) (Q:=λs l=>l.length<=s.length+1/\ai (cf m) 80 [.t (.str s),.t (.str [58,58])] [] (.ret (.t (.sl (l.map .str))) [] [])) λs hs=>aao s [58,58] (by omega) (by decide)
 obtain⟨fi,hi⟩:=zo (C:=cf m) (g:=126) (P:=λx y=>(∃s:List UInt8,s.length<=64/\x=.sl ((pc s).map .str))/\y=.fn (.func 81)) (Tree.int .i64) (λx y ⟨⟨s,hs,e⟩,e2⟩=>by
  subst e;subst e2;have hform:∀e∈(pc s).map Tree.str,∃u,e=.str u:=λe he=>by obtain⟨b,_,rfl⟩:=List.mem_map.1 he;exact⟨_,rfl⟩
  exact aiF (aq (JD h1) aF) _ (by rw[List.length_map];have:=(hpc s hs).1;omega) hform 81 f1 (λe he=>JE (hform e he)))
 obtain⟨fc,hc⟩:=zo (C:=cf m) (g:=79) (P:=λx y=>(∃s:List UInt8,s.length<=64/\x=.sl ((pc s).map .str))/\y=.fn (.func 81)) Tree.bool λx y hp=>aiG (aq (Md hi) aF) x y (fi x y) (Me hp)
 have hsp:kN (cf m) 80 (ct2 (λx y=>(∃s:List UInt8,s.length<=64/\x=.str s)/\y=.str [58,58]) λx _=>match x with|.str s=>.ret (.t (.sl ((pc s).map .str))) [] []|_=>default):=
  Zk λx y hx=>by obtain⟨⟨s,hs,rfl⟩,rfl⟩:=hx;exact(hpc s hs).2
 exact A7 (P:=PS) Tree.bool λx ⟨s,e⟩=>e▸Qw (aq hsp (aq (Md hc) aF)) pc (λs=>fc (.sl ((pc s).map .str)) (.fn (.func 81))) (λs hs=>Zl (x:=.str s) (y:=.str [58,58]) ⟨⟨s,hs,rfl⟩,rfl⟩) (λs hs=>qZ rfl (Me ⟨⟨s,hs,rfl⟩,rfl⟩)) s
theorem xL (m:Int):∃f:Tree->Bool,∀x,PS x->ai (cf m) 41 [.t x] [] (.ret (.t (.bool (f x))) [] []):=by
 obtain⟨fw,hw⟩:=A7 (C:=cf m) (g:=83) (P:=λx=>∃s:List UInt8,8<=s.length/\x=.str s) (Tree.int .u64) (λx ⟨s,hs,e⟩=>by
  subst e;match s,hs with
  |b0::b1::b2::b3::b4::b5::b6::b7::r,_=>exact ad4 aF b0 b1 b2 b3 b4 b5 b6 b7 r)
 exact A7 (C:=cf m) (g:=41) (P:=PS) Tree.bool (λx ⟨s,e⟩=>e▸aam _ (aq (JD hw) aF) (λs=>fw (.str s)) (λs hs=>JE ⟨s,hs,rfl⟩) s)
end
end Go.Proofs.YtfdnciimclnncaaGreatDoor.w
namespace Go.Proofs.YtfdnciimclnncaaGreatDoor.w.e
open Go Go.Abs
set_option maxRecDepth 100000
set_option maxHeartbeats 2000000
noncomputable section
theorem Dd (m:Int):∃F:Tree->Int,∀x,(T .aH x)->R1 (cf m) 22 x (.int .i64 (F x))/\(True):=by
 refine BF (P:=λx=>T .aH x) (mk:=λ(r:Int)=>.int .i64 r) (Post:=λx r=>True) λx hx=> ?_
 show ∃r:{r:Int // True},ai (cf m) 22 [.t x] [] (.ret (.t (.int .i64 r.1)) [] []);have bw:=hx;obtain⟨type_1,JG,rfl,cI,cH⟩:=T.cr bw;obtain⟨aar,aiJ⟩:=Vi m;obtain⟨De,TD⟩:=xL m;obtain⟨ev,aJ,aiK,Fa⟩:∃ev,aC (cf m) ev/\Has ev 40 (mL (λx=>PS x) (λx=>.bool (aar x)))/\Has ev 41 (mL (λx=>PS x) (λx=>.bool (De x))):=⟨_,(aq (bR (λx h=>(aiJ x h))) (aq (bR (λx h=>(TD x h))) aF)),au,(av rfl au)⟩;refine AX.start 18 1 Tryz.func22 rfl (by decide) rfl rfl (by decide) ?_;refine AX.frames ?_;have zh1:=bS aiK (x:=.str type_1) ⟨_,rfl⟩;rcases aL ((!(aar (.str type_1)))) with cq|cq
 ·refine⟨⟨5, ?_⟩,kf ah [oC zh1,oB cq]⟩;trivial
 ·have zh2:=bS Fa (x:=.str JG) ⟨_,rfl⟩;rcases aL ((!(De (.str JG)))) with bL|bL
  ·refine⟨⟨6, ?_⟩,kf ah [oC zh1,oB cq,oC zh2,oB bL]⟩;trivial
  ·rcases aL (decide (((JG.length:Nat):Int)>64)) with gP|gP
   ·have tI:=of_decide_eq_true gP;refine⟨⟨3, ?_⟩,kf ah [oC zh1,oB cq,oC zh2,oB bL,oB gP]⟩;trivial
   ·have tI:=of_decide_eq_false gP;refine⟨⟨0, ?_⟩,kf ah [oC zh1,oB cq,oC zh2,oB bL,oB gP]⟩;trivial
theorem aas (m:Int):∃F:Tree->Bool,∀x,(T .string x)->R1 (cf m) 138 x (.bool (F x))/\(True):=by
 refine BF (P:=λx=>T .string x) (mk:=λ(r:Bool)=>.bool r) (Post:=λx r=>True) λx hx=> ?_
 show ∃r:{r:Bool // True},ai (cf m) 138 [.t x] [] (.ret (.t (.bool r.1)) [] []);have bw:=hx;obtain⟨v_1,rfl,cI⟩:=T.bF bw;obtain⟨ev,aJ⟩:∃ev,aC (cf m) ev:=⟨_,aF⟩;refine AX.start 6 1 Tryz.func138 rfl (by decide) rfl rfl (by decide) ?_;refine AX.frames ?_;refine⟨⟨(!(v_1==v_1)), ?_⟩,kf ah []⟩;trivial
theorem Fb (m:Int):∃F:Tree->Tree->Int,∀x y,(T .string x/\T .string y)->R2 (cf m) 87 x y (.int .i64 (F x y))/\(True):=by
 refine tD (P:=λx y=>T .string x/\T .string y) (mk:=λ(r:Int)=>.int .i64 r) (Post:=λx y r=>True) λx y hx=> ?_
 obtain⟨hx,hy⟩:=hx;show ∃r:{r:Int // True},ai (cf m) 87 [.t x,.t y] [] (.ret (.t (.int .i64 r.1)) [] []);have bw:=hx;obtain⟨v_1,rfl,cI⟩:=T.bF bw;have dB:=hy;obtain⟨v_2,rfl,gx⟩:=T.bF dB;obtain⟨Vj,al3⟩:=aas m;obtain⟨ev,aJ,Qy⟩:∃ev,aC (cf m) ev/\Has ev 138 (mL (λx=>T .string x) (λx=>.bool (Vj x))):=⟨_,(aq (bR (λx h=>(al3 x h).1)) aF),au⟩;refine AX.start 20 2 Tryz.func87 rfl (by decide) rfl rfl (by decide) ?_;refine AX.frames ?_;have zh3:=bS Qy (x:=.str v_1) bw;have zh4:=bS Qy (x:=.str v_2) dB;rcases aL ((Vj (.str v_1))) with bL|bL
 ·rcases aL ((Vj (.str v_2))) with gP|gP
  ·refine⟨⟨0, ?_⟩,kf ah [oC zh3,oC zh4,oB bL,oB gP]⟩;trivial
  ·refine⟨⟨-1, ?_⟩,kf ah [oC zh3,oC zh4,oB bL,oB gP]⟩;trivial
 ·rcases aL ((Vj (.str v_2))) with jl|jl
  ·refine⟨⟨1, ?_⟩,kf ah [oC zh3,oC zh4,oB bL,oB jl]⟩;trivial
  ·rcases aL ((jw v_1 v_2)) with lN|lN
   ·refine⟨⟨-1, ?_⟩,kf ah [oC zh3,oC zh4,oB bL,oB jl,oB lN]⟩;trivial
   ·rcases aL ((!(jw v_1 v_2||v_1==v_2))) with gh|gh
    ·refine⟨⟨1, ?_⟩,kf ah [oC zh3,oC zh4,oB bL,oB jl,oB lN,oB gh]⟩;trivial
    ·refine⟨⟨0, ?_⟩,kf ah [oC zh3,oC zh4,oB bL,oB jl,oB lN,oB gh]⟩;trivial
theorem Qz (m:Int):∃F:Tree->Int,∀x,(T .Lint x)->R1 (cf m) 86 x (.int .i64 (F x))/\(True):=by
 refine BF (P:=λx=>T .Lint x) (mk:=λ(r:Int)=>.int .i64 r) (Post:=λx r=>True) λx hx=> ?_
 show ∃r:{r:Int // True},ai (cf m) 86 [.t x] [] (.ret (.t (.int .i64 r.1)) [] []);have bw:=hx;obtain⟨v_1,rfl,cI,cH⟩:=T.aaj bw;obtain⟨ev,aJ⟩:∃ev,aC (cf m) ev:=⟨_,aF⟩;refine AX.start 18 1 Tryz.func86 rfl (by decide) rfl rfl (by decide) ?_;refine AX.frames ?_;refine kl (α:=Nat) ah 0 [] 18 0 [] [] [3,6,7,8] (λx=>⟨eC 18 [(3,.t (.int .i64 0)),(6,.t (.sl v_1)),(7,.t (.int .i64 ((v_1.length:Nat):Int))),(8,.t (.int .i64 ((x:Nat):Int)))],[],0⟩) (λx=>(x<=v_1.length)) (λx=>v_1.length - x) 0 (j4 (Tryz.f86.body.getD .skip) 3) [] (by show(0<=v_1.length);first|trivial|omega|(refine⟨?_, ?_⟩<;>first|omega|exact SM.nil)|simp) (λx hok=> ?_);obtain⟨i_2,zq⟩:∃y,y=x:=⟨x,rfl⟩;subst zq;replace hok:(i_2<=v_1.length):=hok;have HP:=hok;rcases aL (decide (((i_2:Nat):Int)<((v_1.length:Nat):Int))) with bL|bL
 ·have mC:=of_decide_eq_true bL;obtain⟨e4,uE⟩:=dw v_1 i_2;have p7:=(cH e4 (fU uE));obtain⟨v_5,rfl⟩:=T.uV p7;rcases aL ((v_5 != 0)) with lN|lN
  ·have zu:=cG lN;refine kx ah [oB bL,oE uE,oB lN] ?_;refine⟨⟨v_5, ?_⟩,kf ah []⟩;trivial
  ·have zu:=bE lN;exact⟨.inl ⟨i_2+1,⟨(by show(i_2+1)<=v_1.length;omega),(by show(v_1.length - (i_2+1))<(v_1.length - i_2);omega)⟩⟩,kr ah 18 0 [] [3,6,7,8] [oB bL,oE uE,oB lN,oI (i_2) (by omega)]⟩
 ·have mC:=of_decide_eq_false bL;refine kx ah [oB bL] ?_;refine⟨⟨0, ?_⟩,kf ah []⟩;trivial
theorem Df (m:Int):∃F:Tree->Tree->Int,∀x y,(T .aH x/\T .aH y)->R2 (cf m) 46 x y (.int .i64 (F x y))/\(True):=by
 refine tD (P:=λx y=>T .aH x/\T .aH y) (mk:=λ(r:Int)=>.int .i64 r) (Post:=λx y r=>True) λx y hx=> ?_
 obtain⟨hx,hy⟩:=hx;show ∃r:{r:Int // True},ai (cf m) 46 [.t x,.t y] [] (.ret (.t (.int .i64 r.1)) [] []);have bw:=hx;obtain⟨type_1,JG,rfl,cI,cH⟩:=T.cr bw;have dB:=hy;obtain⟨eV,iD,rfl,gx,kB⟩:=T.cr dB;obtain⟨nK,JH⟩:=Fb m;obtain⟨QA,aat⟩:=Qz m;obtain⟨ev,aJ,zw,aau⟩:∃ev,aC (cf m) ev/\Has ev 87 (rN (λx y=>T .string x/\T .string y) (λx y=>.int .i64 (nK x y)))/\Has ev 86 (mL (λx=>T .Lint x) (λx=>.int .i64 (QA x))):=⟨_,(aq (dL (λx y h=>(JH x y h).1)) (aq (bR (λx h=>(aat x h).1)) aF)),au,(av rfl au)⟩;refine AX.start 17 2 Tryz.func46 rfl (by decide) rfl rfl (by decide) ?_;refine AX.frames ?_;refine⟨⟨(QA (.sl [.int .i64 (nK (.str type_1) (.str eV)),.int .i64 (nK (.str JG) (.str iD))])), ?_⟩,kf ah [oC (eH zw (x:=.str type_1) (y:=.str eV) ⟨(.string _ cm),(.string _ cm)⟩),oC (eH zw (x:=.str JG) (y:=.str iD) ⟨(.string _ cm),(.string _ cm)⟩),oC (bS aau (x:=.sl [.int .i64 (nK (.str type_1) (.str eV)),.int .i64 (nK (.str JG) (.str iD))]) (.Lint _ cm (bI (.int _) (bI (.int _) (λ_ h=>absurd h (by simp))))))]⟩;trivial
theorem QB (m:Int):∃F:Tree->Bool,∀x,(T .jS x)->R1 (cf m) 180 x (.bool (F x))/\(True):=by
 refine BF (P:=λx=>T .jS x) (mk:=λ(r:Bool)=>.bool r) (Post:=λx r=>True) λx hx=> ?_
 show ∃r:{r:Bool // True},ai (cf m) 180 [.t x] [] (.ret (.t (.bool r.1)) [] []);have bw:=hx;obtain⟨v_1,rfl⟩:=T.zn bw;obtain⟨ev,aJ⟩:∃ev,aC (cf m) ev:=⟨_,aF⟩;refine AX.start 6 1 Tryz.func180 rfl (by decide) rfl rfl (by decide) ?_;refine AX.frames ?_;refine kAt (f:=0) (n:=3000) (once:=[]) (k:=6) (T:=0) (S:=[]) (ks:=[]) (live:=[0,2]) ah aJ (Tryz.f180.body.getD .skip) 1 rfl (⟨eC 6 [(0,.t (.int .u8 v_1)),(2,.t (.bool false))],[],0⟩) [] (by kernel_rfl) ?_;refine AX.region ?_;refine aN.go (f:=0) aJ (aI rfl) ?_;refine aN.go (f:=0) aJ (aI rfl) ?_;refine aN.go (f:=0) aJ (Nv rfl rfl) ?_;refine aN.go (f:=0) aJ (aK rfl) ?_;refine aN.nil ?_;refine⟨⟨false, ?_⟩,kf ah []⟩;trivial
theorem QC (m:Int):∃F:Tree->Tree->Int,∀x y,(T .jS x/\T .jS y)->R2 (cf m) 133 x y (.int .i64 (F x y))/\(True):=by
 refine tD (P:=λx y=>T .jS x/\T .jS y) (mk:=λ(r:Int)=>.int .i64 r) (Post:=λx y r=>True) λx y hx=> ?_
 obtain⟨hx,hy⟩:=hx;show ∃r:{r:Int // True},ai (cf m) 133 [.t x,.t y] [] (.ret (.t (.int .i64 r.1)) [] []);have bw:=hx;obtain⟨v_1,rfl⟩:=T.zn bw;have dB:=hy;obtain⟨v_2,rfl⟩:=T.zn dB;obtain⟨Dg,aav⟩:=QB m;obtain⟨ev,aJ,QD⟩:∃ev,aC (cf m) ev/\Has ev 180 (mL (λx=>T .jS x) (λx=>.bool (Dg x))):=⟨_,(aq (bR (λx h=>(aav x h).1)) aF),au⟩;refine AX.start 20 2 Tryz.func133 rfl (by decide) rfl rfl (by decide) ?_;refine AX.frames ?_;have zh5:=bS QD (x:=.int .u8 v_1) bw;have zh6:=bS QD (x:=.int .u8 v_2) dB;rcases aL ((Dg (.int .u8 v_1))) with bL|bL
 ·rcases aL ((Dg (.int .u8 v_2))) with gP|gP
  ·refine⟨⟨0, ?_⟩,kf ah [oC zh5,oC zh6,oB bL,oB gP]⟩;trivial
  ·refine⟨⟨-1, ?_⟩,kf ah [oC zh5,oC zh6,oB bL,oB gP]⟩;trivial
 ·rcases aL ((Dg (.int .u8 v_2))) with jl|jl
  ·refine⟨⟨1, ?_⟩,kf ah [oC zh5,oC zh6,oB bL,oB jl]⟩;trivial
  ·rcases aL (decide (v_1<v_2)) with lN|lN
   ·have zu:=of_decide_eq_true lN;refine⟨⟨-1, ?_⟩,kf ah [oC zh5,oC zh6,oB bL,oB jl,oB lN]⟩;trivial
   ·have zu:=of_decide_eq_false lN;rcases aL (decide (v_1>v_2)) with gh|gh
    ·have mN:=of_decide_eq_true gh;refine⟨⟨1, ?_⟩,kf ah [oC zh5,oC zh6,oB bL,oB jl,oB lN,oB gh]⟩;trivial
    ·have mN:=of_decide_eq_false gh;refine⟨⟨0, ?_⟩,kf ah [oC zh5,oC zh6,oB bL,oB jl,oB lN,oB gh]⟩;trivial
theorem QE (m:Int):∃F:Tree->Bool,∀x,(T .int64 x)->R1 (cf m) 181 x (.bool (F x))/\(True):=by
 refine BF (P:=λx=>T .int64 x) (mk:=λ(r:Bool)=>.bool r) (Post:=λx r=>True) λx hx=> ?_
 show ∃r:{r:Bool // True},ai (cf m) 181 [.t x] [] (.ret (.t (.bool r.1)) [] []);have bw:=hx;obtain⟨v_1,rfl⟩:=T.nV bw;obtain⟨ev,aJ⟩:∃ev,aC (cf m) ev:=⟨_,aF⟩;refine AX.start 6 1 Tryz.func181 rfl (by decide) rfl rfl (by decide) ?_;refine AX.frames ?_;refine kAt (f:=0) (n:=3000) (once:=[]) (k:=6) (T:=0) (S:=[]) (ks:=[]) (live:=[0,2]) ah aJ (Tryz.f181.body.getD .skip) 1 rfl (⟨eC 6 [(0,.t (.int .i64 v_1)),(2,.t (.bool false))],[],0⟩) [] (by kernel_rfl) ?_;refine AX.region ?_;refine aN.go (f:=0) aJ (aI rfl) ?_;refine aN.go (f:=0) aJ (aI rfl) ?_;refine aN.go (f:=0) aJ (Nv rfl rfl) ?_;refine aN.go (f:=0) aJ (aK rfl) ?_;refine aN.nil ?_;refine⟨⟨false, ?_⟩,kf ah []⟩;trivial
theorem QF (m:Int):∃F:Tree->Tree->Int,∀x y,(T .int64 x/\T .int64 y)->R2 (cf m) 134 x y (.int .i64 (F x y))/\(True):=by
 refine tD (P:=λx y=>T .int64 x/\T .int64 y) (mk:=λ(r:Int)=>.int .i64 r) (Post:=λx y r=>True) λx y hx=> ?_
 obtain⟨hx,hy⟩:=hx;show ∃r:{r:Int // True},ai (cf m) 134 [.t x,.t y] [] (.ret (.t (.int .i64 r.1)) [] []);have bw:=hx;obtain⟨v_1,rfl⟩:=T.nV bw;have dB:=hy;obtain⟨v_2,rfl⟩:=T.nV dB;obtain⟨Dh,aaw⟩:=QE m;obtain⟨ev,aJ,QG⟩:∃ev,aC (cf m) ev/\Has ev 181 (mL (λx=>T .int64 x) (λx=>.bool (Dh x))):=⟨_,(aq (bR (λx h=>(aaw x h).1)) aF),au⟩;refine AX.start 20 2 Tryz.func134 rfl (by decide) rfl rfl (by decide) ?_;refine AX.frames ?_;have zh7:=bS QG (x:=.int .i64 v_1) bw;have zh8:=bS QG (x:=.int .i64 v_2) dB;rcases aL ((Dh (.int .i64 v_1))) with bL|bL
 ·rcases aL ((Dh (.int .i64 v_2))) with gP|gP
  ·refine⟨⟨0, ?_⟩,kf ah [oC zh7,oC zh8,oB bL,oB gP]⟩;trivial
  ·refine⟨⟨-1, ?_⟩,kf ah [oC zh7,oC zh8,oB bL,oB gP]⟩;trivial
 ·rcases aL ((Dh (.int .i64 v_2))) with jl|jl
  ·refine⟨⟨1, ?_⟩,kf ah [oC zh7,oC zh8,oB bL,oB jl]⟩;trivial
  ·rcases aL (decide (v_1<v_2)) with lN|lN
   ·have zu:=of_decide_eq_true lN;refine⟨⟨-1, ?_⟩,kf ah [oC zh7,oC zh8,oB bL,oB jl,oB lN]⟩;trivial
   ·have zu:=of_decide_eq_false lN;rcases aL (decide (v_1>v_2)) with gh|gh
    ·have mN:=of_decide_eq_true gh;refine⟨⟨1, ?_⟩,kf ah [oC zh7,oC zh8,oB bL,oB jl,oB lN,oB gh]⟩;trivial
    ·have mN:=of_decide_eq_false gh;refine⟨⟨0, ?_⟩,kf ah [oC zh7,oC zh8,oB bL,oB jl,oB lN,oB gh]⟩;trivial
theorem QH (m:Int):∃F:Tree->Bool,∀x,(T .int x)->R1 (cf m) 206 x (.bool (F x))/\(True):=by
 refine BF (P:=λx=>T .int x) (mk:=λ(r:Bool)=>.bool r) (Post:=λx r=>True) λx hx=> ?_
 show ∃r:{r:Bool // True},ai (cf m) 206 [.t x] [] (.ret (.t (.bool r.1)) [] []);have bw:=hx;obtain⟨v_1,rfl⟩:=T.uV bw;obtain⟨ev,aJ⟩:∃ev,aC (cf m) ev:=⟨_,aF⟩;refine AX.start 6 1 Tryz.func206 rfl (by decide) rfl rfl (by decide) ?_;refine AX.frames ?_;refine kAt (f:=0) (n:=3000) (once:=[]) (k:=6) (T:=0) (S:=[]) (ks:=[]) (live:=[0,2]) ah aJ (Tryz.f206.body.getD .skip) 1 rfl (⟨eC 6 [(0,.t (.int .i64 v_1)),(2,.t (.bool false))],[],0⟩) [] (by kernel_rfl) ?_;refine AX.region ?_;refine aN.go (f:=0) aJ (aI rfl) ?_;refine aN.go (f:=0) aJ (aI rfl) ?_;refine aN.go (f:=0) aJ (Nv rfl rfl) ?_;refine aN.go (f:=0) aJ (aK rfl) ?_;refine aN.nil ?_;refine⟨⟨false, ?_⟩,kf ah []⟩;trivial
theorem QI (m:Int):∃F:Tree->Tree->Int,∀x y,(T .int x/\T .int y)->R2 (cf m) 182 x y (.int .i64 (F x y))/\(True):=by
 refine tD (P:=λx y=>T .int x/\T .int y) (mk:=λ(r:Int)=>.int .i64 r) (Post:=λx y r=>True) λx y hx=> ?_
 obtain⟨hx,hy⟩:=hx;show ∃r:{r:Int // True},ai (cf m) 182 [.t x,.t y] [] (.ret (.t (.int .i64 r.1)) [] []);have bw:=hx;obtain⟨v_1,rfl⟩:=T.uV bw;have dB:=hy;obtain⟨v_2,rfl⟩:=T.uV dB;obtain⟨Di,aax⟩:=QH m;obtain⟨ev,aJ,QJ⟩:∃ev,aC (cf m) ev/\Has ev 206 (mL (λx=>T .int x) (λx=>.bool (Di x))):=⟨_,(aq (bR (λx h=>(aax x h).1)) aF),au⟩;refine AX.start 20 2 Tryz.func182 rfl (by decide) rfl rfl (by decide) ?_;refine AX.frames ?_;have zh9:=bS QJ (x:=.int .i64 v_1) bw;have Xr:=bS QJ (x:=.int .i64 v_2) dB;rcases aL ((Di (.int .i64 v_1))) with bL|bL
 ·rcases aL ((Di (.int .i64 v_2))) with gP|gP
  ·refine⟨⟨0, ?_⟩,kf ah [oC zh9,oC Xr,oB bL,oB gP]⟩;trivial
  ·refine⟨⟨-1, ?_⟩,kf ah [oC zh9,oC Xr,oB bL,oB gP]⟩;trivial
 ·rcases aL ((Di (.int .i64 v_2))) with jl|jl
  ·refine⟨⟨1, ?_⟩,kf ah [oC zh9,oC Xr,oB bL,oB jl]⟩;trivial
  ·rcases aL (decide (v_1<v_2)) with lN|lN
   ·have zu:=of_decide_eq_true lN;refine⟨⟨-1, ?_⟩,kf ah [oC zh9,oC Xr,oB bL,oB jl,oB lN]⟩;trivial
   ·have zu:=of_decide_eq_false lN;rcases aL (decide (v_1>v_2)) with gh|gh
    ·have mN:=of_decide_eq_true gh;refine⟨⟨1, ?_⟩,kf ah [oC zh9,oC Xr,oB bL,oB jl,oB lN,oB gh]⟩;trivial
    ·have mN:=of_decide_eq_false gh;refine⟨⟨0, ?_⟩,kf ah [oC zh9,oC Xr,oB bL,oB jl,oB lN,oB gh]⟩;trivial
end
end Go.Proofs.YtfdnciimclnncaaGreatDoor.w.e
namespace Go.Proofs.YtfdnciimclnncaaGreatDoor.w.e
open Go Go.Abs
set_option maxRecDepth 100000
set_option maxHeartbeats 2000000
noncomputable section
open Classical in
def px (args:List TV)(bu:List aO)(r:br):List TV->List aO->Option br:=λa o=>if a=args/\o=bu then some r else none
theorem fQ {C:ey}{g:FuncId}{args:List TV}{bu:List aO}{r:br}(h:ai C g args bu r):kN C g (px args bu r):=λa o q hq=>by
 unfold px at hq;split at hq
 ·rename_i hp;obtain⟨rfl,rfl⟩:=hp;cases hq;exact h
 ·cases hq
theorem jm {g:FuncId}{ev:bt}{args:List TV}{bu:List aO}{r:br}(h:Has ev g (px args bu r)):ev g args bu=some r:=h _ _ _ (if_pos ⟨rfl,rfl⟩)
def RK3 (C:ey)(g:FuncId)(k:List TV)(Av:List aO)(x y z r:Tree):Prop:=ai C g (.t x:: .t y:: .t z::k) Av (.ret (.t r) Av [])
open Classical in
def pk3 (k:List TV)(Av:List aO)(P:Tree->Tree->Tree->Prop)(F:Tree->Tree->Tree->Tree):List TV->List aO->Option br:=λvb os=>match vb with
 |.t x:: .t y:: .t z::r=>if r=k/\os=Av/\P x y z then some (.ret (.t (F x y z)) Av []) else none
 |_=>none
theorem aiL {C:ey}{g:FuncId}{k:List TV}{Av:List aO}{P:Tree->Tree->Tree->Prop}{F:Tree->Tree->Tree->Tree}(h:∀x y z,P x y z->RK3 C g k Av x y z (F x y z)):kN C g (pk3 k Av P F):=λargs bu r hr=>by
 unfold pk3 at hr;split at hr
 ·split at hr
  ·rename_i hp;obtain⟨rfl,rfl,hp⟩:=hp;cases hr;exact h _ _ _ hp
  ·cases hr
 ·cases hr
theorem ahh {ev:FuncId->List TV->List aO->Option br}{g:FuncId}{k:List TV}{Av:List aO}{P:Tree->Tree->Tree->Prop}{F:Tree->Tree->Tree->Tree}(h:Has ev g (pk3 k Av P F)){x y z:Tree}(hp:P x y z):ev g (.t x:: .t y:: .t z::k) Av=some (.ret (.t (F x y z)) Av []):=h _ _ _ (if_pos ⟨rfl,rfl,hp⟩)
def AtB (l l2:List Tree)(i x y:Tree):Prop:=∃j:Nat,i=.int .i64 j/\j<4194304/\x∈l/\y∈l2
theorem al4 (m:Int)(k1:Int)(b1:Bool)(n1:Int)(s1 t1:List UInt8)(N1 L1:List Tree)(k2:Int)(b2:Bool)(n2:Int)(s2 t2:List UInt8)(N2 L2:List Tree)(q:Tree->Tree->Tree->Int)(l l2:List Tree)(hl:l.length<=4194304)(hl2:∀y∈l,T .az y)(hm:l2.length<=4194304)(hm2:∀y∈l2,T .az y)(hq:∀x y z,AtB l l2 x y z->RK3 (cf m) 136 [.ptr (.arg 0) 0,.ptr (.arg 1) 0] [.cells 32 (cM k1 b1 n1 s1 t1 N1 L1),.cells 32 (cM k2 b2 n2 s2 t2 N2 L2)] x y z (.int .i64 (q x y z))):∃r:Int,ai (cf m) 135 (.t (.sl l):: .t (.sl l2)::[.fn (.func 136) [] [.ptr (.arg 0) 0,.ptr (.arg 1) 0]]) [.cells 32 (cM k1 b1 n1 s1 t1 N1 L1),.cells 32 (cM k2 b2 n2 s2 t2 N2 L2)] (.ret (.t (.int .i64 r)) [.cells 32 (cM k1 b1 n1 s1 t1 N1 L1),.cells 32 (cM k2 b2 n2 s2 t2 N2 L2)] []):=by
 obtain⟨QK,aay⟩:=QI m;obtain⟨ev,aJ,e_q,aaz⟩:∃ev,aC (cf m) ev/\Has ev 136 (pk3 [.ptr (.arg 0) 0,.ptr (.arg 1) 0] [.cells 32 (cM k1 b1 n1 s1 t1 N1 L1),.cells 32 (cM k2 b2 n2 s2 t2 N2 L2)] (AtB l l2) λx y z=>.int .i64 (q x y z))/\Has ev 182 (rN (λx y=>T .int x/\T .int y) (λx y=>.int .i64 (QK x y))):=⟨_,(aq (aiL hq) (aq (dL (λx y h=>(aay x y h).1)) aF)),au,(av rfl au)⟩;refine AX.start 37 3 Tryz.func135 rfl (by decide) rfl rfl (by decide) ?_;refine AX.frames ?_;refine kl (α:=Nat) ah 0 [] 37 0 [] [.arg 0,.arg 1] [0,1,2,13,14] (λx=>⟨eC 37 [(0,.t (.sl l)),(1,.t (.sl l2)),(2,.fn (.func 136) [] [.ptr (.arg 0) 0,.ptr (.arg 1) 0]),(13,.t (.int .i64 (min ((l.length:Nat):Int) ((l2.length:Nat):Int)))),(14,.t (.int .i64 ((x:Nat):Int)))],[(.arg 0,.cells 32 (cM k1 b1 n1 s1 t1 N1 L1)),(.arg 1,.cells 32 (cM k2 b2 n2 s2 t2 N2 L2))],0⟩) (λx=>(x<=(min l.length l2.length))) (λx=>(min l.length l2.length) - x) 0 (j4 (Tryz.f135.body.getD .skip) 2) [oL .i64 ((l.length:Nat):Int) ((l2.length:Nat):Int)] (by show(0<=(min l.length l2.length));first|trivial|omega|(refine⟨?_, ?_⟩<;>first|omega|exact SM.nil)|simp) (λx hok=> ?_);obtain⟨i_1,zq⟩:∃y,y=x:=⟨x,rfl⟩;subst zq;replace hok:(i_1<=(min l.length l2.length)):=hok;have cO:=hok;rcases aL (decide (((i_1:Nat):Int)<(min ((l.length:Nat):Int) ((l2.length:Nat):Int)))) with cq|cq
 ·have jN:=of_decide_eq_true cq;obtain⟨e3,lQ⟩:=dw l i_1;have mD:=(hl2 e3 (fU lQ));obtain⟨nL,BN,yj,yl,BO,ko,mO,rfl,qF,rQ,BP,zx,BQ,BR⟩:=T.aB mD;obtain⟨e5,ku⟩:=dw l2 i_1;have k9:=(hm2 e5 (fU ku));obtain⟨dM,kC,qh,q8,kD,dh,bG,rfl,pJ,rR,tJ,tK,tL,pK⟩:=T.aB k9;rcases aL (((q (.int .i64 ((i_1:Nat):Int)) (aA nL BN yj yl BO ko mO) (aA dM kC qh q8 kD dh bG)) != 0)) with gh|gh
  ·have mN:=cG gh;refine kx ah [oB cq,oE lQ,oE ku,oC (ahh e_q (x:=.int .i64 ((i_1:Nat):Int)) (y:=(aA nL BN yj yl BO ko mO)) (z:=(aA dM kC qh q8 kD dh bG)) ⟨_,rfl,by omega,fU lQ,fU ku⟩),oB gh] ?_;exact⟨(q (.int .i64 ((i_1:Nat):Int)) (aA nL BN yj yl BO ko mO) (aA dM kC qh q8 kD dh bG)),kf ah []⟩
  ·have mN:=bE gh;exact⟨.inl ⟨i_1+1,⟨(by show(i_1+1)<=(min l.length l2.length);omega),(by show((min l.length l2.length) - (i_1+1))<((min l.length l2.length) - i_1);omega)⟩⟩,vH ah 0 [] 37 0 [] [.arg 0,.arg 1] [0,1,2,13,14] [oB cq,oE lQ,oE ku,oC (ahh e_q (x:=.int .i64 ((i_1:Nat):Int)) (y:=(aA nL BN yj yl BO ko mO)) (z:=(aA dM kC qh q8 kD dh bG)) ⟨_,rfl,by omega,fU lQ,fU ku⟩),oB gh,oI (i_1) (by omega)]⟩
 ·have jN:=of_decide_eq_false cq;refine kx ah [oB cq] ?_;exact⟨(QK (.int .i64 ((l.length:Nat):Int)) (.int .i64 ((l2.length:Nat):Int))),kf ah [oC (eH aaz (x:=.int .i64 ((l.length:Nat):Int)) (y:=.int .i64 ((l2.length:Nat):Int)) ⟨(.int _),(.int _)⟩)]⟩
end
end Go.Proofs.YtfdnciimclnncaaGreatDoor.w.e
namespace Go.Proofs.YtfdnciimclnncaaGreatDoor.w.e
open Go Go.Abs
set_option maxRecDepth 100000
set_option maxHeartbeats 2000000
noncomputable section
theorem aev (m:Int)(k1:Int)(b1:Bool)(n1:Int)(s1 t1:List UInt8)(N1 L1:List Tree)(k2:Int)(b2:Bool)(n2:Int)(s2 t2:List UInt8)(N2 L2:List Tree)(hN1:N1.length<=4194304)(aiM:∀y∈N1,T .string y)(hN2:N2.length<=4194304)(aiN:∀y∈N2,T .string y)(j:Nat)(hj:j<4194304)(x y:Tree)(hx:T .az x)(hy:T .az y)(fC:Tree->Tree->Int)(hC:R2 (cf m) 84 x y (.int .i64 (fC x y))):∃r:Int,ai (cf m) 136 (.t (.int .i64 (j:Int)):: .t x:: .t y::[.ptr (.arg 0) 0,.ptr (.arg 1) 0]) [.cells 32 (cM k1 b1 n1 s1 t1 N1 L1),.cells 32 (cM k2 b2 n2 s2 t2 N2 L2)] (.ret (.t (.int .i64 r)) [.cells 32 (cM k1 b1 n1 s1 t1 N1 L1),.cells 32 (cM k2 b2 n2 s2 t2 N2 L2)] []):=by
 have bw:=hx;obtain⟨cQ,jW,n_1,s_1,dD,aT,dn,rfl,cI,cH,fK,dS,eW,eM⟩:=T.aB bw;have dB:=hy;obtain⟨ck,j6,n_2,s_2,iX,b8,eo,rfl,gx,kB,tM,rS,tN,qG⟩:=T.aB dB;obtain⟨nK,JH⟩:=Fb m;obtain⟨ev,aJ,zw,e_self⟩:∃ev,aC (cf m) ev/\Has ev 87 (rN (λx y=>T .string x/\T .string y) (λx y=>.int .i64 (nK x y)))/\Has ev 84 (rN (λa b=>a=(aA cQ jW n_1 s_1 dD aT dn)/\b=(aA ck j6 n_2 s_2 iX b8 eo)) λa b=>.int .i64 (fC a b)):=⟨_,(aq (dL (λx y h=>(JH x y h).1)) (aq (dL λa b h=>by obtain⟨rfl,rfl⟩:=h;exact hC) aF)),au,(av rfl au)⟩;refine AX.start 45 5 Tryz.func136 rfl (by decide) rfl rfl (by decide) ?_;refine AX.frames ?_;rcases aL (decide (((j:Nat):Int)<(min ((N1.length:Nat):Int) ((N2.length:Nat):Int)))) with hg3|hg3
 ·have Fc:=of_decide_eq_true hg3;obtain⟨e4,uE⟩:=dw N1 j;have p7:=(aiM e4 (fU uE));obtain⟨v_5,rfl,xM⟩:=T.bF p7;obtain⟨e6,he6⟩:=dw N2 j;have Dj:=(aiN e6 (fU he6));obtain⟨v_7,rfl,aaA⟩:=T.bF Dj;rcases aL ((!(v_5==v_7))) with jq|jq
  ·have BS:=ne_of_beq_false (wq jq);exact⟨(nK (.str v_5) (.str v_7)),kf ah ([oL .i64 ((N1.length:Nat):Int) ((N2.length:Nat):Int)]++rq 4 (oB hg3) ([oE uE]++rq 5 (oB hg3) ([oE he6,oB hg3,oB hg3,oB hg3,oB jq,oE uE,oE he6,oC (eH zw (x:=.str v_5) (y:=.str v_7) ⟨p7,Dj⟩)])))⟩
  ·have BS:=eq_of_beq (pH jq);exact⟨(fC (aA cQ jW n_1 s_1 dD aT dn) (aA ck j6 n_2 s_2 iX b8 eo)),kf ah ([oL .i64 ((N1.length:Nat):Int) ((N2.length:Nat):Int)]++rq 4 (oB hg3) ([oE uE]++rq 5 (oB hg3) ([oE he6,oB hg3,oB hg3,oB hg3,oB jq,oC (eH e_self (x:=(aA cQ jW n_1 s_1 dD aT dn)) (y:=(aA ck j6 n_2 s_2 iX b8 eo)) ⟨rfl,rfl⟩)])))⟩
 ·have Fc:=of_decide_eq_false hg3;exact⟨(fC (aA cQ jW n_1 s_1 dD aT dn) (aA ck j6 n_2 s_2 iX b8 eo)),kf ah ([oL .i64 ((N1.length:Nat):Int) ((N2.length:Nat):Int)]++rq 12 (oB hg3) ([oF,oC (eH e_self (x:=(aA cQ jW n_1 s_1 dD aT dn)) (y:=(aA ck j6 n_2 s_2 iX b8 eo)) ⟨rfl,rfl⟩)]))⟩
theorem aew (m:Int)(k1:Int)(b1:Bool)(n1:Int)(s1 t1:List UInt8)(N1 L1:List Tree)(k2:Int)(b2:Bool)(n2:Int)(s2 t2:List UInt8)(N2 L2:List Tree)(hN1:N1.length<=4194304)(aiM:∀y∈N1,T .string y)(hN2:N2.length<=4194304)(aiN:∀y∈N2,T .string y)(hL1:L1.length<=4194304)(aqt:∀y∈L1,T .az y)(hL2:L2.length<=4194304)(aqu:∀y∈L2,T .az y)(h:∀a∈L1,∀b∈L2,∃r:Int,R2 (cf m) 84 a b (.int .i64 r)):∃q:Tree->Tree->Tree->Int,∀x y z,AtB L1 L2 x y z->RK3 (cf m) 136 [.ptr (.arg 0) 0,.ptr (.arg 1) 0] [.cells 32 (cM k1 b1 n1 s1 t1 N1 L1),.cells 32 (cM k2 b2 n2 s2 t2 N2 L2)] x y z (.int .i64 (q x y z)):=by
 obtain⟨fC,hC⟩:=bK (α:=Tree×Tree) (P:=λp=>p.1∈L1/\p.2∈L2) (Q:=λp (r:Int)=>R2 (cf m) 84 p.1 p.2 (.int .i64 r)) λp hp=>h p.1 hp.1 p.2 hp.2
 obtain⟨q,hq⟩:=bK (α:=Tree×Tree×Tree) (P:=λp=>AtB L1 L2 p.1 p.2.1 p.2.2) (Q:=λp (r:Int)=>RK3 (cf m) 136 [.ptr (.arg 0) 0,.ptr (.arg 1) 0] [.cells 32 (cM k1 b1 n1 s1 t1 N1 L1),.cells 32 (cM k2 b2 n2 s2 t2 N2 L2)] p.1 p.2.1 p.2.2 (.int .i64 r)) λp hp=>by
  obtain⟨x,y,z⟩:=p;obtain⟨j,rfl,hj,h1,h2⟩:=hp;exact aev m k1 b1 n1 s1 t1 N1 L1 k2 b2 n2 s2 t2 N2 L2 hN1 aiM hN2 aiN j hj y z (aqt _ h1) (aqu _ h2) (λa b=>fC (a,b)) (hC (y,z) ⟨h1,h2⟩)
 exact⟨λx y z=>q (x,y,z),λx y z h=>hq (x,y,z) h⟩
def lsV:Tree->List Tree
 |.agg [_,_,_,_,_,_,.sl l]=>l
 |_=>[]
theorem aiO (m:Int)(x y:Tree)(hx:T .az x)(hy:T .az y)(WO:∀a∈lsV x,∀b∈lsV y,∃r:Int,R2 (cf m) 84 a b (.int .i64 r)):∃r:Int,ai (cf m) 84 [.t x,.t y] [] (.ret (.t (.int .i64 r)) [] []):=by
 have bw:=hx;obtain⟨cQ,jW,n_1,s_1,dD,aT,dn,rfl,cI,cH,fK,dS,eW,eM⟩:=T.aB bw;have dB:=hy;obtain⟨ck,j6,n_2,s_2,iX,b8,eo,rfl,gx,kB,tM,rS,tN,qG⟩:=T.aB dB;obtain⟨QL,aaB⟩:=QC m;obtain⟨QM,aaC⟩:=QF m;obtain⟨nK,JH⟩:=Fb m;obtain⟨QA,aat⟩:=Qz m;obtain⟨qa,hqa⟩:=aew m cQ jW n_1 s_1 dD aT dn ck j6 n_2 s_2 iX b8 eo cm dS cm rS cm eM cm qG WO;obtain⟨ra,hra⟩:=al4 m cQ jW n_1 s_1 dD aT dn ck j6 n_2 s_2 iX b8 eo qa dn eo cm eM cm qG hqa;obtain⟨ev,aJ,aaD,aaE,zw,aau,al5⟩:∃ev,aC (cf m) ev/\Has ev 133 (rN (λx y=>T .jS x/\T .jS y) (λx y=>.int .i64 (QL x y)))/\Has ev 134 (rN (λx y=>T .int64 x/\T .int64 y) (λx y=>.int .i64 (QM x y)))/\Has ev 87 (rN (λx y=>T .string x/\T .string y) (λx y=>.int .i64 (nK x y)))/\Has ev 86 (mL (λx=>T .Lint x) (λx=>.int .i64 (QA x)))/\Has ev 135 (px (.t (.sl dn):: .t (.sl eo)::[.fn (.func 136) [] [.ptr (.arg 0) 0,.ptr (.arg 1) 0]]) [.cells 32 (cM cQ jW n_1 s_1 dD aT dn),.cells 32 (cM ck j6 n_2 s_2 iX b8 eo)] (.ret (.t (.int .i64 ra)) [.cells 32 (cM cQ jW n_1 s_1 dD aT dn),.cells 32 (cM ck j6 n_2 s_2 iX b8 eo)] [])):=⟨_,(aq (dL (λx y h=>(aaB x y h).1)) (aq (dL (λx y h=>(aaC x y h).1)) (aq (dL (λx y h=>(JH x y h).1)) (aq (bR (λx h=>(aat x h).1)) (aq (fQ hra) aF))))),au,(av rfl au),(av rfl (av rfl au)),(av rfl (av rfl (av rfl au))),(av rfl (av rfl (av rfl (av rfl au))))⟩;refine AX.start 67 2 Tryz.func84 rfl (by decide) rfl rfl (by decide) ?_;refine AX.frames ?_;rcases aL ((cQ != ck)) with bL|bL
 ·have mC:=cG bL;exact⟨(QL (.int .u8 cQ) (.int .u8 ck)),kf ah [oB bL,oC (eH aaD (x:=.int .u8 cQ) (y:=.int .u8 ck) ⟨(.jS _),(.jS _)⟩)]⟩
 ·have mC:=bE bL;rcases aL ((cQ==0)) with gP|gP
  ·have tI:=eq_of_beq gP;rcases aL ((jW==j6)) with jl|jl
   ·have BT:=eq_of_beq jl;exact⟨0,kf ah [oB bL,oB gP,oB jl]⟩
   ·have BT:=ne_of_beq_false jl;rcases aL (jW) with lN|lN
    ·exact⟨1,kf ah [oB bL,oB gP,oB jl,oB lN]⟩
    ·exact⟨-1,kf ah [oB bL,oB gP,oB jl,oB lN]⟩
  ·have tI:=ne_of_beq_false gP;rcases aL ((cQ==1)) with gh|gh
   ·have mN:=eq_of_beq gh;exact⟨(QM (.int .i64 n_1) (.int .i64 n_2)),kf ah [oB bL,oB gP,oB gh,oC (eH aaE (x:=.int .i64 n_1) (y:=.int .i64 n_2) ⟨(.int64 _),(.int64 _)⟩)]⟩
   ·have mN:=ne_of_beq_false gh;rcases aL ((cQ==2)) with jq|jq
    ·have BS:=eq_of_beq jq;exact⟨(nK (.str s_1) (.str s_2)),kf ah [oB bL,oB gP,oB gh,oB jq,oB jq,oB jq,oC (eH zw (x:=.str s_1) (y:=.str s_2) ⟨(.string _ cm),(.string _ cm)⟩)]⟩
    ·have BS:=ne_of_beq_false jq;rcases aL ((cQ==3)) with p8|p8
     ·have Fe:=eq_of_beq p8;exact⟨(QA (.sl [.int .i64 (nK (.str dD) (.str iX)),.int .i64 (nK (.str s_1) (.str s_2))])),kf ah [oB bL,oB gP,oB gh,oB jq,oB p8,oB jq,oC (eH zw (x:=.str dD) (y:=.str iX) ⟨(.string _ cm),(.string _ cm)⟩),oC (eH zw (x:=.str s_1) (y:=.str s_2) ⟨(.string _ cm),(.string _ cm)⟩),oC (bS aau (x:=.sl [.int .i64 (nK (.str dD) (.str iX)),.int .i64 (nK (.str s_1) (.str s_2))]) (.Lint _ cm (bI (.int _) (bI (.int _) (λ_ h=>absurd h (by simp))))))]⟩
     ·have Fe:=ne_of_beq_false p8;rcases aL ((cQ==4)) with k3|k3
      ·have JI:=eq_of_beq k3;exact⟨ra,kf ah [oB bL,oB gP,oB gh,oB jq,oB p8,oB k3,oB k3,oC (jm al5)]⟩
      ·have JI:=ne_of_beq_false k3;rcases aL ((cQ==5)) with iE|iE
       ·have aaF:=eq_of_beq iE;exact⟨ra,kf ah [oB bL,oB gP,oB gh,oB jq,oB p8,oB k3,oB iE,oC (jm al5)]⟩
       ·have aaF:=ne_of_beq_false iE;exact⟨0,kf ah [oB bL,oB gP,oB gh,oB jq,oB p8,oB k3,oB iE]⟩
theorem QN (m:Int):∃F:Tree->Tree->Int,∀x y,T .az x/\T .az y->R2 (cf m) 84 x y (.int .i64 (F x y)):=by
 have key:∀(k:K) (x:Tree),T k x->k=.az->∀y,T .az y->∃r:Int,R2 (cf m) 84 x y (.int .i64 r):=by
  intro k x h;induction h with
  |az k1 b1 n1 s1 t1 N1 L1 hs ht h0 h1 h2 h3 _ ih=>exactλ_ y hy=>aiO m _ y (.az k1 b1 n1 s1 t1 N1 L1 hs ht h0 h1 h2 h3) hy λa ha b hb=>ih a ha rfl b (by obtain⟨k2,b2,n2,s2,t2,N2,L2,rfl,_,_,_,_,_,g3⟩:=T.aB hy;exact g3 b hb)
  |_=>exactλe=>(by cases e)
 exact zo (Tree.int .i64) λb x h=>key _ b h.1 rfl x h.2
theorem aaG (m:Int):∃F:Tree->Int,∀x,(T .int64 x)->R1 (cf m) 219 x (.int .u64 (F x))/\(True):=by
 refine BF (P:=λx=>T .int64 x) (mk:=λ(r:Int)=>.int .u64 r) (Post:=λx r=>True) λx hx=> ?_
 show ∃r:{r:Int // True},ai (cf m) 219 [.t x] [] (.ret (.t (.int .u64 r.1)) [] []);have bw:=hx;obtain⟨v_1,rfl⟩:=T.nV bw;obtain⟨ev,aJ⟩:∃ev,aC (cf m) ev:=⟨_,aF⟩;refine AX.start 10 1 Tryz.func219 rfl (by decide) rfl rfl (by decide) ?_;refine AX.frames ?_;rcases aL (decide (v_1<0)) with cq|cq
 ·have jN:=of_decide_eq_true cq;refine⟨⟨(IntKind.wrap .u64 (0 - ((IntKind.wrap .u64 v_1)))), ?_⟩,kf ah [oB cq,oZ]⟩;trivial
 ·have jN:=of_decide_eq_false cq;refine⟨⟨(IntKind.wrap .u64 v_1), ?_⟩,kf ah [oB cq,oZ]⟩;trivial
theorem aaH (m:Int)(k1:Int)(b1:Bool)(n1:Int)(s1 t1:List UInt8)(hs1:s1.length<=4194304)(ht1:t1.length<=4194304)(ns ks:List Tree)(ln:ns.length<=4194304)(Yg:∀y∈ns,T .string y)(lk:ks.length<=4194304)(hks:∀y∈ks,T .az y)(fS:Tree->Int×Int×Bool)(hS:∀y∈ks,ai (cf m) 42 [.t y] [] (.ret (.t (.cF [.int .i64 (fS y).1,.int .i64 (fS y).2.1,.bool (fS y).2.2])) [] [])):∃r:Int×Int×Bool,ai (cf m) 42 [.t (aA k1 b1 n1 s1 t1 ns ks)] [] (.ret (.t (.cF [.int .i64 r.1,.int .i64 r.2.1,.bool r.2.2])) [] []):=by
 obtain⟨De,TD⟩:=xL m;obtain⟨zy,NY⟩:=Dd m;obtain⟨al6,aqv⟩:=QN m;obtain⟨ev,aJ,Fa,Ff,e_self,JJ⟩:∃ev,aC (cf m) ev/\Has ev 41 (mL (λx=>PS x) (λx=>.bool (De x)))/\Has ev 22 (mL (λx=>T .aH x) (λx=>.int .i64 (zy x)))/\Has ev 42 (mL (λy=>y∈ks) λy=>.cF [.int .i64 (fS y).1,.int .i64 (fS y).2.1,.bool (fS y).2.2])/\Has ev 84 (rN (λx y=>T .az x/\T .az y) (λx y=>.int .i64 (al6 x y))):=⟨_,(aq (bR (λx h=>(TD x h))) (aq (bR (λx h=>(NY x h).1)) (aq (bR hS) (aq (dL (λx y h=>(aqv x y h))) aF)))),au,(av rfl au),(av rfl (av rfl au)),(av rfl (av rfl (av rfl au)))⟩;refine AX.start 220 1 Tryz.func42 rfl (by decide) rfl rfl (by decide) ?_;refine AX.frames ?_;refine Vh (f:=0) ah aJ (α:=Bool×Bool×Int×List UInt8×List UInt8) (λx=>⟨eC 220 [(1,.ptr (.loc [0]) 0),(2,.t (.int .i64 0)),(3,.t (.int .i64 0)),(4,.t (.bool x.1)),(5,.ptr (.loc [1]) 0)],[(.loc [0],.cells 32 (cM k1 b1 n1 s1 t1 ns ks)),(.loc [1],.cells 32 [.t (.int .u8 k1),.t (.bool x.2.1),.t (.int .i64 x.2.2.1),.t (.str x.2.2.2.1),.t (.str x.2.2.2.2),.bX,.bX])],2⟩) (λx=>(x.1=true->k1=5->ns.length=ks.length)) 2 (n:=3000) (once:=[]) (k:=220) (T:=2) (S:=[.loc [0],.loc [7]]) (ks:=[.loc [0],.loc [7]]) (live:=[1,2,3,4,5]) (aer (Tryz.f42.body.getD .skip) 15) (⟨eC 220 [(1,.ptr (.loc [0]) 0),(2,.t (.int .i64 0)),(3,.t (.int .i64 0)),(4,.t (.bool false)),(5,.ptr (.loc [1]) 0)],[(.loc [0],.cells 32 (cM k1 b1 n1 s1 t1 ns ks)),(.loc [1],.cells 32 [.t (.int .u8 k1),.t (.bool false),.t (.int .i64 0),.t (.str []),.t (.str []),.bX,.bX])],2⟩) [] (by kernel_rfl) ?_ ?_
 ·rcases aL ((k1==0)) with cq|cq
  ·have jN:=eq_of_beq cq;exact⟨.inl ⟨⟨true,b1,0,[],[]⟩,(by intro h1 h2;first|omega|(have:=eq_of_beq h1;omega))⟩,kr ah 220 2 [.loc [0],.loc [1]] [1,2,3,4,5] [oB cq]⟩
  ·have jN:=ne_of_beq_false cq;rcases aL ((k1==1)) with bL|bL
   ·have mC:=eq_of_beq bL;exact⟨.inl ⟨⟨true,false,n1,[],[]⟩,(by intro h1 h2;first|omega|(have:=eq_of_beq h1;omega))⟩,kr ah 220 2 [.loc [0],.loc [1]] [1,2,3,4,5] [oB cq,oB bL]⟩
   ·have mC:=ne_of_beq_false bL;rcases aL ((k1==2)) with gP|gP
    ·have tI:=eq_of_beq gP;rcases aL (decide (((s1.length:Nat):Int)<=256)) with nJ|nJ
     ·have JK:=of_decide_eq_true nJ;exact⟨.inl ⟨⟨(De (.str s1)),false,0,s1,[]⟩,(by intro h1 h2;first|omega|(have:=eq_of_beq h1;omega))⟩,kr ah 220 2 [.loc [0],.loc [1]] [1,2,3,4,5] [oB cq,oB bL,oB gP,oB nJ,oB nJ,oB nJ,oC (bS Fa (x:=.str s1) ⟨_,rfl⟩),oB nJ]⟩
     ·have JK:=of_decide_eq_false nJ;exact⟨.inl ⟨⟨false,false,0,s1,[]⟩,(by intro h1 h2;first|omega|(have:=eq_of_beq h1;omega))⟩,kr ah 220 2 [.loc [0],.loc [1]] [1,2,3,4,5] ([oB cq,oB bL,oB gP]++rq 4 (oB nJ) ([]))⟩
    ·have tI:=ne_of_beq_false gP;rcases aL ((k1==3)) with lN|lN
     ·have zu:=eq_of_beq lN;exact⟨.inl ⟨⟨((zy (.agg [.str t1,.str s1]))==0),false,0,s1,t1⟩,(by intro h1 h2;first|omega|(have:=eq_of_beq h1;omega))⟩,kr ah 220 2 [.loc [0],.loc [1]] [1,2,3,4,5] [oB cq,oB bL,oB gP,oB lN,oC (bS Ff (x:=.agg [.str t1,.str s1]) (.aH _ _ cm cm))]⟩
     ·have zu:=ne_of_beq_false lN;rcases aL ((k1==4)) with gh|gh
      ·have mN:=eq_of_beq gh;exact⟨.inl ⟨⟨(((ns.length:Nat):Int)==0),false,0,[],[]⟩,(by intro h1 h2;first|omega|(have:=eq_of_beq h1;omega))⟩,kr ah 220 2 [.loc [0],.loc [1]] [1,2,3,4,5] [oB cq,oB bL,oB gP,oB lN,oB gh]⟩
      ·have mN:=ne_of_beq_false gh;rcases aL ((k1==5)) with jq|jq
       ·have BS:=eq_of_beq jq;exact⟨.inl ⟨⟨(((ns.length:Nat):Int)==((ks.length:Nat):Int)),false,0,[],[]⟩,(by intro h1 h2;first|omega|(have:=eq_of_beq h1;omega))⟩,kr ah 220 2 [.loc [0],.loc [1]] [1,2,3,4,5] [oB cq,oB bL,oB gP,oB lN,oB gh,oB jq]⟩
       ·have BS:=ne_of_beq_false jq;exact⟨.inl ⟨⟨false,false,0,[],[]⟩,(by intro h1 h2;first|omega|(have:=eq_of_beq h1;omega))⟩,kr ah 220 2 [.loc [0],.loc [1]] [1,2,3,4,5] [oB cq,oB bL,oB gP,oB lN,oB gh,oB jq]⟩
 ·rintro ⟨aaI,Dk,Dl,Dm,Dn⟩ hok;replace hok:(aaI=true->k1=5->ns.length=ks.length):=hok;have cO:=hok;refine Vh (f:=0) ah aJ (α:=Bool) (λx=>⟨eC 220 [(1,.ptr (.loc [0]) 0),(2,.t (.int .i64 0)),(3,.t (.int .i64 0)),(4,.t (.bool aaI)),(5,.ptr (.loc [1]) 0),(6,.t (.bool x))],[(.loc [0],.cells 32 (cM k1 b1 n1 s1 t1 ns ks)),(.loc [1],.cells 32 [.t (.int .u8 k1),.t (.bool Dk),.t (.int .i64 Dl),.t (.str Dm),.t (.str Dn),.bX,.bX])],2⟩) (λx=>True) 15 (n:=3000) (once:=[]) (k:=220) (T:=2) (S:=[.loc [0],.loc [1]]) (ks:=[.loc [0],.loc [1]]) (live:=[1,2,3,4,5]) (aer (Tryz.f42.body.getD .skip) 16) (⟨eC 220 [(1,.ptr (.loc [0]) 0),(2,.t (.int .i64 0)),(3,.t (.int .i64 0)),(4,.t (.bool aaI)),(5,.ptr (.loc [1]) 0)],[(.loc [0],.cells 32 (cM k1 b1 n1 s1 t1 ns ks)),(.loc [1],.cells 32 [.t (.int .u8 k1),.t (.bool Dk),.t (.int .i64 Dl),.t (.str Dm),.t (.str Dn),.bX,.bX])],2⟩) [] (by kernel_rfl) ?_ ?_
  ·rcases aL ((k1==4)) with gQ|gQ
   ·have QS:=eq_of_beq gQ;exact⟨.inl ⟨true,trivial⟩,kr ah 220 2 [.loc [0],.loc [1]] [1,2,3,4,5,6] (rq 4 (oB gQ) ([]))⟩
   ·have QS:=ne_of_beq_false gQ;exact⟨.inl ⟨(k1==5),trivial⟩,kr ah 220 2 [.loc [0],.loc [1]] [1,2,3,4,5,6] (rq 4 (oB gQ) ([]))⟩
  ·intro al7 hok;refine Vh (f:=0) ah aJ (α:=Bool) (λx=>⟨eC 220 [(1,.ptr (.loc [0]) 0),(2,.t (.int .i64 0)),(3,.t (.int .i64 0)),(4,.t (.bool x))],[(.loc [0],.cells 32 (cM k1 b1 n1 s1 t1 ns ks))],1⟩) (λx=>(x=true->k1=5->ns.length=ks.length)) 16 (n:=3000) (once:=[]) (k:=220) (T:=2) (S:=[.loc [0],.loc [1]]) (ks:=[.loc [0],.loc [1]]) (live:=[1,2,3,4,5,6]) (aer (Tryz.f42.body.getD .skip) 17) (⟨eC 220 [(1,.ptr (.loc [0]) 0),(2,.t (.int .i64 0)),(3,.t (.int .i64 0)),(4,.t (.bool aaI)),(5,.ptr (.loc [1]) 0),(6,.t (.bool al7))],[(.loc [0],.cells 32 (cM k1 b1 n1 s1 t1 ns ks)),(.loc [1],.cells 32 [.t (.int .u8 k1),.t (.bool Dk),.t (.int .i64 Dl),.t (.str Dm),.t (.str Dn),.bX,.bX])],2⟩) [] (by kernel_rfl) ?_ ?_
   ·rcases aL (aaI) with cC|cC
    ·rcases aL ((b1==Dk)) with eS|eS
     ·have Dq:=eq_of_beq eS;rcases aL ((n1==Dl)) with lg|lg
      ·have JL:=eq_of_beq lg;rcases aL ((s1==Dm)) with kg|kg
       ·have QT:=eq_of_beq kg;rcases aL ((t1==Dn)) with iV|iV
        ·have QU:=eq_of_beq iV;rcases aL (al7) with sH|sH
         ·exact⟨.inl ⟨decide (((ks.length:Nat):Int)<=16),(by intro h1 h2;first|exact cO (by assumption) h2|exact absurd h1 (by decide))⟩,kr ah 220 1 [.loc [0]] [1,2,3,4] (rq 6 (oB cC) (rq 6 (oB eS) (rq 6 (oB lg) (rq 6 (oB kg) ([oB iV,oB iV]++rq 8 (oB sH) ([oB iV,oB sH,oB iV]++rq 5 oT ([])))))))⟩
         ·rcases aL ((((ks.length+ns.length:Nat):Int)==0)) with sI|sI
          ·have aaJ:=eq_of_beq sI;exact⟨.inl ⟨decide (((ks.length:Nat):Int)<=16),(by intro h1 h2;first|exact cO (by assumption) h2|exact absurd h1 (by decide))⟩,kr ah 220 1 [.loc [0]] [1,2,3,4] (rq 6 (oB cC) (rq 6 (oB eS) (rq 6 (oB lg) (rq 6 (oB kg) ([oB iV,oB iV]++rq 7 (oB sH) ([HN ks.length ns.length (by first|omega|(simp;omega)),oB sH,oB iV,oB sH,oB iV]++rq 5 (oB sI) ([])))))))⟩
          ·have aaJ:=ne_of_beq_false sI;exact⟨.inl ⟨false,(by intro h1 h2;first|exact cO (by assumption) h2|exact absurd h1 (by decide))⟩,kr ah 220 1 [.loc [0]] [1,2,3,4] (rq 6 (oB cC) (rq 6 (oB eS) (rq 6 (oB lg) (rq 6 (oB kg) ([oB iV,oB iV]++rq 7 (oB sH) ([HN ks.length ns.length (by first|omega|(simp;omega)),oB sH,oB iV,oB sH,oB iV]++rq 5 (oB sI) ([])))))))⟩
        ·have QU:=ne_of_beq_false iV;exact⟨.inl ⟨false,(by intro h1 h2;first|exact cO (by assumption) h2|exact absurd h1 (by decide))⟩,kr ah 220 1 [.loc [0]] [1,2,3,4] (rq 6 (oB cC) (rq 6 (oB eS) (rq 6 (oB lg) (rq 6 (oB kg) (rq 4 (oB iV) (rq 5 oF ([])))))))⟩
       ·have QT:=ne_of_beq_false kg;exact⟨.inl ⟨false,(by intro h1 h2;first|exact cO (by assumption) h2|exact absurd h1 (by decide))⟩,kr ah 220 1 [.loc [0]] [1,2,3,4] (rq 6 (oB cC) (rq 6 (oB eS) (rq 6 (oB lg) (rq 6 (oB kg) (rq 9 oF ([]))))))⟩
      ·have JL:=ne_of_beq_false lg;exact⟨.inl ⟨false,(by intro h1 h2;first|exact cO (by assumption) h2|exact absurd h1 (by decide))⟩,kr ah 220 1 [.loc [0]] [1,2,3,4] (rq 6 (oB cC) (rq 6 (oB eS) (rq 6 (oB lg) (rq 15 oF ([])))))⟩
     ·have Dq:=ne_of_beq_false eS;exact⟨.inl ⟨false,(by intro h1 h2;first|exact cO (by assumption) h2|exact absurd h1 (by decide))⟩,kr ah 220 1 [.loc [0]] [1,2,3,4] (rq 6 (oB cC) (rq 6 (oB eS) (rq 21 oF ([]))))⟩
    ·exact⟨.inl ⟨false,(by intro h1 h2;first|exact cO (by assumption) h2|exact absurd h1 (by decide))⟩,kr ah 220 1 [.loc [0]] [1,2,3,4] (rq 6 (oB cC) (rq 27 oF ([])))⟩
   ·intro ahi hok;replace hok:(ahi=true->k1=5->ns.length=ks.length):=hok;have JM:=hok;refine kl (α:=Nat×Int×Int×Bool) ah 0 [] 220 1 [.loc [0]] [.loc [0]] [1,2,3,4,7] (λx=>⟨eC 220 [(1,.ptr (.loc [0]) 0),(2,.t (.int .i64 x.2.1)),(3,.t (.int .i64 x.2.2.1)),(4,.t (.bool x.2.2.2)),(7,.t (.int .i64 ((x.1:Nat):Int)))],[(.loc [0],.cells 32 (cM k1 b1 n1 s1 t1 ns ks))],1⟩) (λx=>(x.1<=ks.length)/\(k1=5->(x.2.2.2=true\/0<x.1)->ns.length=ks.length)) (λx=>ks.length - x.1) (⟨0,0,0,ahi⟩) (j4 (Tryz.f42.body.getD .skip) 18) [] ⟨Nat.zero_le _,λh1 h2=>JM (h2.resolve_right (by simp)) h1⟩ (λx hok=> ?_);obtain⟨uF,iW,pM,Vk⟩:=x;replace hok:(uF<=ks.length)/\(k1=5->(Vk=true\/0<uF)->ns.length=ks.length):=hok;obtain⟨al8,JN⟩:=hok;rcases aL (Vk) with xN|xN
    ·rcases aL (decide (((uF:Nat):Int)<((ks.length:Nat):Int))) with Hj|Hj
     ·have aaK:=of_decide_eq_true Hj;refine Vh (f:=0) ah aJ (α:=Int×Int×Bool) (λx=>⟨eC 220 [(1,.ptr (.loc [0]) 0),(2,.t (.int .i64 x.1)),(3,.t (.int .i64 x.2.1)),(4,.t (.bool x.2.2)),(7,.t (.int .i64 ((uF:Nat):Int)))],[(.loc [0],.cells 32 (cM k1 b1 n1 s1 t1 ns ks))],1⟩) (λx=>True) 20 (n:=3000) (once:=[]) (k:=220) (T:=1) (S:=[.loc [0]]) (ks:=[.loc [0]]) (live:=[1,2,3,7]) (aer (Tryz.f42.body.getD .skip) 19) (⟨eC 220 [(1,.ptr (.loc [0]) 0),(2,.t (.int .i64 iW)),(3,.t (.int .i64 pM)),(7,.t (.int .i64 ((uF:Nat):Int)))],[(.loc [0],.cells 32 (cM k1 b1 n1 s1 t1 ns ks))],1⟩) (rq 6 (oB xN) ([oB Hj])) (by kernel_rfl) ?_ ?_
      ·obtain⟨e23,od⟩:=dw ks uF;have Vl:=(hks e23 (fU od));obtain⟨bM,eE,fR,fT,dI,bh,bN,rfl,aex,aey,aez,aeA,aeB,aeC⟩:=T.aB Vl;have AI:=bS e_self (x:=(aA bM eE fR fT dI bh bN)) (fU od);rcases aL (decide (((uF:Nat):Int)>0)) with qH|qH
       ·have al9:=of_decide_eq_true qH;rcases aL ((k1==4)) with Hl|Hl
        ·have ama:=eq_of_beq Hl;rcases aL ((fS (aA bM eE fR fT dI bh bN)).2.2) with BU|BU
         ·obtain⟨e28,Fg⟩:=dw ks (uF - 1);have Vm:=(hks e28 (fU Fg));obtain⟨Vn,ahj,JO,JP,zz,mE,Vo,rfl,aeD,aeE,aeF,aeG,aeH,aeI⟩:=T.aB Vm;exact⟨.inl ⟨⟨(max iW ((fS (aA bM eE fR fT dI bh bN)).1)),(IntKind.wrap .i64 (pM+(fS (aA bM eE fR fT dI bh bN)).2.1)),decide ((al6 (aA Vn ahj JO JP zz mE Vo) (aA bM eE fR fT dI bh bN))<0)⟩,trivial⟩,kr ah 220 1 [.loc [0]] [1,2,3,4,7] ([oE od,oC AI,oG .i64 iW ((fS (aA bM eE fR fT dI bh bN)).1),oZ]++rq 4 (oB qH) ([oB Hl]++rq 4 (oB BU) ([oS (uF) (by omega) (by omega),oB BU,oE Fg]++rq 5 (oB BU) ([oE od,oB BU,oB BU,oC (eH JJ (x:=(aA Vn ahj JO JP zz mE Vo)) (y:=(aA bM eE fR fT dI bh bN)) ⟨Vm,Vl⟩),oB BU,oB BU]))))⟩
         ·exact⟨.inl ⟨⟨(max iW ((fS (aA bM eE fR fT dI bh bN)).1)),(IntKind.wrap .i64 (pM+(fS (aA bM eE fR fT dI bh bN)).2.1)),false⟩,trivial⟩,kr ah 220 1 [.loc [0]] [1,2,3,4,7] ([oE od,oC AI,oG .i64 iW ((fS (aA bM eE fR fT dI bh bN)).1),oZ]++rq 4 (oB qH) ([oB Hl]++rq 14 (oB BU) ([])))⟩
        ·have ama:=ne_of_beq_false Hl;rcases aL ((k1==5)) with Li|Li
         ·have amb:=eq_of_beq Li;have hln:=JN (by first|assumption|omega) (.inl (by assumption));obtain⟨e31,TE⟩:=dw ns uF;have amc:=(Yg e31 (fU TE));obtain⟨TF,rfl,apv⟩:=T.bF amc;rcases aL ((fS (aA bM eE fR fT dI bh bN)).2.2) with xO|xO
          ·rcases aL ((!(TF==[]))) with Fh|Fh
           ·have amd:=ne_of_beq_false (wq Fh);rcases aL (decide (((TF.length:Nat):Int)<=64)) with vI|vI
            ·have aaL:=of_decide_eq_true vI;rcases aL ((De (.str TF))) with Ho|Ho
             ·rcases aL ((((uF:Nat):Int)==0)) with AJ|AJ
              ·have ame:=eq_of_beq AJ;exact⟨.inl ⟨⟨(max iW ((fS (aA bM eE fR fT dI bh bN)).1)),(IntKind.wrap .i64 (pM+(fS (aA bM eE fR fT dI bh bN)).2.1)),true⟩,trivial⟩,kr ah 220 1 [.loc [0]] [1,2,3,4,7] ([oE od,oC AI,oG .i64 iW ((fS (aA bM eE fR fT dI bh bN)).1),oZ]++rq 4 (oB qH) ([oB Hl,oB Li,oE TE,oB xO,oB xO,oB xO]++rq 4 (oB Fh) ([oB vI,oB vI,oC (bS Fa (x:=.str TF) ⟨_,rfl⟩),oB vI,oB Ho,oB Ho,oB Ho]++rq 8 (oB AJ) ([oB Ho,oB AJ,oB Ho]))))⟩
              ·have ame:=ne_of_beq_false AJ;obtain⟨e38,amf⟩:=dw ns (uF - 1);have amg:=(Yg e38 (fU amf));obtain⟨aqw,rfl,apw⟩:=T.bF amg;exact⟨.inl ⟨⟨(max iW ((fS (aA bM eE fR fT dI bh bN)).1)),(IntKind.wrap .i64 (pM+(fS (aA bM eE fR fT dI bh bN)).2.1)),(jw aqw TF)⟩,trivial⟩,kr ah 220 1 [.loc [0]] [1,2,3,4,7] ([oE od,oC AI,oG .i64 iW ((fS (aA bM eE fR fT dI bh bN)).1),oZ]++rq 4 (oB qH) ([oB Hl,oB Li,oE TE,oB xO,oB xO,oB xO]++rq 4 (oB Fh) ([oB vI,oB vI,oC (bS Fa (x:=.str TF) ⟨_,rfl⟩),oB vI,oB Ho,oB Ho,oB Ho]++rq 4 (oB AJ) ([oS (uF) (by omega) (by omega),oB AJ,oE amf,oB AJ,oB AJ,oB AJ,oB Ho,oB AJ,oB Ho]))))⟩
             ·exact⟨.inl ⟨⟨(max iW ((fS (aA bM eE fR fT dI bh bN)).1)),(IntKind.wrap .i64 (pM+(fS (aA bM eE fR fT dI bh bN)).2.1)),false⟩,trivial⟩,kr ah 220 1 [.loc [0]] [1,2,3,4,7] ([oE od,oC AI,oG .i64 iW ((fS (aA bM eE fR fT dI bh bN)).1),oZ]++rq 4 (oB qH) ([oB Hl,oB Li,oE TE,oB xO,oB xO,oB xO]++rq 4 (oB Fh) ([oB vI,oB vI,oC (bS Fa (x:=.str TF) ⟨_,rfl⟩),oB vI]++rq 5 (oB Ho) ([]))))⟩
            ·have aaL:=of_decide_eq_false vI;exact⟨.inl ⟨⟨(max iW ((fS (aA bM eE fR fT dI bh bN)).1)),(IntKind.wrap .i64 (pM+(fS (aA bM eE fR fT dI bh bN)).2.1)),false⟩,trivial⟩,kr ah 220 1 [.loc [0]] [1,2,3,4,7] ([oE od,oC AI,oG .i64 iW ((fS (aA bM eE fR fT dI bh bN)).1),oZ]++rq 4 (oB qH) ([oB Hl,oB Li,oE TE,oB xO,oB xO,oB xO]++rq 4 (oB Fh) ([oB vI,oB vI,oB vI]++rq 5 oF ([]))))⟩
           ·have amd:=eq_of_beq (pH Fh);exact⟨.inl ⟨⟨(max iW ((fS (aA bM eE fR fT dI bh bN)).1)),(IntKind.wrap .i64 (pM+(fS (aA bM eE fR fT dI bh bN)).2.1)),false⟩,trivial⟩,kr ah 220 1 [.loc [0]] [1,2,3,4,7] ([oE od,oC AI,oG .i64 iW ((fS (aA bM eE fR fT dI bh bN)).1),oZ]++rq 4 (oB qH) ([oB Hl,oB Li,oE TE,oB xO,oB xO,oB xO]++rq 4 (oB Fh) (rq 8 oF ([]))))⟩
          ·exact⟨.inl ⟨⟨(max iW ((fS (aA bM eE fR fT dI bh bN)).1)),(IntKind.wrap .i64 (pM+(fS (aA bM eE fR fT dI bh bN)).2.1)),false⟩,trivial⟩,kr ah 220 1 [.loc [0]] [1,2,3,4,7] ([oE od,oC AI,oG .i64 iW ((fS (aA bM eE fR fT dI bh bN)).1),oZ]++rq 4 (oB qH) ([oB Hl,oB Li,oE TE,oB xO,oB xO,oB xO]++rq 12 oF ([])))⟩
         ·have amb:=ne_of_beq_false Li;exact⟨.inl ⟨⟨(max iW ((fS (aA bM eE fR fT dI bh bN)).1)),(IntKind.wrap .i64 (pM+(fS (aA bM eE fR fT dI bh bN)).2.1)),(fS (aA bM eE fR fT dI bh bN)).2.2⟩,trivial⟩,kr ah 220 1 [.loc [0]] [1,2,3,4,7] ([oE od,oC AI,oG .i64 iW ((fS (aA bM eE fR fT dI bh bN)).1),oZ]++rq 4 (oB qH) ([oB Hl,oB Li]))⟩
       ·have al9:=of_decide_eq_false qH;rcases aL ((k1==5)) with Lj|Lj
        ·have amh:=eq_of_beq Lj;have hln:=JN (by first|assumption|omega) (.inl (by assumption));obtain⟨e41,TG⟩:=dw ns uF;have ami:=(Yg e41 (fU TG));obtain⟨TH,rfl,apx⟩:=T.bF ami;rcases aL ((fS (aA bM eE fR fT dI bh bN)).2.2) with rT|rT
         ·rcases aL ((!(TH==[]))) with QV|QV
          ·have amj:=ne_of_beq_false (wq QV);rcases aL (decide (((TH.length:Nat):Int)<=64)) with iq|iq
           ·have aaM:=of_decide_eq_true iq;rcases aL ((De (.str TH))) with Hp|Hp
            ·rcases aL ((((uF:Nat):Int)==0)) with zA|zA
             ·have aaN:=eq_of_beq zA;exact⟨.inl ⟨⟨(max iW ((fS (aA bM eE fR fT dI bh bN)).1)),(IntKind.wrap .i64 (pM+(fS (aA bM eE fR fT dI bh bN)).2.1)),true⟩,trivial⟩,kr ah 220 1 [.loc [0]] [1,2,3,4,7] ([oE od,oC AI,oG .i64 iW ((fS (aA bM eE fR fT dI bh bN)).1),oZ]++rq 4 (oB qH) ([oF,oB Lj,oE TG,oB rT,oB rT,oB rT]++rq 4 (oB QV) ([oB iq,oB iq,oC (bS Fa (x:=.str TH) ⟨_,rfl⟩),oB iq,oB Hp,oB Hp,oB Hp]++rq 8 (oB zA) ([oB Hp,oB zA,oB Hp]))))⟩
             ·have aaN:=ne_of_beq_false zA;obtain⟨e48,amk⟩:=dw ns (uF - 1);have aml:=(Yg e48 (fU amk));obtain⟨aqx,rfl,apy⟩:=T.bF aml;exact⟨.inl ⟨⟨(max iW ((fS (aA bM eE fR fT dI bh bN)).1)),(IntKind.wrap .i64 (pM+(fS (aA bM eE fR fT dI bh bN)).2.1)),(jw aqx TH)⟩,trivial⟩,kr ah 220 1 [.loc [0]] [1,2,3,4,7] ([oE od,oC AI,oG .i64 iW ((fS (aA bM eE fR fT dI bh bN)).1),oZ]++rq 4 (oB qH) ([oF,oB Lj,oE TG,oB rT,oB rT,oB rT]++rq 4 (oB QV) ([oB iq,oB iq,oC (bS Fa (x:=.str TH) ⟨_,rfl⟩),oB iq,oB Hp,oB Hp,oB Hp]++rq 4 (oB zA) ([oS (uF) (by omega) (by omega),oB zA,oE amk,oB zA,oB zA,oB zA,oB Hp,oB zA,oB Hp]))))⟩
            ·exact⟨.inl ⟨⟨(max iW ((fS (aA bM eE fR fT dI bh bN)).1)),(IntKind.wrap .i64 (pM+(fS (aA bM eE fR fT dI bh bN)).2.1)),false⟩,trivial⟩,kr ah 220 1 [.loc [0]] [1,2,3,4,7] ([oE od,oC AI,oG .i64 iW ((fS (aA bM eE fR fT dI bh bN)).1),oZ]++rq 4 (oB qH) ([oF,oB Lj,oE TG,oB rT,oB rT,oB rT]++rq 4 (oB QV) ([oB iq,oB iq,oC (bS Fa (x:=.str TH) ⟨_,rfl⟩),oB iq]++rq 5 (oB Hp) ([]))))⟩
           ·have aaM:=of_decide_eq_false iq;exact⟨.inl ⟨⟨(max iW ((fS (aA bM eE fR fT dI bh bN)).1)),(IntKind.wrap .i64 (pM+(fS (aA bM eE fR fT dI bh bN)).2.1)),false⟩,trivial⟩,kr ah 220 1 [.loc [0]] [1,2,3,4,7] ([oE od,oC AI,oG .i64 iW ((fS (aA bM eE fR fT dI bh bN)).1),oZ]++rq 4 (oB qH) ([oF,oB Lj,oE TG,oB rT,oB rT,oB rT]++rq 4 (oB QV) ([oB iq,oB iq,oB iq]++rq 5 oF ([]))))⟩
          ·have amj:=eq_of_beq (pH QV);exact⟨.inl ⟨⟨(max iW ((fS (aA bM eE fR fT dI bh bN)).1)),(IntKind.wrap .i64 (pM+(fS (aA bM eE fR fT dI bh bN)).2.1)),false⟩,trivial⟩,kr ah 220 1 [.loc [0]] [1,2,3,4,7] ([oE od,oC AI,oG .i64 iW ((fS (aA bM eE fR fT dI bh bN)).1),oZ]++rq 4 (oB qH) ([oF,oB Lj,oE TG,oB rT,oB rT,oB rT]++rq 4 (oB QV) (rq 8 oF ([]))))⟩
         ·exact⟨.inl ⟨⟨(max iW ((fS (aA bM eE fR fT dI bh bN)).1)),(IntKind.wrap .i64 (pM+(fS (aA bM eE fR fT dI bh bN)).2.1)),false⟩,trivial⟩,kr ah 220 1 [.loc [0]] [1,2,3,4,7] ([oE od,oC AI,oG .i64 iW ((fS (aA bM eE fR fT dI bh bN)).1),oZ]++rq 4 (oB qH) ([oF,oB Lj,oE TG,oB rT,oB rT,oB rT]++rq 12 oF ([])))⟩
        ·have amh:=ne_of_beq_false Lj;exact⟨.inl ⟨⟨(max iW ((fS (aA bM eE fR fT dI bh bN)).1)),(IntKind.wrap .i64 (pM+(fS (aA bM eE fR fT dI bh bN)).2.1)),(fS (aA bM eE fR fT dI bh bN)).2.2⟩,trivial⟩,kr ah 220 1 [.loc [0]] [1,2,3,4,7] ([oE od,oC AI,oG .i64 iW ((fS (aA bM eE fR fT dI bh bN)).1),oZ]++rq 4 (oB qH) ([oF,oB Lj]))⟩
      ·rintro ⟨amm,amn,amo⟩ hok;exact⟨.inl ⟨⟨uF+1,amm,amn,amo⟩,⟨⟨(by show(uF+1)<=ks.length;omega),(λh1 _=>JN h1 (.inl (by assumption)))⟩,(by show(ks.length - (uF+1))<(ks.length - uF);omega)⟩⟩,kr ah 220 1 [.loc [0]] [1,2,3,4,7] [oI (uF) (by omega)]⟩
     ·have aaK:=of_decide_eq_false Hj;refine kx ah (rq 6 (oB xN) ([oB Hj])) ?_;exact⟨((IntKind.wrap .i64 (iW+1)),(IntKind.wrap .i64 (pM+1)),Vk),kf ah [oZ,oZ]⟩
    ·refine kx ah (rq 6 (oB xN) ([oF])) ?_;exact⟨((IntKind.wrap .i64 (iW+1)),(IntKind.wrap .i64 (pM+1)),Vk),kf ah [oZ,oZ]⟩
theorem TJ (m:Int):∃F:Tree->Int×Int×Bool,∀x,T .az x->R1 (cf m) 42 x (.cF [.int .i64 (F x).1,.int .i64 (F x).2.1,.bool (F x).2.2]):=by
 have key:∀(k:K) (x:Tree),T k x->k=.az->∃r:Int×Int×Bool,R1 (cf m) 42 x (.cF [.int .i64 r.1,.int .i64 r.2.1,.bool r.2.2]):=by
  intro k x h;induction h with
  |az k1 b1 n1 s1 t1 N1 L1 hs ht h0 h1 h2 h3 _ ih=>
   intro _
   obtain⟨fS,hS⟩:=bK (α:=Tree) (P:=λy=>y∈L1) (Q:=λy (r:Int×Int×Bool)=>R1 (cf m) 42 y (.cF [.int .i64 r.1,.int .i64 r.2.1,.bool r.2.2])) λy hy=>ih y hy rfl
   exact aaH m k1 b1 n1 s1 t1 hs ht N1 L1 h0 h1 h2 h3 fS hS
  |_=>exactλe=>(by cases e)
 exact A7 (λr:Int×Int×Bool=>.cF [.int .i64 r.1,.int .i64 r.2.1,.bool r.2.2]) λx h=>key _ x h rfl
theorem Vp (m:Int):∃F:Tree->Int,∀x,(T .az x)->R1 (cf m) 23 x (.int .i64 (F x))/\(True):=by
 refine BF (P:=λx=>T .az x) (mk:=λ(r:Int)=>.int .i64 r) (Post:=λx r=>True) λx hx=> ?_
 show ∃r:{r:Int // True},ai (cf m) 23 [.t x] [] (.ret (.t (.int .i64 r.1)) [] []);have bw:=hx;obtain⟨cQ,jW,n_1,s_1,dD,aT,dn,rfl,cI,cH,fK,dS,eW,eM⟩:=T.aB bw;obtain⟨Mf,amq⟩:=TJ m;obtain⟨ev,aJ,amr⟩:∃ev,aC (cf m) ev/\Has ev 42 (mL (λx=>T .az x) (λx=>.cF [.int .i64 (Mf x).1,.int .i64 (Mf x).2.1,.bool (Mf x).2.2])):=⟨_,(aq (bR (λx h=>(amq x h))) aF),au⟩;refine AX.start 21 1 Tryz.func23 rfl (by decide) rfl rfl (by decide) ?_;refine AX.frames ?_;have aeJ:=bS amr (x:=(aA cQ jW n_1 s_1 dD aT dn)) bw;rcases aL ((!(Mf (aA cQ jW n_1 s_1 dD aT dn)).2.2)) with cq|cq
 ·refine⟨⟨7, ?_⟩,kf ah [oC aeJ,oB cq]⟩;trivial
 ·rcases aL (decide ((Mf (aA cQ jW n_1 s_1 dD aT dn)).1>8)) with bL|bL
  ·have mC:=of_decide_eq_true bL;refine⟨⟨4, ?_⟩,kf ah [oC aeJ,oB cq,oB bL]⟩;trivial
  ·have mC:=of_decide_eq_false bL;rcases aL (decide ((Mf (aA cQ jW n_1 s_1 dD aT dn)).2.1>128)) with gP|gP
   ·have tI:=of_decide_eq_true gP;refine⟨⟨2, ?_⟩,kf ah [oC aeJ,oB cq,oB bL,oB gP]⟩;trivial
   ·have tI:=of_decide_eq_false gP;refine⟨⟨0, ?_⟩,kf ah [oC aeJ,oB cq,oB bL,oB gP]⟩;trivial
theorem Vq (m:Int):∃F:Tree->Int,∀x,(T .cE x)->R1 (cf m) 9 x (.int .i64 (F x))/\(True):=by
 refine BF (P:=λx=>T .cE x) (mk:=λ(r:Int)=>.int .i64 r) (Post:=λx r=>True) λx hx=> ?_
 show ∃r:{r:Int // True},ai (cf m) 9 [.t x] [] (.ret (.t (.int .i64 r.1)) [] []);have bw:=hx;obtain⟨wI,zB,A8,Gw,ym,A9,jB,nW,nX,nY,nZ,jQ,kE,rfl,cI,cH,fK,dS,eW,eM,jc,BV,NZ,vJ,apz,N3⟩:=T.mB bw;obtain⟨zy,NY⟩:=Dd m;obtain⟨TK,aiP⟩:=Vp m;obtain⟨ev,aJ,Ff,TL⟩:∃ev,aC (cf m) ev/\Has ev 22 (mL (λx=>T .aH x) (λx=>.int .i64 (zy x)))/\Has ev 23 (mL (λx=>T .az x) (λx=>.int .i64 (TK x))):=⟨_,(aq (bR (λx h=>(NY x h).1)) (aq (bR (λx h=>(aiP x h).1)) aF)),au,(av rfl au)⟩;refine AX.start 35 1 Tryz.func9 rfl (by decide) rfl rfl (by decide) ?_;refine AX.frames ?_;refine kl (α:=Nat×List Tree) ah 0 [] 35 1 [.loc [0]] [.loc [0]] [1,13,14,15] (λx=>⟨eC 35 [(1,.ptr (.loc [0]) 0),(13,.pZ x.2),(14,.t (.int .i64 ((x.2.length:Nat):Int))),(15,.t (.int .i64 ((x.1:Nat):Int)))],[(.loc [0],.cells 34 (A6 wI zB A8 Gw ym A9 jB nW nX nY nZ jQ kE))],1⟩) (λx=>(x.1<=x.2.length)/\(x.2.length<=4194304/\∀y∈x.2,T .aH y)) (λx=>x.2.length - x.1) (⟨0,([.agg [.str wI,.str zB],.agg [.str A8,.str Gw],.agg [.str ym,.str A9]]:List Tree)⟩) (j4 (Tryz.f9.body.getD .skip) 2) [] ⟨Nat.zero_le _,⟨cm,(bI (.aH _ _ cm cm) (bI (.aH _ _ cm cm) (bI (.aH _ _ cm cm) (λ_ h=>absurd h (by simp)))))⟩⟩ (λx hok=> ?_);obtain⟨i_2,xP⟩:=x;replace hok:(i_2<=xP.length)/\(xP.length<=4194304/\∀y∈xP,T .aH y):=hok;obtain⟨HP,N4⟩:=hok;rcases aL (decide (((i_2:Nat):Int)<((xP.length:Nat):Int))) with bL|bL
 ·have mC:=of_decide_eq_true bL;obtain⟨e4,uE⟩:=dw xP i_2;have p7:=(N4.2 e4 (fU uE));obtain⟨BW,JQ,rfl,xM,BX⟩:=T.cr p7;have ams:=bS Ff (x:=.agg [.str BW,.str JQ]) p7;rcases aL (((zy (.agg [.str BW,.str JQ])) != 0)) with lN|lN
  ·have zu:=cG lN;refine kx ah [oB bL,oE uE,oC ams,oB lN] ?_;refine⟨⟨(zy (.agg [.str BW,.str JQ])), ?_⟩,kf ah []⟩;trivial
  ·have zu:=bE lN;exact⟨.inl ⟨⟨i_2+1,xP⟩,⟨⟨(by show(i_2+1)<=xP.length;omega),N4⟩,(by show(xP.length - (i_2+1))<(xP.length - i_2);omega)⟩⟩,kr ah 35 1 [.loc [0]] [1,13,14,15] [oB bL,oE uE,oC ams,oB lN,oI (i_2) (by omega)]⟩
 ·have mC:=of_decide_eq_false bL;refine kx ah [oB bL] ?_;rcases aL (((TK (aA jB nW nX nY nZ jQ kE)) != 0)) with gh|gh
  ·have mN:=cG gh;refine⟨⟨(TK (aA jB nW nX nY nZ jQ kE)), ?_⟩,kf ah [oC (bS TL (x:=(aA jB nW nX nY nZ jQ kE)) (.az _ _ _ _ _ _ _ cm cm cm vJ cm N3)),oB gh]⟩;trivial
  ·have mN:=bE gh;rcases aL ((jB != 5)) with jq|jq
   ·have BS:=cG jq;refine⟨⟨7, ?_⟩,kf ah [oC (bS TL (x:=(aA jB nW nX nY nZ jQ kE)) (.az _ _ _ _ _ _ _ cm cm cm vJ cm N3)),oB gh,oB jq]⟩;trivial
   ·have BS:=bE jq;refine⟨⟨0, ?_⟩,kf ah [oC (bS TL (x:=(aA jB nW nX nY nZ jQ kE)) (.az _ _ _ _ _ _ _ cm cm cm vJ cm N3)),oB gh,oB jq]⟩;trivial
end
end Go.Proofs.YtfdnciimclnncaaGreatDoor.w.e
