/- More of it. -/
import Derived.Test.YtfdnciimclnncaaGreatDoorV
import Derived.Test.YtfdnciimclnncaaGreatDoorW
import Derived.Test.YtfdnciimclnncaaGreatDoorX
import Derived.Test.YtfdnciimclnncaaGreatDoorT
import Derived.Test.YtfdnciimclnncaaGreatDoorR
set_option linter.unusedVariables false
set_option linter.unusedSimpArgs false
namespace Go.Proofs.YtfdnciimclnncaaGreatDoor.w
open Go Go.Abs
set_option maxRecDepth 100000
set_option maxHeartbeats 1000000
noncomputable section
theorem bJ {α β:Type}[Inhabited β]{P:α->Prop}{Q:α->β->Prop}(h:∀a,P a->∃b,Q a b):∃f:α->β,∀a,P a->Q a (f a):=
 Classical.axiomOfChoice (r:=λa b=>P a->Q a b) λa=>by
  by_cases hp:P a
  ·obtain⟨b,hb⟩:=h a hp;exact⟨b,λ_=>hb⟩
  ·exact⟨default,λh=>absurd h hp⟩
theorem Bb {C:ez}{β:Type}[Inhabited β]{g:FuncId}{P:Tree->Prop}(mk:β->Tree)(h:∀x,P x->∃r:β,ai C g [.t x] [] (.ret (.t (mk r)) [] [])):∃f:Tree->β,∀x,P x->ai C g [.t x] [] (.ret (.t (mk (f x))) [] []):=bJ h
theorem zA {C:ez}{β:Type}[Inhabited β]{g:FuncId}{P:Tree->Tree->Prop}(mk:β->Tree)(h:∀x y,P x y->∃r:β,ai C g [.t x,.t y] [] (.ret (.t (mk r)) [] [])):
 ∃f:Tree->Tree->β,∀x y,P x y->ai C g [.t x,.t y] [] (.ret (.t (mk (f x y))) [] []):=by
 obtain⟨f,hf⟩:=bJ (α:=Tree×Tree) (P:=λp=>P p.1 p.2) (Q:=λp r=>ai C g [.t p.1,.t p.2] [] (.ret (.t (mk r)) [] [])) λp hp=>h p.1 p.2 hp
 exact⟨λx y=>f (x,y),λx y hp=>hf (x,y) hp⟩
def PI (x:Tree):Prop:=∃n,x=.int .u8 n
def PS (x:Tree):Prop:=∃s,x=.str s
def t1 {β:Type}(mk:β->Tree)(P:Tree->Prop)(f:Tree->β):List TV->List aP->Option bh:=ct1 P λx=>.ret (.t (mk (f x))) [] []
def t2 {β:Type}(mk:β->Tree)(P:Tree->Tree->Prop)(f:Tree->Tree->β):List TV->List aP->Option bh:=ct2 P λx y=>.ret (.t (mk (f x y))) [] []
theorem JT {C:ez}{β:Type}{g:FuncId}{mk:β->Tree}{P:Tree->Prop}{f:Tree->β}(h:∀x,P x->ai C g [.t x] [] (.ret (.t (mk (f x))) [] [])):kQ C g (t1 mk P f):=aio h
theorem Mu {C:ez}{β:Type}{g:FuncId}{mk:β->Tree}{P:Tree->Tree->Prop}{f:Tree->Tree->β}(h:∀x y,P x y->ai C g [.t x,.t y] [] (.ret (.t (mk (f x y))) [] [])):kQ C g (t2 mk P f):=Zx h
theorem JU {β:Type}{g:FuncId}{mk:β->Tree}{P:Tree->Prop}{f:Tree->β}{ev:bt}{x:Tree}(h:P x):qo g (t1 mk P f) ev g [.t x] []=some (.ret (.t (mk (f x))) [] []):=aip h
theorem Mv {β:Type}{g:FuncId}{mk:β->Tree}{P:Tree->Tree->Prop}{f:Tree->Tree->β}{ev:bt}{x y:Tree}(h:P x y):qo g (t2 mk P f) ev g [.t x,.t y] []=some (.ret (.t (mk (f x y))) [] []):=Zy h
theorem TN (m:Int):∃f:Tree->Bool,∀x,PI x->ai (cf m) 131 [.t x] [] (.ret (.t (.bool (f x))) [] []):=by
 obtain⟨fd,hd⟩:=Bb (C:=cf m) (g:=129) (P:=PI) Tree.bool (λx ⟨n,e⟩=>e▸QJ aF n);obtain⟨fl,hl⟩:=Bb (C:=cf m) (g:=132) (P:=PI) Tree.bool (λx ⟨n,e⟩=>e▸Xz aF n);refine Bb (P:=PI) Tree.bool λx ⟨n,e⟩=>e▸aaA (aq (JT hl) (aq (JT hd) aF)) (λn=>fl (.int .u8 n)) (λn=>fd (.int .u8 n)) (λn=>JU ⟨n,rfl⟩) (λn=>ru rfl (JU ⟨n,rfl⟩)) n
def JV (s:List UInt8):Tree:=.sl (s.map λb=>.int .u8 b.toNat)
theorem aaC (m:Int):∃f:Tree->Tree->Bool,∀x y,((∃s:List UInt8,s.length<=64/\x=JV s)/\y=.fn (.func 131))->ai (cf m) 130 [.t x,.t y] [] (.ret (.t (.bool (f x y))) [] []):=by
 obtain⟨f1,h1⟩:=TN m;obtain⟨fi,hi⟩:=zA (C:=cf m) (g:=179) (P:=λx y=>(∃s:List UInt8,s.length<=64/\x=JV s)/\y=.fn (.func 131)) (Tree.int .i64) (λx y ⟨⟨s,hs,e⟩,e2⟩=>by
  subst e;subst e2;have hform:∀e∈s.map (λb:UInt8=>Tree.int .u8 b.toNat),∃n,e=.int .u8 n:=λe he=>by obtain⟨b,_,rfl⟩:=List.mem_map.1 he;exact⟨_,rfl⟩
  exact aiP (aq (JT h1) aF) _ (by rw[List.length_map];omega) hform 131 f1 (λe he=>JU (hform e he)))
 exact zA Tree.bool λx y hp=>aiQ (aq (Mu hi) aF) x y (fi x y) (Mv hp)
theorem aaD (m:Int):∃f:Tree->Tree->Bool,∀x y,(x=.sl (zn.map .str)/\PS y)->ai (cf m) 76 [.t x,.t y] [] (.ret (.t (.bool (f x y))) [] []):=by
 obtain⟨fi,hi⟩:=zA (C:=cf m) (g:=101) (P:=λx y=>x=.sl (zn.map .str)/\PS y) (Tree.int .i64) (λx y ⟨e,s,e2⟩=>by
  subst e;subst e2;exact aiT aF _ (by decide) (λe he=>by obtain⟨b,_,rfl⟩:=List.mem_map.1 he;exact⟨_,rfl⟩) s)
 exact zA Tree.bool λx y hp=>aiU (aq (Mu hi) aF) x y (fi x y) (Mv hp)
theorem XB (m:Int):∃f:Tree->Bool,∀x,PS x->ai (cf m) 82 [.t x] [] (.ret (.t (.bool (f x))) [] []):=by
 obtain⟨fd,hd⟩:=Bb (C:=cf m) (g:=129) (P:=PI) Tree.bool (λx ⟨n,e⟩=>e▸QJ aF n);obtain⟨fb,hb⟩:=aaC m;obtain⟨fc,hc⟩:=aaD m;have hw:kQ (cf m) 128 (vQ zo pF):=λargs bu r h=>live.QL m pF aF args bu r h
 refine Bb (P:=PS) Tree.bool λx ⟨s,e⟩=>e▸aeI (ev:=qo 128 (vQ zo pF) (qo 129 (t1 .bool PI fd) (qo 76 (t2 .bool (λx y=>x=.sl (zn.map .str)/\PS y) fc) (qo 130 (t2 .bool (λx y=>(∃s:List UInt8,s.length<=64/\x=JV s)/\y=.fn (.func 131)) fb) pF))))
  (aq hw (aq (JT hd) (aq (Mu hc) (aq (Mu hb) aF)))) (λn=>fd (.int .u8 n)) (λs=>fc (.sl (zn.map .str)) (.str s)) (λs=>fb (JV s) (.fn (.func 131))) rfl
  (λn=>ru rfl (JU ⟨n,rfl⟩)) (λs=>ru rfl (ru rfl (Mv ⟨rfl,s,rfl⟩))) (λs hs=>ru rfl (ru rfl (ru rfl (Mv (x:=JV s) ⟨⟨s,hs,rfl⟩,rfl⟩)))) s
theorem Vu (m:Int):∃f:Tree->Bool,∀x,PS x->ai (cf m) 40 [.t x] [] (.ret (.t (.bool (f x))) [] []):=by
 obtain⟨fn,hn⟩:=XB m;obtain⟨f1,h1⟩:=Bb (C:=cf m) (g:=81) (P:=PS) Tree.bool (λx ⟨s,e⟩=>e▸Oj (aq (JT hn) aF) (λs=>fn (.str s)) (λs=>JU ⟨s,rfl⟩) s);obtain⟨pc,hpc⟩:=bJ (α:=List UInt8) (β:=List (List UInt8)) (P:=λs=>s.length<=64) (Q:=λs l=>l.length<=s.length+1/\ai (cf m) 80 [.t (.str s),.t (.str [58,58])] [] (.ret (.t (.sl (l.map .str))) [] [])) λs hs=>aaB s [58,58] (by omega) (by decide)
 obtain⟨fi,hi⟩:=zA (C:=cf m) (g:=126) (P:=λx y=>(∃s:List UInt8,s.length<=64/\x=.sl ((pc s).map .str))/\y=.fn (.func 81)) (Tree.int .i64) (λx y ⟨⟨s,hs,e⟩,e2⟩=>by
  subst e;subst e2;have hform:∀e∈(pc s).map Tree.str,∃u,e=.str u:=λe he=>by obtain⟨b,_,rfl⟩:=List.mem_map.1 he;exact⟨_,rfl⟩
  exact aiR (aq (JT h1) aF) _ (by rw[List.length_map];have:=(hpc s hs).1;omega) hform 81 f1 (λe he=>JU (hform e he)))
 obtain⟨fc,hc⟩:=zA (C:=cf m) (g:=79) (P:=λx y=>(∃s:List UInt8,s.length<=64/\x=.sl ((pc s).map .str))/\y=.fn (.func 81)) Tree.bool λx y hp=>aiS (aq (Mu hi) aF) x y (fi x y) (Mv hp)
 have hsp:kQ (cf m) 80 (ct2 (λx y=>(∃s:List UInt8,s.length<=64/\x=.str s)/\y=.str [58,58]) λx _=>match x with|.str s=>.ret (.t (.sl ((pc s).map .str))) [] []|_=>default):=
  Zx λx y hx=>by obtain⟨⟨s,hs,rfl⟩,rfl⟩:=hx;exact(hpc s hs).2
 exact Bb (P:=PS) Tree.bool λx ⟨s,e⟩=>e▸QK (aq hsp (aq (Mu hc) aF)) pc (λs=>fc (.sl ((pc s).map .str)) (.fn (.func 81))) (λs hs=>Zy (x:=.str s) (y:=.str [58,58]) ⟨⟨s,hs,rfl⟩,rfl⟩) (λs hs=>ru rfl (Mv ⟨⟨s,hs,rfl⟩,rfl⟩)) s
theorem xX (m:Int):∃f:Tree->Bool,∀x,PS x->ai (cf m) 41 [.t x] [] (.ret (.t (.bool (f x))) [] []):=by
 obtain⟨fw,hw⟩:=Bb (C:=cf m) (g:=83) (P:=λx=>∃s:List UInt8,8<=s.length/\x=.str s) (Tree.int .u64) (λx ⟨s,hs,e⟩=>by
  subst e;match s,hs with
  |b0::b1::b2::b3::b4::b5::b6::b7::r,_=>exact aei aF b0 b1 b2 b3 b4 b5 b6 b7 r)
 exact Bb (C:=cf m) (g:=41) (P:=PS) Tree.bool (λx ⟨s,e⟩=>e▸aaz _ (aq (JT hw) aF) (λs=>fw (.str s)) (λs hs=>JU ⟨s,hs,rfl⟩) s)
end
end Go.Proofs.YtfdnciimclnncaaGreatDoor.w
namespace Go.Proofs.YtfdnciimclnncaaGreatDoor.w.e
open Go Go.Abs
set_option maxRecDepth 100000
set_option maxHeartbeats 2000000
noncomputable section
theorem Di (m:Int):∃F:Tree->Int,∀x,(T .aI x)->R1 (cf m) 22 x (.int .i64 (F x))/\(True):=by
 refine BI (P:=λx=>T .aI x) (mk:=λ(r:Int)=>.int .i64 r) (Post:=λx r=>True) λx hx=> ?_
 show ∃r:{r:Int // True},ai (cf m) 22 [.t x] [] (.ret (.t (.int .i64 r.1)) [] []);have bw:=hx;obtain⟨type_1,JW,rfl,cL,cF⟩:=T.cr bw;obtain⟨aaE,aiV⟩:=Vu m;obtain⟨Dj,TP⟩:=xX m;obtain⟨ev,aK,aiW,Fk⟩:∃ev,aD (cf m) ev/\Has ev 40 (mY (λx=>PS x) (λx=>.bool (aaE x)))/\Has ev 41 (mY (λx=>PS x) (λx=>.bool (Dj x))):=⟨_,(aq (bT (λx h=>(aiV x h))) (aq (bT (λx h=>(TP x h))) aF)),au,(az rfl au)⟩;refine AX.start 18 1 Tryz.func22 rfl (by decide) rfl rfl (by decide) ?_;refine AX.frames ?_;have zh1:=cO aiW (x:=.str type_1) ⟨_,rfl⟩;rcases aM ((!(aaE (.str type_1)))) with cq|cq
 ·refine⟨⟨5, ?_⟩,kf ah [oC zh1,oB cq]⟩;trivial
 ·have zh2:=cO Fk (x:=.str JW) ⟨_,rfl⟩;rcases aM ((!(Dj (.str JW)))) with bK|bK
  ·refine⟨⟨6, ?_⟩,kf ah [oC zh1,oB cq,oC zh2,oB bK]⟩;trivial
  ·rcases aM (decide (((JW.length:Nat):Int)>64)) with gP|gP
   ·have tT:=of_decide_eq_true gP;refine⟨⟨3, ?_⟩,kf ah [oC zh1,oB cq,oC zh2,oB bK,oB gP]⟩;trivial
   ·have tT:=of_decide_eq_false gP;refine⟨⟨0, ?_⟩,kf ah [oC zh1,oB cq,oC zh2,oB bK,oB gP]⟩;trivial
theorem aaF (m:Int):∃F:Tree->Bool,∀x,(T .string x)->R1 (cf m) 138 x (.bool (F x))/\(True):=by
 refine BI (P:=λx=>T .string x) (mk:=λ(r:Bool)=>.bool r) (Post:=λx r=>True) λx hx=> ?_
 show ∃r:{r:Bool // True},ai (cf m) 138 [.t x] [] (.ret (.t (.bool r.1)) [] []);have bw:=hx;obtain⟨v_1,rfl,cL⟩:=T.bF bw;obtain⟨ev,aK⟩:∃ev,aD (cf m) ev:=⟨_,aF⟩;refine AX.start 6 1 Tryz.func138 rfl (by decide) rfl rfl (by decide) ?_;refine AX.frames ?_;refine⟨⟨(!(v_1==v_1)), ?_⟩,kf ah []⟩;trivial
theorem Fl (m:Int):∃F:Tree->Tree->Int,∀x y,(T .string x/\T .string y)->R2 (cf m) 87 x y (.int .i64 (F x y))/\(True):=by
 refine tO (P:=λx y=>T .string x/\T .string y) (mk:=λ(r:Int)=>.int .i64 r) (Post:=λx y r=>True) λx y hx=> ?_
 obtain⟨hx,hy⟩:=hx;show ∃r:{r:Int // True},ai (cf m) 87 [.t x,.t y] [] (.ret (.t (.int .i64 r.1)) [] []);have bw:=hx;obtain⟨v_1,rfl,cL⟩:=T.bF bw;have dB:=hy;obtain⟨v_2,rfl,gx⟩:=T.bF dB;obtain⟨Vv,al5⟩:=aaF m;obtain⟨ev,aK,QM⟩:∃ev,aD (cf m) ev/\Has ev 138 (mY (λx=>T .string x) (λx=>.bool (Vv x))):=⟨_,(aq (bT (λx h=>(al5 x h).1)) aF),au⟩;refine AX.start 20 2 Tryz.func87 rfl (by decide) rfl rfl (by decide) ?_;refine AX.frames ?_;have zh3:=cO QM (x:=.str v_1) bw;have zh4:=cO QM (x:=.str v_2) dB;rcases aM ((Vv (.str v_1))) with bK|bK
 ·rcases aM ((Vv (.str v_2))) with gP|gP
  ·refine⟨⟨0, ?_⟩,kf ah [oC zh3,oC zh4,oB bK,oB gP]⟩;trivial
  ·refine⟨⟨-1, ?_⟩,kf ah [oC zh3,oC zh4,oB bK,oB gP]⟩;trivial
 ·rcases aM ((Vv (.str v_2))) with jm|jm
  ·refine⟨⟨1, ?_⟩,kf ah [oC zh3,oC zh4,oB bK,oB jm]⟩;trivial
  ·rcases aM ((jy v_1 v_2)) with lT|lT
   ·refine⟨⟨-1, ?_⟩,kf ah [oC zh3,oC zh4,oB bK,oB jm,oB lT]⟩;trivial
   ·rcases aM ((!(jy v_1 v_2||v_1==v_2))) with gi|gi
    ·refine⟨⟨1, ?_⟩,kf ah [oC zh3,oC zh4,oB bK,oB jm,oB lT,oB gi]⟩;trivial
    ·refine⟨⟨0, ?_⟩,kf ah [oC zh3,oC zh4,oB bK,oB jm,oB lT,oB gi]⟩;trivial
theorem QN (m:Int):∃F:Tree->Int,∀x,(T .Lint x)->R1 (cf m) 86 x (.int .i64 (F x))/\(True):=by
 refine BI (P:=λx=>T .Lint x) (mk:=λ(r:Int)=>.int .i64 r) (Post:=λx r=>True) λx hx=> ?_
 show ∃r:{r:Int // True},ai (cf m) 86 [.t x] [] (.ret (.t (.int .i64 r.1)) [] []);have bw:=hx;obtain⟨v_1,rfl,cL,cF⟩:=T.aaw bw;obtain⟨ev,aK⟩:∃ev,aD (cf m) ev:=⟨_,aF⟩;refine AX.start 18 1 Tryz.func86 rfl (by decide) rfl rfl (by decide) ?_;refine AX.frames ?_;refine kl (α:=Nat) ah 0 [] 18 0 [] [] [3,6,7,8] (λx=>⟨eD 18 [(3,.t (.int .i64 0)),(6,.t (.sl v_1)),(7,.t (.int .i64 ((v_1.length:Nat):Int))),(8,.t (.int .i64 ((x:Nat):Int)))],[],0⟩) (λx=>(x<=v_1.length)) (λx=>v_1.length - x) 0 (j6 (Tryz.f86.body.getD .skip) 3) [] (by show(0<=v_1.length);first|trivial|omega|(refine⟨?_, ?_⟩<;>first|omega|exact SM.nil)|simp) (λx hok=> ?_);obtain⟨i_2,zB⟩:∃y,y=x:=⟨x,rfl⟩;subst zB;replace hok:(i_2<=v_1.length):=hok;have Ia:=hok;rcases aM (decide (((i_2:Nat):Int)<((v_1.length:Nat):Int))) with bK|bK
 ·have mH:=of_decide_eq_true bK;obtain⟨e4,uP⟩:=dr v_1 i_2;have qh:=(cF e4 (fW uP));obtain⟨v_5,rfl⟩:=T.vo qh;rcases aM ((v_5 != 0)) with lT|lT
  ·have zC:=dM lT;refine kx ah [oB bK,oE uP,oB lT] ?_;refine⟨⟨v_5, ?_⟩,kf ah []⟩;trivial
  ·have zC:=cC lT;exact⟨.inl ⟨i_2+1,⟨(by show(i_2+1)<=v_1.length;omega),(by show(v_1.length - (i_2+1))<(v_1.length - i_2);omega)⟩⟩,kr ah 18 0 [] [3,6,7,8] [oB bK,oE uP,oB lT,oI (i_2) (by omega)]⟩
 ·have mH:=of_decide_eq_false bK;refine kx ah [oB bK] ?_;refine⟨⟨0, ?_⟩,kf ah []⟩;trivial
theorem Dk (m:Int):∃F:Tree->Tree->Int,∀x y,(T .aI x/\T .aI y)->R2 (cf m) 46 x y (.int .i64 (F x y))/\(True):=by
 refine tO (P:=λx y=>T .aI x/\T .aI y) (mk:=λ(r:Int)=>.int .i64 r) (Post:=λx y r=>True) λx y hx=> ?_
 obtain⟨hx,hy⟩:=hx;show ∃r:{r:Int // True},ai (cf m) 46 [.t x,.t y] [] (.ret (.t (.int .i64 r.1)) [] []);have bw:=hx;obtain⟨type_1,JW,rfl,cL,cF⟩:=T.cr bw;have dB:=hy;obtain⟨eW,iE,rfl,gx,kD⟩:=T.cr dB;obtain⟨nP,JX⟩:=Fl m;obtain⟨QS,aaG⟩:=QN m;obtain⟨ev,aK,zD,aaH⟩:∃ev,aD (cf m) ev/\Has ev 87 (rM (λx y=>T .string x/\T .string y) (λx y=>.int .i64 (nP x y)))/\Has ev 86 (mY (λx=>T .Lint x) (λx=>.int .i64 (QS x))):=⟨_,(aq (dA (λx y h=>(JX x y h).1)) (aq (bT (λx h=>(aaG x h).1)) aF)),au,(az rfl au)⟩;refine AX.start 17 2 Tryz.func46 rfl (by decide) rfl rfl (by decide) ?_;refine AX.frames ?_;refine⟨⟨(QS (.sl [.int .i64 (nP (.str type_1) (.str eW)),.int .i64 (nP (.str JW) (.str iE))])), ?_⟩,kf ah [oC (eL zD (x:=.str type_1) (y:=.str eW) ⟨(.string _ cc),(.string _ cc)⟩),oC (eL zD (x:=.str JW) (y:=.str iE) ⟨(.string _ cc),(.string _ cc)⟩),oC (cO aaH (x:=.sl [.int .i64 (nP (.str type_1) (.str eW)),.int .i64 (nP (.str JW) (.str iE))]) (.Lint _ cc (bD (.int _) (bD (.int _) (λ_ h=>absurd h (by simp))))))]⟩;trivial
theorem QT (m:Int):∃F:Tree->Bool,∀x,(T .jU x)->R1 (cf m) 180 x (.bool (F x))/\(True):=by
 refine BI (P:=λx=>T .jU x) (mk:=λ(r:Bool)=>.bool r) (Post:=λx r=>True) λx hx=> ?_
 show ∃r:{r:Bool // True},ai (cf m) 180 [.t x] [] (.ret (.t (.bool r.1)) [] []);have bw:=hx;obtain⟨v_1,rfl⟩:=T.zz bw;obtain⟨ev,aK⟩:∃ev,aD (cf m) ev:=⟨_,aF⟩;refine AX.start 6 1 Tryz.func180 rfl (by decide) rfl rfl (by decide) ?_;refine AX.frames ?_;refine kAt (f:=0) (n:=3000) (once:=[]) (k:=6) (T:=0) (S:=[]) (ks:=[]) (live:=[0,2]) ah aK (Tryz.f180.body.getD .skip) 1 rfl (⟨eD 6 [(0,.t (.int .u8 v_1)),(2,.t (.bool false))],[],0⟩) [] (by kernel_rfl) ?_;refine AX.region ?_;refine aO.go (f:=0) aK (aJ rfl) ?_;refine aO.go (f:=0) aK (aJ rfl) ?_;refine aO.go (f:=0) aK (NQ rfl rfl) ?_;refine aO.go (f:=0) aK (aL rfl) ?_;refine aO.nil ?_;refine⟨⟨false, ?_⟩,kf ah []⟩;trivial
theorem QU (m:Int):∃F:Tree->Tree->Int,∀x y,(T .jU x/\T .jU y)->R2 (cf m) 133 x y (.int .i64 (F x y))/\(True):=by
 refine tO (P:=λx y=>T .jU x/\T .jU y) (mk:=λ(r:Int)=>.int .i64 r) (Post:=λx y r=>True) λx y hx=> ?_
 obtain⟨hx,hy⟩:=hx;show ∃r:{r:Int // True},ai (cf m) 133 [.t x,.t y] [] (.ret (.t (.int .i64 r.1)) [] []);have bw:=hx;obtain⟨v_1,rfl⟩:=T.zz bw;have dB:=hy;obtain⟨v_2,rfl⟩:=T.zz dB;obtain⟨Dl,aaI⟩:=QT m;obtain⟨ev,aK,QV⟩:∃ev,aD (cf m) ev/\Has ev 180 (mY (λx=>T .jU x) (λx=>.bool (Dl x))):=⟨_,(aq (bT (λx h=>(aaI x h).1)) aF),au⟩;refine AX.start 20 2 Tryz.func133 rfl (by decide) rfl rfl (by decide) ?_;refine AX.frames ?_;have zh5:=cO QV (x:=.int .u8 v_1) bw;have zh6:=cO QV (x:=.int .u8 v_2) dB;rcases aM ((Dl (.int .u8 v_1))) with bK|bK
 ·rcases aM ((Dl (.int .u8 v_2))) with gP|gP
  ·refine⟨⟨0, ?_⟩,kf ah [oC zh5,oC zh6,oB bK,oB gP]⟩;trivial
  ·refine⟨⟨-1, ?_⟩,kf ah [oC zh5,oC zh6,oB bK,oB gP]⟩;trivial
 ·rcases aM ((Dl (.int .u8 v_2))) with jm|jm
  ·refine⟨⟨1, ?_⟩,kf ah [oC zh5,oC zh6,oB bK,oB jm]⟩;trivial
  ·rcases aM (decide (v_1<v_2)) with lT|lT
   ·have zC:=of_decide_eq_true lT;refine⟨⟨-1, ?_⟩,kf ah [oC zh5,oC zh6,oB bK,oB jm,oB lT]⟩;trivial
   ·have zC:=of_decide_eq_false lT;rcases aM (decide (v_1>v_2)) with gi|gi
    ·have mR:=of_decide_eq_true gi;refine⟨⟨1, ?_⟩,kf ah [oC zh5,oC zh6,oB bK,oB jm,oB lT,oB gi]⟩;trivial
    ·have mR:=of_decide_eq_false gi;refine⟨⟨0, ?_⟩,kf ah [oC zh5,oC zh6,oB bK,oB jm,oB lT,oB gi]⟩;trivial
theorem QW (m:Int):∃F:Tree->Bool,∀x,(T .int64 x)->R1 (cf m) 181 x (.bool (F x))/\(True):=by
 refine BI (P:=λx=>T .int64 x) (mk:=λ(r:Bool)=>.bool r) (Post:=λx r=>True) λx hx=> ?_
 show ∃r:{r:Bool // True},ai (cf m) 181 [.t x] [] (.ret (.t (.bool r.1)) [] []);have bw:=hx;obtain⟨v_1,rfl⟩:=T.oc bw;obtain⟨ev,aK⟩:∃ev,aD (cf m) ev:=⟨_,aF⟩;refine AX.start 6 1 Tryz.func181 rfl (by decide) rfl rfl (by decide) ?_;refine AX.frames ?_;refine kAt (f:=0) (n:=3000) (once:=[]) (k:=6) (T:=0) (S:=[]) (ks:=[]) (live:=[0,2]) ah aK (Tryz.f181.body.getD .skip) 1 rfl (⟨eD 6 [(0,.t (.int .i64 v_1)),(2,.t (.bool false))],[],0⟩) [] (by kernel_rfl) ?_;refine AX.region ?_;refine aO.go (f:=0) aK (aJ rfl) ?_;refine aO.go (f:=0) aK (aJ rfl) ?_;refine aO.go (f:=0) aK (NQ rfl rfl) ?_;refine aO.go (f:=0) aK (aL rfl) ?_;refine aO.nil ?_;refine⟨⟨false, ?_⟩,kf ah []⟩;trivial
theorem QX (m:Int):∃F:Tree->Tree->Int,∀x y,(T .int64 x/\T .int64 y)->R2 (cf m) 134 x y (.int .i64 (F x y))/\(True):=by
 refine tO (P:=λx y=>T .int64 x/\T .int64 y) (mk:=λ(r:Int)=>.int .i64 r) (Post:=λx y r=>True) λx y hx=> ?_
 obtain⟨hx,hy⟩:=hx;show ∃r:{r:Int // True},ai (cf m) 134 [.t x,.t y] [] (.ret (.t (.int .i64 r.1)) [] []);have bw:=hx;obtain⟨v_1,rfl⟩:=T.oc bw;have dB:=hy;obtain⟨v_2,rfl⟩:=T.oc dB;obtain⟨Dm,aaJ⟩:=QW m;obtain⟨ev,aK,QY⟩:∃ev,aD (cf m) ev/\Has ev 181 (mY (λx=>T .int64 x) (λx=>.bool (Dm x))):=⟨_,(aq (bT (λx h=>(aaJ x h).1)) aF),au⟩;refine AX.start 20 2 Tryz.func134 rfl (by decide) rfl rfl (by decide) ?_;refine AX.frames ?_;have zh7:=cO QY (x:=.int .i64 v_1) bw;have zh8:=cO QY (x:=.int .i64 v_2) dB;rcases aM ((Dm (.int .i64 v_1))) with bK|bK
 ·rcases aM ((Dm (.int .i64 v_2))) with gP|gP
  ·refine⟨⟨0, ?_⟩,kf ah [oC zh7,oC zh8,oB bK,oB gP]⟩;trivial
  ·refine⟨⟨-1, ?_⟩,kf ah [oC zh7,oC zh8,oB bK,oB gP]⟩;trivial
 ·rcases aM ((Dm (.int .i64 v_2))) with jm|jm
  ·refine⟨⟨1, ?_⟩,kf ah [oC zh7,oC zh8,oB bK,oB jm]⟩;trivial
  ·rcases aM (decide (v_1<v_2)) with lT|lT
   ·have zC:=of_decide_eq_true lT;refine⟨⟨-1, ?_⟩,kf ah [oC zh7,oC zh8,oB bK,oB jm,oB lT]⟩;trivial
   ·have zC:=of_decide_eq_false lT;rcases aM (decide (v_1>v_2)) with gi|gi
    ·have mR:=of_decide_eq_true gi;refine⟨⟨1, ?_⟩,kf ah [oC zh7,oC zh8,oB bK,oB jm,oB lT,oB gi]⟩;trivial
    ·have mR:=of_decide_eq_false gi;refine⟨⟨0, ?_⟩,kf ah [oC zh7,oC zh8,oB bK,oB jm,oB lT,oB gi]⟩;trivial
theorem QZ (m:Int):∃F:Tree->Bool,∀x,(T .int x)->R1 (cf m) 206 x (.bool (F x))/\(True):=by
 refine BI (P:=λx=>T .int x) (mk:=λ(r:Bool)=>.bool r) (Post:=λx r=>True) λx hx=> ?_
 show ∃r:{r:Bool // True},ai (cf m) 206 [.t x] [] (.ret (.t (.bool r.1)) [] []);have bw:=hx;obtain⟨v_1,rfl⟩:=T.vo bw;obtain⟨ev,aK⟩:∃ev,aD (cf m) ev:=⟨_,aF⟩;refine AX.start 6 1 Tryz.func206 rfl (by decide) rfl rfl (by decide) ?_;refine AX.frames ?_;refine kAt (f:=0) (n:=3000) (once:=[]) (k:=6) (T:=0) (S:=[]) (ks:=[]) (live:=[0,2]) ah aK (Tryz.f206.body.getD .skip) 1 rfl (⟨eD 6 [(0,.t (.int .i64 v_1)),(2,.t (.bool false))],[],0⟩) [] (by kernel_rfl) ?_;refine AX.region ?_;refine aO.go (f:=0) aK (aJ rfl) ?_;refine aO.go (f:=0) aK (aJ rfl) ?_;refine aO.go (f:=0) aK (NQ rfl rfl) ?_;refine aO.go (f:=0) aK (aL rfl) ?_;refine aO.nil ?_;refine⟨⟨false, ?_⟩,kf ah []⟩;trivial
theorem Q0 (m:Int):∃F:Tree->Tree->Int,∀x y,(T .int x/\T .int y)->R2 (cf m) 182 x y (.int .i64 (F x y))/\(True):=by
 refine tO (P:=λx y=>T .int x/\T .int y) (mk:=λ(r:Int)=>.int .i64 r) (Post:=λx y r=>True) λx y hx=> ?_
 obtain⟨hx,hy⟩:=hx;show ∃r:{r:Int // True},ai (cf m) 182 [.t x,.t y] [] (.ret (.t (.int .i64 r.1)) [] []);have bw:=hx;obtain⟨v_1,rfl⟩:=T.vo bw;have dB:=hy;obtain⟨v_2,rfl⟩:=T.vo dB;obtain⟨Dn,aaK⟩:=QZ m;obtain⟨ev,aK,Q5⟩:∃ev,aD (cf m) ev/\Has ev 206 (mY (λx=>T .int x) (λx=>.bool (Dn x))):=⟨_,(aq (bT (λx h=>(aaK x h).1)) aF),au⟩;refine AX.start 20 2 Tryz.func182 rfl (by decide) rfl rfl (by decide) ?_;refine AX.frames ?_;have zh9:=cO Q5 (x:=.int .i64 v_1) bw;have XC:=cO Q5 (x:=.int .i64 v_2) dB;rcases aM ((Dn (.int .i64 v_1))) with bK|bK
 ·rcases aM ((Dn (.int .i64 v_2))) with gP|gP
  ·refine⟨⟨0, ?_⟩,kf ah [oC zh9,oC XC,oB bK,oB gP]⟩;trivial
  ·refine⟨⟨-1, ?_⟩,kf ah [oC zh9,oC XC,oB bK,oB gP]⟩;trivial
 ·rcases aM ((Dn (.int .i64 v_2))) with jm|jm
  ·refine⟨⟨1, ?_⟩,kf ah [oC zh9,oC XC,oB bK,oB jm]⟩;trivial
  ·rcases aM (decide (v_1<v_2)) with lT|lT
   ·have zC:=of_decide_eq_true lT;refine⟨⟨-1, ?_⟩,kf ah [oC zh9,oC XC,oB bK,oB jm,oB lT]⟩;trivial
   ·have zC:=of_decide_eq_false lT;rcases aM (decide (v_1>v_2)) with gi|gi
    ·have mR:=of_decide_eq_true gi;refine⟨⟨1, ?_⟩,kf ah [oC zh9,oC XC,oB bK,oB jm,oB lT,oB gi]⟩;trivial
    ·have mR:=of_decide_eq_false gi;refine⟨⟨0, ?_⟩,kf ah [oC zh9,oC XC,oB bK,oB jm,oB lT,oB gi]⟩;trivial
end
end Go.Proofs.YtfdnciimclnncaaGreatDoor.w.e
namespace Go.Proofs.YtfdnciimclnncaaGreatDoor.w.e
open Go Go.Abs
set_option maxRecDepth 100000
set_option maxHeartbeats 2000000
noncomputable section
open Classical in
def px (args:List TV)(bu:List aP)(r:bh):List TV->List aP->Option bh:=λa o=>if a=args/\o=bu then some r else none
theorem fT {C:ez}{g:FuncId}{args:List TV}{bu:List aP}{r:bh}(h:ai C g args bu r):kQ C g (px args bu r):=λa o q hq=>by
 unfold px at hq;split at hq
 ·rename_i hp;obtain⟨rfl,rfl⟩:=hp;cases hq;exact h
 ·cases hq
theorem jo {g:FuncId}{ev:bt}{args:List TV}{bu:List aP}{r:bh}(h:Has ev g (px args bu r)):ev g args bu=some r:=h _ _ _ (if_pos ⟨rfl,rfl⟩)
def RK3 (C:ez)(g:FuncId)(k:List TV)(Az:List aP)(x y z r:Tree):Prop:=ai C g (.t x:: .t y:: .t z::k) Az (.ret (.t r) Az [])
open Classical in
def pk3 (k:List TV)(Az:List aP)(P:Tree->Tree->Tree->Prop)(F:Tree->Tree->Tree->Tree):List TV->List aP->Option bh:=λvb os=>match vb with
 |.t x:: .t y:: .t z::r=>if r=k/\os=Az/\P x y z then some (.ret (.t (F x y z)) Az []) else none
 |_=>none
theorem aiX {C:ez}{g:FuncId}{k:List TV}{Az:List aP}{P:Tree->Tree->Tree->Prop}{F:Tree->Tree->Tree->Tree}(h:∀x y z,P x y z->RK3 C g k Az x y z (F x y z)):kQ C g (pk3 k Az P F):=λargs bu r hr=>by
 unfold pk3 at hr;split at hr
 ·split at hr
  ·rename_i hp;obtain⟨rfl,rfl,hp⟩:=hp;cases hr;exact h _ _ _ hp
  ·cases hr
 ·cases hr
theorem ahv {ev:FuncId->List TV->List aP->Option bh}{g:FuncId}{k:List TV}{Az:List aP}{P:Tree->Tree->Tree->Prop}{F:Tree->Tree->Tree->Tree}(h:Has ev g (pk3 k Az P F)){x y z:Tree}(hp:P x y z):ev g (.t x:: .t y:: .t z::k) Az=some (.ret (.t (F x y z)) Az []):=h _ _ _ (if_pos ⟨rfl,rfl,hp⟩)
def AtB (l l2:List Tree)(i x y:Tree):Prop:=∃j:Nat,i=.int .i64 j/\j<4194304/\x∈l/\y∈l2
theorem al6 (m:Int)(k1:Int)(b1:Bool)(n1:Int)(s1 t1:List UInt8)(N1 L1:List Tree)(k2:Int)(b2:Bool)(n2:Int)(s2 t2:List UInt8)(N2 L2:List Tree)(q:Tree->Tree->Tree->Int)(l l2:List Tree)(hl:l.length<=4194304)(hl2:∀y∈l,T .av y)(hm:l2.length<=4194304)(hm2:∀y∈l2,T .av y)(hq:∀x y z,AtB l l2 x y z->RK3 (cf m) 136 [.ptr (.arg 0) 0,.ptr (.arg 1) 0] [.cells 32 (cI k1 b1 n1 s1 t1 N1 L1),.cells 32 (cI k2 b2 n2 s2 t2 N2 L2)] x y z (.int .i64 (q x y z))):∃r:Int,ai (cf m) 135 (.t (.sl l):: .t (.sl l2)::[.fn (.func 136) [] [.ptr (.arg 0) 0,.ptr (.arg 1) 0]]) [.cells 32 (cI k1 b1 n1 s1 t1 N1 L1),.cells 32 (cI k2 b2 n2 s2 t2 N2 L2)] (.ret (.t (.int .i64 r)) [.cells 32 (cI k1 b1 n1 s1 t1 N1 L1),.cells 32 (cI k2 b2 n2 s2 t2 N2 L2)] []):=by
 obtain⟨Q6,aaL⟩:=Q0 m;obtain⟨ev,aK,e_q,aaM⟩:∃ev,aD (cf m) ev/\Has ev 136 (pk3 [.ptr (.arg 0) 0,.ptr (.arg 1) 0] [.cells 32 (cI k1 b1 n1 s1 t1 N1 L1),.cells 32 (cI k2 b2 n2 s2 t2 N2 L2)] (AtB l l2) λx y z=>.int .i64 (q x y z))/\Has ev 182 (rM (λx y=>T .int x/\T .int y) (λx y=>.int .i64 (Q6 x y))):=⟨_,(aq (aiX hq) (aq (dA (λx y h=>(aaL x y h).1)) aF)),au,(az rfl au)⟩;refine AX.start 37 3 Tryz.func135 rfl (by decide) rfl rfl (by decide) ?_;refine AX.frames ?_;refine kl (α:=Nat) ah 0 [] 37 0 [] [.arg 0,.arg 1] [0,1,2,13,14] (λx=>⟨eD 37 [(0,.t (.sl l)),(1,.t (.sl l2)),(2,.fn (.func 136) [] [.ptr (.arg 0) 0,.ptr (.arg 1) 0]),(13,.t (.int .i64 (min ((l.length:Nat):Int) ((l2.length:Nat):Int)))),(14,.t (.int .i64 ((x:Nat):Int)))],[(.arg 0,.cells 32 (cI k1 b1 n1 s1 t1 N1 L1)),(.arg 1,.cells 32 (cI k2 b2 n2 s2 t2 N2 L2))],0⟩) (λx=>(x<=(min l.length l2.length))) (λx=>(min l.length l2.length) - x) 0 (j6 (Tryz.f135.body.getD .skip) 2) [oL .i64 ((l.length:Nat):Int) ((l2.length:Nat):Int)] (by show(0<=(min l.length l2.length));first|trivial|omega|(refine⟨?_, ?_⟩<;>first|omega|exact SM.nil)|simp) (λx hok=> ?_);obtain⟨i_1,zB⟩:∃y,y=x:=⟨x,rfl⟩;subst zB;replace hok:(i_1<=(min l.length l2.length)):=hok;have cM:=hok;rcases aM (decide (((i_1:Nat):Int)<(min ((l.length:Nat):Int) ((l2.length:Nat):Int)))) with cq|cq
 ·have jP:=of_decide_eq_true cq;obtain⟨e3,lU⟩:=dr l i_1;have mI:=(hl2 e3 (fW lU));obtain⟨nQ,BQ,yz,yA,BR,kz,mS,rfl,qM,rU,BS,zF,BT,BU⟩:=T.aB mI;obtain⟨e5,kA⟩:=dr l2 i_1;have lq:=(hm2 e5 (fW kA));obtain⟨dK,kE,qq,rE,kG,dc,bG,rfl,pQ,rW,tU,tV,tW,pR⟩:=T.aB lq;rcases aM (((q (.int .i64 ((i_1:Nat):Int)) (aA nQ BQ yz yA BR kz mS) (aA dK kE qq rE kG dc bG)) != 0)) with gi|gi
  ·have mR:=dM gi;refine kx ah [oB cq,oE lU,oE kA,oC (ahv e_q (x:=.int .i64 ((i_1:Nat):Int)) (y:=(aA nQ BQ yz yA BR kz mS)) (z:=(aA dK kE qq rE kG dc bG)) ⟨_,rfl,by omega,fW lU,fW kA⟩),oB gi] ?_;exact⟨(q (.int .i64 ((i_1:Nat):Int)) (aA nQ BQ yz yA BR kz mS) (aA dK kE qq rE kG dc bG)),kf ah []⟩
  ·have mR:=cC gi;exact⟨.inl ⟨i_1+1,⟨(by show(i_1+1)<=(min l.length l2.length);omega),(by show((min l.length l2.length) - (i_1+1))<((min l.length l2.length) - i_1);omega)⟩⟩,vS ah 0 [] 37 0 [] [.arg 0,.arg 1] [0,1,2,13,14] [oB cq,oE lU,oE kA,oC (ahv e_q (x:=.int .i64 ((i_1:Nat):Int)) (y:=(aA nQ BQ yz yA BR kz mS)) (z:=(aA dK kE qq rE kG dc bG)) ⟨_,rfl,by omega,fW lU,fW kA⟩),oB gi,oI (i_1) (by omega)]⟩
 ·have jP:=of_decide_eq_false cq;refine kx ah [oB cq] ?_;exact⟨(Q6 (.int .i64 ((l.length:Nat):Int)) (.int .i64 ((l2.length:Nat):Int))),kf ah [oC (eL aaM (x:=.int .i64 ((l.length:Nat):Int)) (y:=.int .i64 ((l2.length:Nat):Int)) ⟨(.int _),(.int _)⟩)]⟩
end
end Go.Proofs.YtfdnciimclnncaaGreatDoor.w.e
namespace Go.Proofs.YtfdnciimclnncaaGreatDoor.w.e
open Go Go.Abs
set_option maxRecDepth 100000
set_option maxHeartbeats 2000000
noncomputable section
theorem aeJ (m:Int)(k1:Int)(b1:Bool)(n1:Int)(s1 t1:List UInt8)(N1 L1:List Tree)(k2:Int)(b2:Bool)(n2:Int)(s2 t2:List UInt8)(N2 L2:List Tree)(hN1:N1.length<=4194304)(aiY:∀y∈N1,T .string y)(hN2:N2.length<=4194304)(aiZ:∀y∈N2,T .string y)(j:Nat)(hj:j<4194304)(x y:Tree)(hx:T .av x)(hy:T .av y)(fC:Tree->Tree->Int)(hC:R2 (cf m) 84 x y (.int .i64 (fC x y))):∃r:Int,ai (cf m) 136 (.t (.int .i64 (j:Int)):: .t x:: .t y::[.ptr (.arg 0) 0,.ptr (.arg 1) 0]) [.cells 32 (cI k1 b1 n1 s1 t1 N1 L1),.cells 32 (cI k2 b2 n2 s2 t2 N2 L2)] (.ret (.t (.int .i64 r)) [.cells 32 (cI k1 b1 n1 s1 t1 N1 L1),.cells 32 (cI k2 b2 n2 s2 t2 N2 L2)] []):=by
 have bw:=hx;obtain⟨cN,jX,n_1,s_1,dH,aU,dm,rfl,cL,cF,fQ,dX,fk,eR⟩:=T.aB bw;have dB:=hy;obtain⟨cm,j8,n_2,s_2,iY,b8,eo,rfl,gx,kD,tX,rX,tY,qN⟩:=T.aB dB;obtain⟨nP,JX⟩:=Fl m;obtain⟨ev,aK,zD,e_self⟩:∃ev,aD (cf m) ev/\Has ev 87 (rM (λx y=>T .string x/\T .string y) (λx y=>.int .i64 (nP x y)))/\Has ev 84 (rM (λa b=>a=(aA cN jX n_1 s_1 dH aU dm)/\b=(aA cm j8 n_2 s_2 iY b8 eo)) λa b=>.int .i64 (fC a b)):=⟨_,(aq (dA (λx y h=>(JX x y h).1)) (aq (dA λa b h=>by obtain⟨rfl,rfl⟩:=h;exact hC) aF)),au,(az rfl au)⟩;refine AX.start 45 5 Tryz.func136 rfl (by decide) rfl rfl (by decide) ?_;refine AX.frames ?_;rcases aM (decide (((j:Nat):Int)<(min ((N1.length:Nat):Int) ((N2.length:Nat):Int)))) with hg3|hg3
 ·have Fm:=of_decide_eq_true hg3;obtain⟨e4,uP⟩:=dr N1 j;have qh:=(aiY e4 (fW uP));obtain⟨v_5,rfl,xY⟩:=T.bF qh;obtain⟨e6,he6⟩:=dr N2 j;have AP:=(aiZ e6 (fW he6));obtain⟨v_7,rfl,TQ⟩:=T.bF AP;rcases aM ((!(v_5==v_7))) with js|js
  ·have BV:=ne_of_beq_false (wI js);exact⟨(nP (.str v_5) (.str v_7)),kf ah ([oL .i64 ((N1.length:Nat):Int) ((N2.length:Nat):Int)]++rq 4 (oB hg3) ([oE uP]++rq 5 (oB hg3) ([oE he6,oB hg3,oB hg3,oB hg3,oB js,oE uP,oE he6,oC (eL zD (x:=.str v_5) (y:=.str v_7) ⟨qh,AP⟩)])))⟩
  ·have BV:=eq_of_beq (pO js);exact⟨(fC (aA cN jX n_1 s_1 dH aU dm) (aA cm j8 n_2 s_2 iY b8 eo)),kf ah ([oL .i64 ((N1.length:Nat):Int) ((N2.length:Nat):Int)]++rq 4 (oB hg3) ([oE uP]++rq 5 (oB hg3) ([oE he6,oB hg3,oB hg3,oB hg3,oB js,oC (eL e_self (x:=(aA cN jX n_1 s_1 dH aU dm)) (y:=(aA cm j8 n_2 s_2 iY b8 eo)) ⟨rfl,rfl⟩)])))⟩
 ·have Fm:=of_decide_eq_false hg3;exact⟨(fC (aA cN jX n_1 s_1 dH aU dm) (aA cm j8 n_2 s_2 iY b8 eo)),kf ah ([oL .i64 ((N1.length:Nat):Int) ((N2.length:Nat):Int)]++rq 12 (oB hg3) ([oF,oC (eL e_self (x:=(aA cN jX n_1 s_1 dH aU dm)) (y:=(aA cm j8 n_2 s_2 iY b8 eo)) ⟨rfl,rfl⟩)]))⟩
theorem aeK (m:Int)(k1:Int)(b1:Bool)(n1:Int)(s1 t1:List UInt8)(N1 L1:List Tree)(k2:Int)(b2:Bool)(n2:Int)(s2 t2:List UInt8)(N2 L2:List Tree)(hN1:N1.length<=4194304)(aiY:∀y∈N1,T .string y)(hN2:N2.length<=4194304)(aiZ:∀y∈N2,T .string y)(hL1:L1.length<=4194304)(aqj:∀y∈L1,T .av y)(hL2:L2.length<=4194304)(aqk:∀y∈L2,T .av y)(h:∀a∈L1,∀b∈L2,∃r:Int,R2 (cf m) 84 a b (.int .i64 r)):∃q:Tree->Tree->Tree->Int,∀x y z,AtB L1 L2 x y z->RK3 (cf m) 136 [.ptr (.arg 0) 0,.ptr (.arg 1) 0] [.cells 32 (cI k1 b1 n1 s1 t1 N1 L1),.cells 32 (cI k2 b2 n2 s2 t2 N2 L2)] x y z (.int .i64 (q x y z)):=by
 obtain⟨fC,hC⟩:=bJ (α:=Tree×Tree) (P:=λp=>p.1∈L1/\p.2∈L2) (Q:=λp (r:Int)=>R2 (cf m) 84 p.1 p.2 (.int .i64 r)) λp hp=>h p.1 hp.1 p.2 hp.2
 obtain⟨q,hq⟩:=bJ (α:=Tree×Tree×Tree) (P:=λp=>AtB L1 L2 p.1 p.2.1 p.2.2) (Q:=λp (r:Int)=>RK3 (cf m) 136 [.ptr (.arg 0) 0,.ptr (.arg 1) 0] [.cells 32 (cI k1 b1 n1 s1 t1 N1 L1),.cells 32 (cI k2 b2 n2 s2 t2 N2 L2)] p.1 p.2.1 p.2.2 (.int .i64 r)) λp hp=>by
  obtain⟨x,y,z⟩:=p;obtain⟨j,rfl,hj,h1,h2⟩:=hp;exact aeJ m k1 b1 n1 s1 t1 N1 L1 k2 b2 n2 s2 t2 N2 L2 hN1 aiY hN2 aiZ j hj y z (aqj _ h1) (aqk _ h2) (λa b=>fC (a,b)) (hC (y,z) ⟨h1,h2⟩)
 exact⟨λx y z=>q (x,y,z),λx y z h=>hq (x,y,z) h⟩
def lsV:Tree->List Tree
 |.agg [_,_,_,_,_,_,.sl l]=>l
 |_=>[]
theorem ai0 (m:Int)(x y:Tree)(hx:T .av x)(hy:T .av y)(W4:∀a∈lsV x,∀b∈lsV y,∃r:Int,R2 (cf m) 84 a b (.int .i64 r)):∃r:Int,ai (cf m) 84 [.t x,.t y] [] (.ret (.t (.int .i64 r)) [] []):=by
 have bw:=hx;obtain⟨cN,jX,n_1,s_1,dH,aU,dm,rfl,cL,cF,fQ,dX,fk,eR⟩:=T.aB bw;have dB:=hy;obtain⟨cm,j8,n_2,s_2,iY,b8,eo,rfl,gx,kD,tX,rX,tY,qN⟩:=T.aB dB;obtain⟨Q7,aaN⟩:=QU m;obtain⟨Q8,aaO⟩:=QX m;obtain⟨nP,JX⟩:=Fl m;obtain⟨QS,aaG⟩:=QN m;obtain⟨qa,hqa⟩:=aeK m cN jX n_1 s_1 dH aU dm cm j8 n_2 s_2 iY b8 eo cc dX cc rX cc eR cc qN W4;obtain⟨ra,hra⟩:=al6 m cN jX n_1 s_1 dH aU dm cm j8 n_2 s_2 iY b8 eo qa dm eo cc eR cc qN hqa;obtain⟨ev,aK,aaP,aaQ,zD,aaH,al7⟩:∃ev,aD (cf m) ev/\Has ev 133 (rM (λx y=>T .jU x/\T .jU y) (λx y=>.int .i64 (Q7 x y)))/\Has ev 134 (rM (λx y=>T .int64 x/\T .int64 y) (λx y=>.int .i64 (Q8 x y)))/\Has ev 87 (rM (λx y=>T .string x/\T .string y) (λx y=>.int .i64 (nP x y)))/\Has ev 86 (mY (λx=>T .Lint x) (λx=>.int .i64 (QS x)))/\Has ev 135 (px (.t (.sl dm):: .t (.sl eo)::[.fn (.func 136) [] [.ptr (.arg 0) 0,.ptr (.arg 1) 0]]) [.cells 32 (cI cN jX n_1 s_1 dH aU dm),.cells 32 (cI cm j8 n_2 s_2 iY b8 eo)] (.ret (.t (.int .i64 ra)) [.cells 32 (cI cN jX n_1 s_1 dH aU dm),.cells 32 (cI cm j8 n_2 s_2 iY b8 eo)] [])):=⟨_,(aq (dA (λx y h=>(aaN x y h).1)) (aq (dA (λx y h=>(aaO x y h).1)) (aq (dA (λx y h=>(JX x y h).1)) (aq (bT (λx h=>(aaG x h).1)) (aq (fT hra) aF))))),au,(az rfl au),(az rfl (az rfl au)),(az rfl (az rfl (az rfl au))),(az rfl (az rfl (az rfl (az rfl au))))⟩;refine AX.start 67 2 Tryz.func84 rfl (by decide) rfl rfl (by decide) ?_;refine AX.frames ?_;rcases aM ((cN != cm)) with bK|bK
 ·have mH:=dM bK;exact⟨(Q7 (.int .u8 cN) (.int .u8 cm)),kf ah [oB bK,oC (eL aaP (x:=.int .u8 cN) (y:=.int .u8 cm) ⟨(.jU _),(.jU _)⟩)]⟩
 ·have mH:=cC bK;rcases aM ((cN==0)) with gP|gP
  ·have tT:=eq_of_beq gP;rcases aM ((jX==j8)) with jm|jm
   ·have BW:=eq_of_beq jm;exact⟨0,kf ah [oB bK,oB gP,oB jm]⟩
   ·have BW:=ne_of_beq_false jm;rcases aM (jX) with lT|lT
    ·exact⟨1,kf ah [oB bK,oB gP,oB jm,oB lT]⟩
    ·exact⟨-1,kf ah [oB bK,oB gP,oB jm,oB lT]⟩
  ·have tT:=ne_of_beq_false gP;rcases aM ((cN==1)) with gi|gi
   ·have mR:=eq_of_beq gi;exact⟨(Q8 (.int .i64 n_1) (.int .i64 n_2)),kf ah [oB bK,oB gP,oB gi,oC (eL aaQ (x:=.int .i64 n_1) (y:=.int .i64 n_2) ⟨(.int64 _),(.int64 _)⟩)]⟩
   ·have mR:=ne_of_beq_false gi;rcases aM ((cN==2)) with js|js
    ·have BV:=eq_of_beq js;exact⟨(nP (.str s_1) (.str s_2)),kf ah [oB bK,oB gP,oB gi,oB js,oB js,oB js,oC (eL zD (x:=.str s_1) (y:=.str s_2) ⟨(.string _ cc),(.string _ cc)⟩)]⟩
    ·have BV:=ne_of_beq_false js;rcases aM ((cN==3)) with qi|qi
     ·have Fo:=eq_of_beq qi;exact⟨(QS (.sl [.int .i64 (nP (.str dH) (.str iY)),.int .i64 (nP (.str s_1) (.str s_2))])),kf ah [oB bK,oB gP,oB gi,oB js,oB qi,oB js,oC (eL zD (x:=.str dH) (y:=.str iY) ⟨(.string _ cc),(.string _ cc)⟩),oC (eL zD (x:=.str s_1) (y:=.str s_2) ⟨(.string _ cc),(.string _ cc)⟩),oC (cO aaH (x:=.sl [.int .i64 (nP (.str dH) (.str iY)),.int .i64 (nP (.str s_1) (.str s_2))]) (.Lint _ cc (bD (.int _) (bD (.int _) (λ_ h=>absurd h (by simp))))))]⟩
     ·have Fo:=ne_of_beq_false qi;rcases aM ((cN==4)) with k6|k6
      ·have JY:=eq_of_beq k6;exact⟨ra,kf ah [oB bK,oB gP,oB gi,oB js,oB qi,oB k6,oB k6,oC (jo al7)]⟩
      ·have JY:=ne_of_beq_false k6;rcases aM ((cN==5)) with iF|iF
       ·have aaR:=eq_of_beq iF;exact⟨ra,kf ah [oB bK,oB gP,oB gi,oB js,oB qi,oB k6,oB iF,oC (jo al7)]⟩
       ·have aaR:=ne_of_beq_false iF;exact⟨0,kf ah [oB bK,oB gP,oB gi,oB js,oB qi,oB k6,oB iF]⟩
theorem Q9 (m:Int):∃F:Tree->Tree->Int,∀x y,T .av x/\T .av y->R2 (cf m) 84 x y (.int .i64 (F x y)):=by
 have key:∀(k:K) (x:Tree),T k x->k=.av->∀y,T .av y->∃r:Int,R2 (cf m) 84 x y (.int .i64 r):=by
  intro k x h;induction h with
  |av k1 b1 n1 s1 t1 N1 L1 hs ht h0 h1 h2 h3 _ ih=>exactλ_ y hy=>ai0 m _ y (.av k1 b1 n1 s1 t1 N1 L1 hs ht h0 h1 h2 h3) hy λa ha b hb=>ih a ha rfl b (by obtain⟨k2,b2,n2,s2,t2,N2,L2,rfl,_,_,_,_,_,g3⟩:=T.aB hy;exact g3 b hb)
  |_=>exactλe=>(by cases e)
 exact zA (Tree.int .i64) λb x h=>key _ b h.1 rfl x h.2
theorem aaS (m:Int):∃F:Tree->Int,∀x,(T .int64 x)->R1 (cf m) 219 x (.int .u64 (F x))/\(True):=by
 refine BI (P:=λx=>T .int64 x) (mk:=λ(r:Int)=>.int .u64 r) (Post:=λx r=>True) λx hx=> ?_
 show ∃r:{r:Int // True},ai (cf m) 219 [.t x] [] (.ret (.t (.int .u64 r.1)) [] []);have bw:=hx;obtain⟨v_1,rfl⟩:=T.oc bw;obtain⟨ev,aK⟩:∃ev,aD (cf m) ev:=⟨_,aF⟩;refine AX.start 10 1 Tryz.func219 rfl (by decide) rfl rfl (by decide) ?_;refine AX.frames ?_;rcases aM (decide (v_1<0)) with cq|cq
 ·have jP:=of_decide_eq_true cq;refine⟨⟨(IntKind.wrap .u64 (0 - ((IntKind.wrap .u64 v_1)))), ?_⟩,kf ah [oB cq,oZ]⟩;trivial
 ·have jP:=of_decide_eq_false cq;refine⟨⟨(IntKind.wrap .u64 v_1), ?_⟩,kf ah [oB cq,oZ]⟩;trivial
theorem aaT (m:Int)(k1:Int)(b1:Bool)(n1:Int)(s1 t1:List UInt8)(hs1:s1.length<=4194304)(ht1:t1.length<=4194304)(ns ks:List Tree)(ln:ns.length<=4194304)(Yr:∀y∈ns,T .string y)(lk:ks.length<=4194304)(hks:∀y∈ks,T .av y)(fS:Tree->Int×Int×Bool)(hS:∀y∈ks,ai (cf m) 42 [.t y] [] (.ret (.t (.bU [.int .i64 (fS y).1,.int .i64 (fS y).2.1,.bool (fS y).2.2])) [] [])):∃r:Int×Int×Bool,ai (cf m) 42 [.t (aA k1 b1 n1 s1 t1 ns ks)] [] (.ret (.t (.bU [.int .i64 r.1,.int .i64 r.2.1,.bool r.2.2])) [] []):=by
 obtain⟨Dj,TP⟩:=xX m;obtain⟨zG,Ol⟩:=Di m;obtain⟨al8,aql⟩:=Q9 m;obtain⟨ev,aK,Fk,Fp,e_self,JZ⟩:∃ev,aD (cf m) ev/\Has ev 41 (mY (λx=>PS x) (λx=>.bool (Dj x)))/\Has ev 22 (mY (λx=>T .aI x) (λx=>.int .i64 (zG x)))/\Has ev 42 (mY (λy=>y∈ks) λy=>.bU [.int .i64 (fS y).1,.int .i64 (fS y).2.1,.bool (fS y).2.2])/\Has ev 84 (rM (λx y=>T .av x/\T .av y) (λx y=>.int .i64 (al8 x y))):=⟨_,(aq (bT (λx h=>(TP x h))) (aq (bT (λx h=>(Ol x h).1)) (aq (bT hS) (aq (dA (λx y h=>(aql x y h))) aF)))),au,(az rfl au),(az rfl (az rfl au)),(az rfl (az rfl (az rfl au)))⟩;refine AX.start 220 1 Tryz.func42 rfl (by decide) rfl rfl (by decide) ?_;refine AX.frames ?_;refine Vt (f:=0) ah aK (α:=Bool×Bool×Int×List UInt8×List UInt8) (λx=>⟨eD 220 [(1,.ptr (.loc [0]) 0),(2,.t (.int .i64 0)),(3,.t (.int .i64 0)),(4,.t (.bool x.1)),(5,.ptr (.loc [1]) 0)],[(.loc [0],.cells 32 (cI k1 b1 n1 s1 t1 ns ks)),(.loc [1],.cells 32 [.t (.int .u8 k1),.t (.bool x.2.1),.t (.int .i64 x.2.2.1),.t (.str x.2.2.2.1),.t (.str x.2.2.2.2),.bW,.bW])],2⟩) (λx=>(x.1=true->k1=5->ns.length=ks.length)) 2 (n:=3000) (once:=[]) (k:=220) (T:=2) (S:=[.loc [0],.loc [7]]) (ks:=[.loc [0],.loc [7]]) (live:=[1,2,3,4,5]) (aeF (Tryz.f42.body.getD .skip) 15) (⟨eD 220 [(1,.ptr (.loc [0]) 0),(2,.t (.int .i64 0)),(3,.t (.int .i64 0)),(4,.t (.bool false)),(5,.ptr (.loc [1]) 0)],[(.loc [0],.cells 32 (cI k1 b1 n1 s1 t1 ns ks)),(.loc [1],.cells 32 [.t (.int .u8 k1),.t (.bool false),.t (.int .i64 0),.t (.str []),.t (.str []),.bW,.bW])],2⟩) [] (by kernel_rfl) ?_ ?_
 ·rcases aM ((k1==0)) with cq|cq
  ·have jP:=eq_of_beq cq;exact⟨.inl ⟨⟨true,b1,0,[],[]⟩,(by intro h1 h2;first|omega|(have:=eq_of_beq h1;omega))⟩,kr ah 220 2 [.loc [0],.loc [1]] [1,2,3,4,5] [oB cq]⟩
  ·have jP:=ne_of_beq_false cq;rcases aM ((k1==1)) with bK|bK
   ·have mH:=eq_of_beq bK;exact⟨.inl ⟨⟨true,false,n1,[],[]⟩,(by intro h1 h2;first|omega|(have:=eq_of_beq h1;omega))⟩,kr ah 220 2 [.loc [0],.loc [1]] [1,2,3,4,5] [oB cq,oB bK]⟩
   ·have mH:=ne_of_beq_false bK;rcases aM ((k1==2)) with gP|gP
    ·have tT:=eq_of_beq gP;rcases aM (decide (((s1.length:Nat):Int)<=256)) with nO|nO
     ·have J1:=of_decide_eq_true nO;exact⟨.inl ⟨⟨(Dj (.str s1)),false,0,s1,[]⟩,(by intro h1 h2;first|omega|(have:=eq_of_beq h1;omega))⟩,kr ah 220 2 [.loc [0],.loc [1]] [1,2,3,4,5] [oB cq,oB bK,oB gP,oB nO,oB nO,oB nO,oC (cO Fk (x:=.str s1) ⟨_,rfl⟩),oB nO]⟩
     ·have J1:=of_decide_eq_false nO;exact⟨.inl ⟨⟨false,false,0,s1,[]⟩,(by intro h1 h2;first|omega|(have:=eq_of_beq h1;omega))⟩,kr ah 220 2 [.loc [0],.loc [1]] [1,2,3,4,5] ([oB cq,oB bK,oB gP]++rq 4 (oB nO) ([]))⟩
    ·have tT:=ne_of_beq_false gP;rcases aM ((k1==3)) with lT|lT
     ·have zC:=eq_of_beq lT;exact⟨.inl ⟨⟨((zG (.agg [.str t1,.str s1]))==0),false,0,s1,t1⟩,(by intro h1 h2;first|omega|(have:=eq_of_beq h1;omega))⟩,kr ah 220 2 [.loc [0],.loc [1]] [1,2,3,4,5] [oB cq,oB bK,oB gP,oB lT,oC (cO Fp (x:=.agg [.str t1,.str s1]) (.aI _ _ cc cc))]⟩
     ·have zC:=ne_of_beq_false lT;rcases aM ((k1==4)) with gi|gi
      ·have mR:=eq_of_beq gi;exact⟨.inl ⟨⟨(((ns.length:Nat):Int)==0),false,0,[],[]⟩,(by intro h1 h2;first|omega|(have:=eq_of_beq h1;omega))⟩,kr ah 220 2 [.loc [0],.loc [1]] [1,2,3,4,5] [oB cq,oB bK,oB gP,oB lT,oB gi]⟩
      ·have mR:=ne_of_beq_false gi;rcases aM ((k1==5)) with js|js
       ·have BV:=eq_of_beq js;exact⟨.inl ⟨⟨(((ns.length:Nat):Int)==((ks.length:Nat):Int)),false,0,[],[]⟩,(by intro h1 h2;first|omega|(have:=eq_of_beq h1;omega))⟩,kr ah 220 2 [.loc [0],.loc [1]] [1,2,3,4,5] [oB cq,oB bK,oB gP,oB lT,oB gi,oB js]⟩
       ·have BV:=ne_of_beq_false js;exact⟨.inl ⟨⟨false,false,0,[],[]⟩,(by intro h1 h2;first|omega|(have:=eq_of_beq h1;omega))⟩,kr ah 220 2 [.loc [0],.loc [1]] [1,2,3,4,5] [oB cq,oB bK,oB gP,oB lT,oB gi,oB js]⟩
 ·rintro ⟨aaU,Dq,Dr,Ds,Dt⟩ hok;replace hok:(aaU=true->k1=5->ns.length=ks.length):=hok;have cM:=hok;refine Vt (f:=0) ah aK (α:=Bool) (λx=>⟨eD 220 [(1,.ptr (.loc [0]) 0),(2,.t (.int .i64 0)),(3,.t (.int .i64 0)),(4,.t (.bool aaU)),(5,.ptr (.loc [1]) 0),(6,.t (.bool x))],[(.loc [0],.cells 32 (cI k1 b1 n1 s1 t1 ns ks)),(.loc [1],.cells 32 [.t (.int .u8 k1),.t (.bool Dq),.t (.int .i64 Dr),.t (.str Ds),.t (.str Dt),.bW,.bW])],2⟩) (λx=>True) 15 (n:=3000) (once:=[]) (k:=220) (T:=2) (S:=[.loc [0],.loc [1]]) (ks:=[.loc [0],.loc [1]]) (live:=[1,2,3,4,5]) (aeF (Tryz.f42.body.getD .skip) 16) (⟨eD 220 [(1,.ptr (.loc [0]) 0),(2,.t (.int .i64 0)),(3,.t (.int .i64 0)),(4,.t (.bool aaU)),(5,.ptr (.loc [1]) 0)],[(.loc [0],.cells 32 (cI k1 b1 n1 s1 t1 ns ks)),(.loc [1],.cells 32 [.t (.int .u8 k1),.t (.bool Dq),.t (.int .i64 Dr),.t (.str Ds),.t (.str Dt),.bW,.bW])],2⟩) [] (by kernel_rfl) ?_ ?_
  ·rcases aM ((k1==4)) with gQ|gQ
   ·have Ra:=eq_of_beq gQ;exact⟨.inl ⟨true,trivial⟩,kr ah 220 2 [.loc [0],.loc [1]] [1,2,3,4,5,6] (rq 4 (oB gQ) ([]))⟩
   ·have Ra:=ne_of_beq_false gQ;exact⟨.inl ⟨(k1==5),trivial⟩,kr ah 220 2 [.loc [0],.loc [1]] [1,2,3,4,5,6] (rq 4 (oB gQ) ([]))⟩
  ·intro al9 hok;refine Vt (f:=0) ah aK (α:=Bool) (λx=>⟨eD 220 [(1,.ptr (.loc [0]) 0),(2,.t (.int .i64 0)),(3,.t (.int .i64 0)),(4,.t (.bool x))],[(.loc [0],.cells 32 (cI k1 b1 n1 s1 t1 ns ks))],1⟩) (λx=>(x=true->k1=5->ns.length=ks.length)) 16 (n:=3000) (once:=[]) (k:=220) (T:=2) (S:=[.loc [0],.loc [1]]) (ks:=[.loc [0],.loc [1]]) (live:=[1,2,3,4,5,6]) (aeF (Tryz.f42.body.getD .skip) 17) (⟨eD 220 [(1,.ptr (.loc [0]) 0),(2,.t (.int .i64 0)),(3,.t (.int .i64 0)),(4,.t (.bool aaU)),(5,.ptr (.loc [1]) 0),(6,.t (.bool al9))],[(.loc [0],.cells 32 (cI k1 b1 n1 s1 t1 ns ks)),(.loc [1],.cells 32 [.t (.int .u8 k1),.t (.bool Dq),.t (.int .i64 Dr),.t (.str Ds),.t (.str Dt),.bW,.bW])],2⟩) [] (by kernel_rfl) ?_ ?_
   ·rcases aM (aaU) with cE|cE
    ·rcases aM ((b1==Dq)) with iZ|iZ
     ·have J2:=eq_of_beq iZ;rcases aM ((n1==Dr)) with lu|lu
      ·have J3:=eq_of_beq lu;rcases aM ((s1==Ds)) with kj|kj
       ·have Rb:=eq_of_beq kj;rcases aM ((t1==Dt)) with iW|iW
        ·have Rc:=eq_of_beq iW;rcases aM (al9) with sQ|sQ
         ·exact⟨.inl ⟨decide (((ks.length:Nat):Int)<=16),(by intro h1 h2;first|exact cM (by assumption) h2|exact absurd h1 (by decide))⟩,kr ah 220 1 [.loc [0]] [1,2,3,4] (rq 6 (oB cE) (rq 6 (oB iZ) (rq 6 (oB lu) (rq 6 (oB kj) ([oB iW,oB iW]++rq 8 (oB sQ) ([oB iW,oB sQ,oB iW]++rq 5 oT ([])))))))⟩
         ·rcases aM ((((ks.length+ns.length:Nat):Int)==0)) with sS|sS
          ·have aaV:=eq_of_beq sS;exact⟨.inl ⟨decide (((ks.length:Nat):Int)<=16),(by intro h1 h2;first|exact cM (by assumption) h2|exact absurd h1 (by decide))⟩,kr ah 220 1 [.loc [0]] [1,2,3,4] (rq 6 (oB cE) (rq 6 (oB iZ) (rq 6 (oB lu) (rq 6 (oB kj) ([oB iW,oB iW]++rq 7 (oB sQ) ([H8 ks.length ns.length (by first|omega|(simp;omega)),oB sQ,oB iW,oB sQ,oB iW]++rq 5 (oB sS) ([])))))))⟩
          ·have aaV:=ne_of_beq_false sS;exact⟨.inl ⟨false,(by intro h1 h2;first|exact cM (by assumption) h2|exact absurd h1 (by decide))⟩,kr ah 220 1 [.loc [0]] [1,2,3,4] (rq 6 (oB cE) (rq 6 (oB iZ) (rq 6 (oB lu) (rq 6 (oB kj) ([oB iW,oB iW]++rq 7 (oB sQ) ([H8 ks.length ns.length (by first|omega|(simp;omega)),oB sQ,oB iW,oB sQ,oB iW]++rq 5 (oB sS) ([])))))))⟩
        ·have Rc:=ne_of_beq_false iW;exact⟨.inl ⟨false,(by intro h1 h2;first|exact cM (by assumption) h2|exact absurd h1 (by decide))⟩,kr ah 220 1 [.loc [0]] [1,2,3,4] (rq 6 (oB cE) (rq 6 (oB iZ) (rq 6 (oB lu) (rq 6 (oB kj) (rq 4 (oB iW) (rq 5 oF ([])))))))⟩
       ·have Rb:=ne_of_beq_false kj;exact⟨.inl ⟨false,(by intro h1 h2;first|exact cM (by assumption) h2|exact absurd h1 (by decide))⟩,kr ah 220 1 [.loc [0]] [1,2,3,4] (rq 6 (oB cE) (rq 6 (oB iZ) (rq 6 (oB lu) (rq 6 (oB kj) (rq 9 oF ([]))))))⟩
      ·have J3:=ne_of_beq_false lu;exact⟨.inl ⟨false,(by intro h1 h2;first|exact cM (by assumption) h2|exact absurd h1 (by decide))⟩,kr ah 220 1 [.loc [0]] [1,2,3,4] (rq 6 (oB cE) (rq 6 (oB iZ) (rq 6 (oB lu) (rq 15 oF ([])))))⟩
     ·have J2:=ne_of_beq_false iZ;exact⟨.inl ⟨false,(by intro h1 h2;first|exact cM (by assumption) h2|exact absurd h1 (by decide))⟩,kr ah 220 1 [.loc [0]] [1,2,3,4] (rq 6 (oB cE) (rq 6 (oB iZ) (rq 21 oF ([]))))⟩
    ·exact⟨.inl ⟨false,(by intro h1 h2;first|exact cM (by assumption) h2|exact absurd h1 (by decide))⟩,kr ah 220 1 [.loc [0]] [1,2,3,4] (rq 6 (oB cE) (rq 27 oF ([])))⟩
   ·intro ahw hok;replace hok:(ahw=true->k1=5->ns.length=ks.length):=hok;have J4:=hok;refine kl (α:=Nat×Int×Int×Bool) ah 0 [] 220 1 [.loc [0]] [.loc [0]] [1,2,3,4,7] (λx=>⟨eD 220 [(1,.ptr (.loc [0]) 0),(2,.t (.int .i64 x.2.1)),(3,.t (.int .i64 x.2.2.1)),(4,.t (.bool x.2.2.2)),(7,.t (.int .i64 ((x.1:Nat):Int)))],[(.loc [0],.cells 32 (cI k1 b1 n1 s1 t1 ns ks))],1⟩) (λx=>(x.1<=ks.length)/\(k1=5->(x.2.2.2=true\/0<x.1)->ns.length=ks.length)) (λx=>ks.length - x.1) (⟨0,0,0,ahw⟩) (j6 (Tryz.f42.body.getD .skip) 18) [] ⟨Nat.zero_le _,λh1 h2=>J4 (h2.resolve_right (by simp)) h1⟩ (λx hok=> ?_);obtain⟨uQ,iX,pT,Vw⟩:=x;replace hok:(uQ<=ks.length)/\(k1=5->(Vw=true\/0<uQ)->ns.length=ks.length):=hok;obtain⟨ama,J5⟩:=hok;rcases aM (Vw) with xZ|xZ
    ·rcases aM (decide (((uQ:Nat):Int)<((ks.length:Nat):Int))) with Hy|Hy
     ·have aaW:=of_decide_eq_true Hy;refine Vt (f:=0) ah aK (α:=Int×Int×Bool) (λx=>⟨eD 220 [(1,.ptr (.loc [0]) 0),(2,.t (.int .i64 x.1)),(3,.t (.int .i64 x.2.1)),(4,.t (.bool x.2.2)),(7,.t (.int .i64 ((uQ:Nat):Int)))],[(.loc [0],.cells 32 (cI k1 b1 n1 s1 t1 ns ks))],1⟩) (λx=>True) 20 (n:=3000) (once:=[]) (k:=220) (T:=1) (S:=[.loc [0]]) (ks:=[.loc [0]]) (live:=[1,2,3,7]) (aeF (Tryz.f42.body.getD .skip) 19) (⟨eD 220 [(1,.ptr (.loc [0]) 0),(2,.t (.int .i64 iX)),(3,.t (.int .i64 pT)),(7,.t (.int .i64 ((uQ:Nat):Int)))],[(.loc [0],.cells 32 (cI k1 b1 n1 s1 t1 ns ks))],1⟩) (rq 6 (oB xZ) ([oB Hy])) (by kernel_rfl) ?_ ?_
      ·obtain⟨e23,oq⟩:=dr ks uQ;have Vx:=(hks e23 (fW oq));obtain⟨bL,eF,fU,fV,dI,bl,bM,rfl,aeL,aeM,aeN,aeO,aeP,aeQ⟩:=T.aB Vx;have AQ:=cO e_self (x:=(aA bL eF fU fV dI bl bM)) (fW oq);rcases aM (decide (((uQ:Nat):Int)>0)) with qO|qO
       ·have amb:=of_decide_eq_true qO;rcases aM ((k1==4)) with Hz|Hz
        ·have amc:=eq_of_beq Hz;rcases aM ((fS (aA bL eF fU fV dI bl bM)).2.2) with BX|BX
         ·obtain⟨e28,Fq⟩:=dr ks (uQ - 1);have Vy:=(hks e28 (fW Fq));obtain⟨Vz,ahx,J6,J7,zH,mJ,VA,rfl,aeR,aeS,aeT,aeU,aeV,aeW⟩:=T.aB Vy;exact⟨.inl ⟨⟨(max iX ((fS (aA bL eF fU fV dI bl bM)).1)),(IntKind.wrap .i64 (pT+(fS (aA bL eF fU fV dI bl bM)).2.1)),decide ((al8 (aA Vz ahx J6 J7 zH mJ VA) (aA bL eF fU fV dI bl bM))<0)⟩,trivial⟩,kr ah 220 1 [.loc [0]] [1,2,3,4,7] ([oE oq,oC AQ,oG .i64 iX ((fS (aA bL eF fU fV dI bl bM)).1),oZ]++rq 4 (oB qO) ([oB Hz]++rq 4 (oB BX) ([oS (uQ) (by omega) (by omega),oB BX,oE Fq]++rq 5 (oB BX) ([oE oq,oB BX,oB BX,oC (eL JZ (x:=(aA Vz ahx J6 J7 zH mJ VA)) (y:=(aA bL eF fU fV dI bl bM)) ⟨Vy,Vx⟩),oB BX,oB BX]))))⟩
         ·exact⟨.inl ⟨⟨(max iX ((fS (aA bL eF fU fV dI bl bM)).1)),(IntKind.wrap .i64 (pT+(fS (aA bL eF fU fV dI bl bM)).2.1)),false⟩,trivial⟩,kr ah 220 1 [.loc [0]] [1,2,3,4,7] ([oE oq,oC AQ,oG .i64 iX ((fS (aA bL eF fU fV dI bl bM)).1),oZ]++rq 4 (oB qO) ([oB Hz]++rq 14 (oB BX) ([])))⟩
        ·have amc:=ne_of_beq_false Hz;rcases aM ((k1==5)) with LC|LC
         ·have amd:=eq_of_beq LC;have hln:=J5 (by first|assumption|omega) (.inl (by assumption));obtain⟨e31,TR⟩:=dr ns uQ;have ame:=(Yr e31 (fW TR));obtain⟨TS,rfl,apk⟩:=T.bF ame;rcases aM ((fS (aA bL eF fU fV dI bl bM)).2.2) with x4|x4
          ·rcases aM ((!(TS==[]))) with Fs|Fs
           ·have amf:=ne_of_beq_false (wI Fs);rcases aM (decide (((TS.length:Nat):Int)<=64)) with vT|vT
            ·have aaX:=of_decide_eq_true vT;rcases aM ((Dj (.str TS))) with HA|HA
             ·rcases aM ((((uQ:Nat):Int)==0)) with AR|AR
              ·have amg:=eq_of_beq AR;exact⟨.inl ⟨⟨(max iX ((fS (aA bL eF fU fV dI bl bM)).1)),(IntKind.wrap .i64 (pT+(fS (aA bL eF fU fV dI bl bM)).2.1)),true⟩,trivial⟩,kr ah 220 1 [.loc [0]] [1,2,3,4,7] ([oE oq,oC AQ,oG .i64 iX ((fS (aA bL eF fU fV dI bl bM)).1),oZ]++rq 4 (oB qO) ([oB Hz,oB LC,oE TR,oB x4,oB x4,oB x4]++rq 4 (oB Fs) ([oB vT,oB vT,oC (cO Fk (x:=.str TS) ⟨_,rfl⟩),oB vT,oB HA,oB HA,oB HA]++rq 8 (oB AR) ([oB HA,oB AR,oB HA]))))⟩
              ·have amg:=ne_of_beq_false AR;obtain⟨e38,amh⟩:=dr ns (uQ - 1);have ami:=(Yr e38 (fW amh));obtain⟨aqm,rfl,apl⟩:=T.bF ami;exact⟨.inl ⟨⟨(max iX ((fS (aA bL eF fU fV dI bl bM)).1)),(IntKind.wrap .i64 (pT+(fS (aA bL eF fU fV dI bl bM)).2.1)),(jy aqm TS)⟩,trivial⟩,kr ah 220 1 [.loc [0]] [1,2,3,4,7] ([oE oq,oC AQ,oG .i64 iX ((fS (aA bL eF fU fV dI bl bM)).1),oZ]++rq 4 (oB qO) ([oB Hz,oB LC,oE TR,oB x4,oB x4,oB x4]++rq 4 (oB Fs) ([oB vT,oB vT,oC (cO Fk (x:=.str TS) ⟨_,rfl⟩),oB vT,oB HA,oB HA,oB HA]++rq 4 (oB AR) ([oS (uQ) (by omega) (by omega),oB AR,oE amh,oB AR,oB AR,oB AR,oB HA,oB AR,oB HA]))))⟩
             ·exact⟨.inl ⟨⟨(max iX ((fS (aA bL eF fU fV dI bl bM)).1)),(IntKind.wrap .i64 (pT+(fS (aA bL eF fU fV dI bl bM)).2.1)),false⟩,trivial⟩,kr ah 220 1 [.loc [0]] [1,2,3,4,7] ([oE oq,oC AQ,oG .i64 iX ((fS (aA bL eF fU fV dI bl bM)).1),oZ]++rq 4 (oB qO) ([oB Hz,oB LC,oE TR,oB x4,oB x4,oB x4]++rq 4 (oB Fs) ([oB vT,oB vT,oC (cO Fk (x:=.str TS) ⟨_,rfl⟩),oB vT]++rq 5 (oB HA) ([]))))⟩
            ·have aaX:=of_decide_eq_false vT;exact⟨.inl ⟨⟨(max iX ((fS (aA bL eF fU fV dI bl bM)).1)),(IntKind.wrap .i64 (pT+(fS (aA bL eF fU fV dI bl bM)).2.1)),false⟩,trivial⟩,kr ah 220 1 [.loc [0]] [1,2,3,4,7] ([oE oq,oC AQ,oG .i64 iX ((fS (aA bL eF fU fV dI bl bM)).1),oZ]++rq 4 (oB qO) ([oB Hz,oB LC,oE TR,oB x4,oB x4,oB x4]++rq 4 (oB Fs) ([oB vT,oB vT,oB vT]++rq 5 oF ([]))))⟩
           ·have amf:=eq_of_beq (pO Fs);exact⟨.inl ⟨⟨(max iX ((fS (aA bL eF fU fV dI bl bM)).1)),(IntKind.wrap .i64 (pT+(fS (aA bL eF fU fV dI bl bM)).2.1)),false⟩,trivial⟩,kr ah 220 1 [.loc [0]] [1,2,3,4,7] ([oE oq,oC AQ,oG .i64 iX ((fS (aA bL eF fU fV dI bl bM)).1),oZ]++rq 4 (oB qO) ([oB Hz,oB LC,oE TR,oB x4,oB x4,oB x4]++rq 4 (oB Fs) (rq 8 oF ([]))))⟩
          ·exact⟨.inl ⟨⟨(max iX ((fS (aA bL eF fU fV dI bl bM)).1)),(IntKind.wrap .i64 (pT+(fS (aA bL eF fU fV dI bl bM)).2.1)),false⟩,trivial⟩,kr ah 220 1 [.loc [0]] [1,2,3,4,7] ([oE oq,oC AQ,oG .i64 iX ((fS (aA bL eF fU fV dI bl bM)).1),oZ]++rq 4 (oB qO) ([oB Hz,oB LC,oE TR,oB x4,oB x4,oB x4]++rq 12 oF ([])))⟩
         ·have amd:=ne_of_beq_false LC;exact⟨.inl ⟨⟨(max iX ((fS (aA bL eF fU fV dI bl bM)).1)),(IntKind.wrap .i64 (pT+(fS (aA bL eF fU fV dI bl bM)).2.1)),(fS (aA bL eF fU fV dI bl bM)).2.2⟩,trivial⟩,kr ah 220 1 [.loc [0]] [1,2,3,4,7] ([oE oq,oC AQ,oG .i64 iX ((fS (aA bL eF fU fV dI bl bM)).1),oZ]++rq 4 (oB qO) ([oB Hz,oB LC]))⟩
       ·have amb:=of_decide_eq_false qO;rcases aM ((k1==5)) with LD|LD
        ·have amj:=eq_of_beq LD;have hln:=J5 (by first|assumption|omega) (.inl (by assumption));obtain⟨e41,TT⟩:=dr ns uQ;have amk:=(Yr e41 (fW TT));obtain⟨TU,rfl,apm⟩:=T.bF amk;rcases aM ((fS (aA bL eF fU fV dI bl bM)).2.2) with rY|rY
         ·rcases aM ((!(TU==[]))) with Rf|Rf
          ·have aml:=ne_of_beq_false (wI Rf);rcases aM (decide (((TU.length:Nat):Int)<=64)) with iq|iq
           ·have aaY:=of_decide_eq_true iq;rcases aM ((Dj (.str TU))) with HB|HB
            ·rcases aM ((((uQ:Nat):Int)==0)) with zI|zI
             ·have aaZ:=eq_of_beq zI;exact⟨.inl ⟨⟨(max iX ((fS (aA bL eF fU fV dI bl bM)).1)),(IntKind.wrap .i64 (pT+(fS (aA bL eF fU fV dI bl bM)).2.1)),true⟩,trivial⟩,kr ah 220 1 [.loc [0]] [1,2,3,4,7] ([oE oq,oC AQ,oG .i64 iX ((fS (aA bL eF fU fV dI bl bM)).1),oZ]++rq 4 (oB qO) ([oF,oB LD,oE TT,oB rY,oB rY,oB rY]++rq 4 (oB Rf) ([oB iq,oB iq,oC (cO Fk (x:=.str TU) ⟨_,rfl⟩),oB iq,oB HB,oB HB,oB HB]++rq 8 (oB zI) ([oB HB,oB zI,oB HB]))))⟩
             ·have aaZ:=ne_of_beq_false zI;obtain⟨e48,amm⟩:=dr ns (uQ - 1);have amn:=(Yr e48 (fW amm));obtain⟨aqn,rfl,apn⟩:=T.bF amn;exact⟨.inl ⟨⟨(max iX ((fS (aA bL eF fU fV dI bl bM)).1)),(IntKind.wrap .i64 (pT+(fS (aA bL eF fU fV dI bl bM)).2.1)),(jy aqn TU)⟩,trivial⟩,kr ah 220 1 [.loc [0]] [1,2,3,4,7] ([oE oq,oC AQ,oG .i64 iX ((fS (aA bL eF fU fV dI bl bM)).1),oZ]++rq 4 (oB qO) ([oF,oB LD,oE TT,oB rY,oB rY,oB rY]++rq 4 (oB Rf) ([oB iq,oB iq,oC (cO Fk (x:=.str TU) ⟨_,rfl⟩),oB iq,oB HB,oB HB,oB HB]++rq 4 (oB zI) ([oS (uQ) (by omega) (by omega),oB zI,oE amm,oB zI,oB zI,oB zI,oB HB,oB zI,oB HB]))))⟩
            ·exact⟨.inl ⟨⟨(max iX ((fS (aA bL eF fU fV dI bl bM)).1)),(IntKind.wrap .i64 (pT+(fS (aA bL eF fU fV dI bl bM)).2.1)),false⟩,trivial⟩,kr ah 220 1 [.loc [0]] [1,2,3,4,7] ([oE oq,oC AQ,oG .i64 iX ((fS (aA bL eF fU fV dI bl bM)).1),oZ]++rq 4 (oB qO) ([oF,oB LD,oE TT,oB rY,oB rY,oB rY]++rq 4 (oB Rf) ([oB iq,oB iq,oC (cO Fk (x:=.str TU) ⟨_,rfl⟩),oB iq]++rq 5 (oB HB) ([]))))⟩
           ·have aaY:=of_decide_eq_false iq;exact⟨.inl ⟨⟨(max iX ((fS (aA bL eF fU fV dI bl bM)).1)),(IntKind.wrap .i64 (pT+(fS (aA bL eF fU fV dI bl bM)).2.1)),false⟩,trivial⟩,kr ah 220 1 [.loc [0]] [1,2,3,4,7] ([oE oq,oC AQ,oG .i64 iX ((fS (aA bL eF fU fV dI bl bM)).1),oZ]++rq 4 (oB qO) ([oF,oB LD,oE TT,oB rY,oB rY,oB rY]++rq 4 (oB Rf) ([oB iq,oB iq,oB iq]++rq 5 oF ([]))))⟩
          ·have aml:=eq_of_beq (pO Rf);exact⟨.inl ⟨⟨(max iX ((fS (aA bL eF fU fV dI bl bM)).1)),(IntKind.wrap .i64 (pT+(fS (aA bL eF fU fV dI bl bM)).2.1)),false⟩,trivial⟩,kr ah 220 1 [.loc [0]] [1,2,3,4,7] ([oE oq,oC AQ,oG .i64 iX ((fS (aA bL eF fU fV dI bl bM)).1),oZ]++rq 4 (oB qO) ([oF,oB LD,oE TT,oB rY,oB rY,oB rY]++rq 4 (oB Rf) (rq 8 oF ([]))))⟩
         ·exact⟨.inl ⟨⟨(max iX ((fS (aA bL eF fU fV dI bl bM)).1)),(IntKind.wrap .i64 (pT+(fS (aA bL eF fU fV dI bl bM)).2.1)),false⟩,trivial⟩,kr ah 220 1 [.loc [0]] [1,2,3,4,7] ([oE oq,oC AQ,oG .i64 iX ((fS (aA bL eF fU fV dI bl bM)).1),oZ]++rq 4 (oB qO) ([oF,oB LD,oE TT,oB rY,oB rY,oB rY]++rq 12 oF ([])))⟩
        ·have amj:=ne_of_beq_false LD;exact⟨.inl ⟨⟨(max iX ((fS (aA bL eF fU fV dI bl bM)).1)),(IntKind.wrap .i64 (pT+(fS (aA bL eF fU fV dI bl bM)).2.1)),(fS (aA bL eF fU fV dI bl bM)).2.2⟩,trivial⟩,kr ah 220 1 [.loc [0]] [1,2,3,4,7] ([oE oq,oC AQ,oG .i64 iX ((fS (aA bL eF fU fV dI bl bM)).1),oZ]++rq 4 (oB qO) ([oF,oB LD]))⟩
      ·rintro ⟨amo,amq,amr⟩ hok;exact⟨.inl ⟨⟨uQ+1,amo,amq,amr⟩,⟨⟨(by show(uQ+1)<=ks.length;omega),(λh1 _=>J5 h1 (.inl (by assumption)))⟩,(by show(ks.length - (uQ+1))<(ks.length - uQ);omega)⟩⟩,kr ah 220 1 [.loc [0]] [1,2,3,4,7] [oI (uQ) (by omega)]⟩
     ·have aaW:=of_decide_eq_false Hy;refine kx ah (rq 6 (oB xZ) ([oB Hy])) ?_;exact⟨((IntKind.wrap .i64 (iX+1)),(IntKind.wrap .i64 (pT+1)),Vw),kf ah [oZ,oZ]⟩
    ·refine kx ah (rq 6 (oB xZ) ([oF])) ?_;exact⟨((IntKind.wrap .i64 (iX+1)),(IntKind.wrap .i64 (pT+1)),Vw),kf ah [oZ,oZ]⟩
theorem TW (m:Int):∃F:Tree->Int×Int×Bool,∀x,T .av x->R1 (cf m) 42 x (.bU [.int .i64 (F x).1,.int .i64 (F x).2.1,.bool (F x).2.2]):=by
 have key:∀(k:K) (x:Tree),T k x->k=.av->∃r:Int×Int×Bool,R1 (cf m) 42 x (.bU [.int .i64 r.1,.int .i64 r.2.1,.bool r.2.2]):=by
  intro k x h;induction h with
  |av k1 b1 n1 s1 t1 N1 L1 hs ht h0 h1 h2 h3 _ ih=>
   intro _
   obtain⟨fS,hS⟩:=bJ (α:=Tree) (P:=λy=>y∈L1) (Q:=λy (r:Int×Int×Bool)=>R1 (cf m) 42 y (.bU [.int .i64 r.1,.int .i64 r.2.1,.bool r.2.2])) λy hy=>ih y hy rfl
   exact aaT m k1 b1 n1 s1 t1 hs ht N1 L1 h0 h1 h2 h3 fS hS
  |_=>exactλe=>(by cases e)
 exact Bb (λr:Int×Int×Bool=>.bU [.int .i64 r.1,.int .i64 r.2.1,.bool r.2.2]) λx h=>key _ x h rfl
theorem VB (m:Int):∃F:Tree->Int,∀x,(T .av x)->R1 (cf m) 23 x (.int .i64 (F x))/\(True):=by
 refine BI (P:=λx=>T .av x) (mk:=λ(r:Int)=>.int .i64 r) (Post:=λx r=>True) λx hx=> ?_
 show ∃r:{r:Int // True},ai (cf m) 23 [.t x] [] (.ret (.t (.int .i64 r.1)) [] []);have bw:=hx;obtain⟨cN,jX,n_1,s_1,dH,aU,dm,rfl,cL,cF,fQ,dX,fk,eR⟩:=T.aB bw;obtain⟨Mw,ams⟩:=TW m;obtain⟨ev,aK,amt⟩:∃ev,aD (cf m) ev/\Has ev 42 (mY (λx=>T .av x) (λx=>.bU [.int .i64 (Mw x).1,.int .i64 (Mw x).2.1,.bool (Mw x).2.2])):=⟨_,(aq (bT (λx h=>(ams x h))) aF),au⟩;refine AX.start 21 1 Tryz.func23 rfl (by decide) rfl rfl (by decide) ?_;refine AX.frames ?_;have aeX:=cO amt (x:=(aA cN jX n_1 s_1 dH aU dm)) bw;rcases aM ((!(Mw (aA cN jX n_1 s_1 dH aU dm)).2.2)) with cq|cq
 ·refine⟨⟨7, ?_⟩,kf ah [oC aeX,oB cq]⟩;trivial
 ·rcases aM (decide ((Mw (aA cN jX n_1 s_1 dH aU dm)).1>8)) with bK|bK
  ·have mH:=of_decide_eq_true bK;refine⟨⟨4, ?_⟩,kf ah [oC aeX,oB cq,oB bK]⟩;trivial
  ·have mH:=of_decide_eq_false bK;rcases aM (decide ((Mw (aA cN jX n_1 s_1 dH aU dm)).2.1>128)) with gP|gP
   ·have tT:=of_decide_eq_true gP;refine⟨⟨2, ?_⟩,kf ah [oC aeX,oB cq,oB bK,oB gP]⟩;trivial
   ·have tT:=of_decide_eq_false gP;refine⟨⟨0, ?_⟩,kf ah [oC aeX,oB cq,oB bK,oB gP]⟩;trivial
theorem VC (m:Int):∃F:Tree->Int,∀x,(T .bQ x)->R1 (cf m) 9 x (.int .i64 (F x))/\(True):=by
 refine BI (P:=λx=>T .bQ x) (mk:=λ(r:Int)=>.int .i64 r) (Post:=λx r=>True) λx hx=> ?_
 show ∃r:{r:Int // True},ai (cf m) 9 [.t x] [] (.ret (.t (.int .i64 r.1)) [] []);have bw:=hx;obtain⟨wS,zJ,Bc,GJ,yB,Bd,jE,od,oe,og,oh,jS,kH,rfl,cL,cF,fQ,dX,fk,eR,jq,BZ,Om,vU,apo,On⟩:=T.mG bw;obtain⟨zG,Ol⟩:=Di m;obtain⟨TX,ai1⟩:=VB m;obtain⟨ev,aK,Fp,TY⟩:∃ev,aD (cf m) ev/\Has ev 22 (mY (λx=>T .aI x) (λx=>.int .i64 (zG x)))/\Has ev 23 (mY (λx=>T .av x) (λx=>.int .i64 (TX x))):=⟨_,(aq (bT (λx h=>(Ol x h).1)) (aq (bT (λx h=>(ai1 x h).1)) aF)),au,(az rfl au)⟩;refine AX.start 35 1 Tryz.func9 rfl (by decide) rfl rfl (by decide) ?_;refine AX.frames ?_;refine kl (α:=Nat×List Tree) ah 0 [] 35 1 [.loc [0]] [.loc [0]] [1,13,14,15] (λx=>⟨eD 35 [(1,.ptr (.loc [0]) 0),(13,.qd x.2),(14,.t (.int .i64 ((x.2.length:Nat):Int))),(15,.t (.int .i64 ((x.1:Nat):Int)))],[(.loc [0],.cells 34 (Ba wS zJ Bc GJ yB Bd jE od oe og oh jS kH))],1⟩) (λx=>(x.1<=x.2.length)/\(x.2.length<=4194304/\∀y∈x.2,T .aI y)) (λx=>x.2.length - x.1) (⟨0,([.agg [.str wS,.str zJ],.agg [.str Bc,.str GJ],.agg [.str yB,.str Bd]]:List Tree)⟩) (j6 (Tryz.f9.body.getD .skip) 2) [] ⟨Nat.zero_le _,⟨cc,(bD (.aI _ _ cc cc) (bD (.aI _ _ cc cc) (bD (.aI _ _ cc cc) (λ_ h=>absurd h (by simp)))))⟩⟩ (λx hok=> ?_);obtain⟨i_2,x5⟩:=x;replace hok:(i_2<=x5.length)/\(x5.length<=4194304/\∀y∈x5,T .aI y):=hok;obtain⟨Ia,Oo⟩:=hok;rcases aM (decide (((i_2:Nat):Int)<((x5.length:Nat):Int))) with bK|bK
 ·have mH:=of_decide_eq_true bK;obtain⟨e4,uP⟩:=dr x5 i_2;have qh:=(Oo.2 e4 (fW uP));obtain⟨B0,J8,rfl,xY,B1⟩:=T.cr qh;have amu:=cO Fp (x:=.agg [.str B0,.str J8]) qh;rcases aM (((zG (.agg [.str B0,.str J8])) != 0)) with lT|lT
  ·have zC:=dM lT;refine kx ah [oB bK,oE uP,oC amu,oB lT] ?_;refine⟨⟨(zG (.agg [.str B0,.str J8])), ?_⟩,kf ah []⟩;trivial
  ·have zC:=cC lT;exact⟨.inl ⟨⟨i_2+1,x5⟩,⟨⟨(by show(i_2+1)<=x5.length;omega),Oo⟩,(by show(x5.length - (i_2+1))<(x5.length - i_2);omega)⟩⟩,kr ah 35 1 [.loc [0]] [1,13,14,15] [oB bK,oE uP,oC amu,oB lT,oI (i_2) (by omega)]⟩
 ·have mH:=of_decide_eq_false bK;refine kx ah [oB bK] ?_;rcases aM (((TX (aA jE od oe og oh jS kH)) != 0)) with gi|gi
  ·have mR:=dM gi;refine⟨⟨(TX (aA jE od oe og oh jS kH)), ?_⟩,kf ah [oC (cO TY (x:=(aA jE od oe og oh jS kH)) (.av _ _ _ _ _ _ _ cc cc cc vU cc On)),oB gi]⟩;trivial
  ·have mR:=cC gi;rcases aM ((jE != 5)) with js|js
   ·have BV:=dM js;refine⟨⟨7, ?_⟩,kf ah [oC (cO TY (x:=(aA jE od oe og oh jS kH)) (.av _ _ _ _ _ _ _ cc cc cc vU cc On)),oB gi,oB js]⟩;trivial
   ·have BV:=cC js;refine⟨⟨0, ?_⟩,kf ah [oC (cO TY (x:=(aA jE od oe og oh jS kH)) (.av _ _ _ _ _ _ _ cc cc cc vU cc On)),oB gi,oB js]⟩;trivial
end
end Go.Proofs.YtfdnciimclnncaaGreatDoor.w.e
