/- Values of their own memory. -/
import Derived.Test.YtfdnciimclnncaaGreatDoorAA
import Derived.Test.YtfdnciimclnncaaGreatDoorZ
set_option linter.unusedVariables false
set_option linter.unusedSimpArgs false
namespace Go.Proofs.YtfdnciimclnncaaGreatDoor.w.e
open Go Go.Abs
set_option maxRecDepth 100000
set_option maxHeartbeats 2000000
noncomputable section
theorem ahN {m:Int}:Mf (cf m).P 30 32 ans:=⟨⟨_,Kz,rfl⟩,ajM,_,rfl,by decide,rfl,by decide⟩
theorem Gl {m:Int}:pQ (cf m).P 32 5=some 5:=by kernel_rfl
theorem Gm {m:Int}:pQ (cf m).P 32 6=some 6:=by kernel_rfl
theorem ki {l:List Tree}(h:∀y∈l,T .string y):eV false 1 l:=λy hy=>by
 obtain⟨v,rfl,_⟩:=T.bE (h y hy);exact⟨rfl,rfl,rfl⟩
theorem aG {l:List Tree}(h:∀y∈l,T .av y):eV true 7 l:=λy hy=>by
 obtain⟨kind,b_,n,s,t_,names,list,rfl,_,_,_,_,_,_⟩:=T.aD (h y hy);exact⟨rfl,rfl,rfl⟩
theorem afz {m:Int}{ev:bp}(aI:aC (cf m) ev):ai (cf m) 49 [.t (.sl [])] [] (.ret (.t (.sl [])) [] []):=by
 refine qJ 8 1 Tryz.func49 rfl (by decide) rfl rfl (by decide) ?_;refine AW.seq ?_;refine AW.region ?_;refine iP.go (f:=0) aI (by first|exact iL rfl|exact aJ rfl) ?_;refine iP.nil ?_;refine AW.seq ?_;refine AW.seq ?_;refine AW.region ?_;refine iP.go (f:=0) aI (by first|exact nF rfl|exact aH rfl) ?_;refine iP.Xe rfl rfl qq rfl (λb hb=> ?_);refine iP.nil ?_;refine AW.cond rfl (λh4=> ?_) (λh4=> ?_)
 ·refine AW.seq ?_;refine AW.region ?_;refine iP.go (f:=0) aI (by first|exact iL rfl|exact aJ rfl) ?_;refine iP.nil ?_;refine AW.ret ?_;exact .inl rfl
 ·refine AW.skip ?_;refine AW.seq ?_;refine AW.region ?_;refine iP.go (f:=0) aI (Fx rfl qq rfl q3 rfl rfl) ?_;refine iP.go (f:=0) aI (by first|exact nF rfl|exact aH rfl) ?_;refine iP.go (f:=0) aI (Tg Vm rfl rfl (.inl (.inl rfl)) (.inr (.inr ⟨_,rfl⟩))) ?_;refine iP.go (f:=0) aI (by first|exact iL rfl|exact aJ rfl) ?_;refine iP.nil ?_;refine AW.ret ?_;exact .inl rfl
theorem afA {m:Int}{ev:bp}(aI:aC (cf m) ev)(es:List Tree)(hne:es≠ [])(hu:eV false 1 es)(hl:es.length<=4194304):
 ai (cf m) 49 [.t (.sl es)] [] (.ret (.ref (.loc [5]) 0 es.length) [] [(.loc [5],.arr (9,false) 1 false ((flat es).map .t))]):=by
 refine qJ 8 1 Tryz.func49 rfl (by decide) rfl rfl (by decide) ?_
 refine AW.seq ?_
 refine AW.region ?_
 refine iP.go (f:=0) aI (by first|exact iL rfl|exact aJ rfl) ?_
 refine iP.nil ?_
 refine AW.seq ?_
 refine AW.seq ?_
 refine AW.region ?_
 refine iP.go (f:=0) aI (by first|exact nF rfl|exact aH rfl) ?_
 refine iP.Xe rfl rfl qq rfl (λb hb=> ?_)
 have hb:=hb hne
 subst hb
 refine iP.nil ?_
 refine AW.cond rfl (λh=>absurd h (by decide)) (λh=> ?_)
 refine AW.skip ?_
 refine AW.seq ?_
 refine AW.region ?_
 refine iP.go (f:=0) aI (Fx rfl qq rfl q3 rfl rfl) ?_
 refine iP.go (f:=0) aI (by first|exact nF rfl|exact aH rfl) ?_
 refine iP.go (f:=0) aI (Tf Vm rfl rfl (.inl rfl) hu hne (by show es.length*16<=70368744177664;omega)) ?_
 refine iP.go (f:=0) aI (by first|exact iL rfl|exact aJ rfl) ?_
 refine iP.nil ?_
 refine AW.ret ?_
 exact .inr (NG rfl rfl rfl)
def vr:List TV->List aP->Option br:=λas' os=>match as',os with
 | [.t (.sl [])],[]=>some (.ret (.t (.sl [])) [] [])
 | [.t (.sl (e::es))],[]=> @ite _ (eV false 1 (e::es)/\(e::es).length<=4194304) (Classical.propDecidable _) (some (.ret (.ref (.loc [5]) 0 (e::es).length) [] [(.loc [5],.arr (9,false) 1 false ((flat (e::es)).map .t))])) none
 |_,_=>none
theorem yy (m:Int):ko (cf m) 49 vr:=λargs bq r h=>by
 unfold vr at h;split at h
 ·cases h;exact afz aF
 ·split at h
  ·rename_i hc;cases h;exact afA aF _ (by simp) hc.1 hc.2
  ·cases h
 ·cases h
theorem KC {ev:bp}(h:Has ev 49 vr){es:List Tree}(hne:es≠ [])(hu:eV false 1 es)(hl:es.length<=4194304):ev 49 [.t (.sl es)] []=some (.ret (.ref (.loc [5]) 0 es.length) [] [(.loc [5],.arr (9,false) 1 false ((flat es).map .t))]):=by
 cases es with
 |nil=>exact absurd rfl hne
 |cons e es=>exact h _ _ _ (by unfold vr;exact if_pos ⟨hu,hl⟩)
theorem abX {m:Int}{ev:bp}(aI:aC (cf m) ev):ai (cf m) 50 [.t (.sl [])] [] (.ret (.t (.sl [])) [] []):=by
 refine qJ 8 1 Tryz.func50 rfl (by decide) rfl rfl (by decide) ?_;refine AW.seq ?_;refine AW.region ?_;refine iP.go (f:=0) aI (by first|exact iL rfl|exact aJ rfl) ?_;refine iP.nil ?_;refine AW.seq ?_;refine AW.seq ?_;refine AW.region ?_;refine iP.go (f:=0) aI (by first|exact nF rfl|exact aH rfl) ?_;refine iP.Xe rfl rfl Kz rfl (λb hb=> ?_);refine iP.nil ?_;refine AW.cond rfl (λh4=> ?_) (λh4=> ?_)
 ·refine AW.seq ?_;refine AW.region ?_;refine iP.go (f:=0) aI (by first|exact iL rfl|exact aJ rfl) ?_;refine iP.nil ?_;refine AW.ret ?_;exact .inl rfl
 ·refine AW.skip ?_;refine AW.seq ?_;refine AW.region ?_;refine iP.go (f:=0) aI (Fx rfl Kz rfl ajM rfl rfl) ?_;refine iP.go (f:=0) aI (by first|exact nF rfl|exact aH rfl) ?_;refine iP.go (f:=0) aI (Tg ahN rfl rfl (.inl (.inl rfl)) (.inr (.inr ⟨_,rfl⟩))) ?_;refine iP.go (f:=0) aI (by first|exact iL rfl|exact aJ rfl) ?_;refine iP.nil ?_;refine AW.ret ?_;exact .inl rfl
theorem abY {m:Int}{ev:bp}(aI:aC (cf m) ev)(es:List Tree)(hne:es≠ [])(hu:eV true 7 es)(hl:es.length<=4194304):
 ai (cf m) 50 [.t (.sl es)] [] (.ret (.ref (.loc [5]) 0 es.length) [] [(.loc [5],.arr (32,true) 7 false ((flat es).map .t))]):=by
 refine qJ 8 1 Tryz.func50 rfl (by decide) rfl rfl (by decide) ?_
 refine AW.seq ?_
 refine AW.region ?_
 refine iP.go (f:=0) aI (by first|exact iL rfl|exact aJ rfl) ?_
 refine iP.nil ?_
 refine AW.seq ?_
 refine AW.seq ?_
 refine AW.region ?_
 refine iP.go (f:=0) aI (by first|exact nF rfl|exact aH rfl) ?_
 refine iP.Xe rfl rfl Kz rfl (λb hb=> ?_)
 have hb:=hb hne
 subst hb
 refine iP.nil ?_
 refine AW.cond rfl (λh=>absurd h (by decide)) (λh=> ?_)
 refine AW.skip ?_
 refine AW.seq ?_
 refine AW.region ?_
 refine iP.go (f:=0) aI (Fx rfl Kz rfl ajM rfl rfl) ?_
 refine iP.go (f:=0) aI (by first|exact nF rfl|exact aH rfl) ?_
 refine iP.go (f:=0) aI (Tf ahN rfl rfl (.inl rfl) hu hne (by show es.length*96<=70368744177664;omega)) ?_
 refine iP.go (f:=0) aI (by first|exact iL rfl|exact aJ rfl) ?_
 refine iP.nil ?_
 refine AW.ret ?_
 exact .inr (NG rfl rfl rfl)
def nB:List TV->List aP->Option br:=λas' os=>match as',os with
 | [.t (.sl [])],[]=>some (.ret (.t (.sl [])) [] [])
 | [.t (.sl (e::es))],[]=> @ite _ (eV true 7 (e::es)/\(e::es).length<=4194304) (Classical.propDecidable _) (some (.ret (.ref (.loc [5]) 0 (e::es).length) [] [(.loc [5],.arr (32,true) 7 false ((flat (e::es)).map .t))])) none
 |_,_=>none
theorem o4 (m:Int):ko (cf m) 50 nB:=λargs bq r h=>by
 unfold nB at h;split at h
 ·cases h;exact abX aF
 ·split at h
  ·rename_i hc;cases h;exact abY aF _ (by simp) hc.1 hc.2
  ·cases h
 ·cases h
theorem Ad {ev:bp}(h:Has ev 50 nB){es:List Tree}(hne:es≠ [])(hu:eV true 7 es)(hl:es.length<=4194304):ev 50 [.t (.sl es)] []=some (.ret (.ref (.loc [5]) 0 es.length) [] [(.loc [5],.arr (32,true) 7 false ((flat es).map .t))]):=by
 cases es with
 |nil=>exact absurd rfl hne
 |cons e es=>exact h _ _ _ (by unfold nB;exact if_pos ⟨hu,hl⟩)
theorem afB (m:Int)(k:Int)(b:Bool)(n:Int)(s t:List UInt8)(hO:∀x,x∈([]:List Tree)->R1 (cf m) 26 x x):R1 (cf m) 26 (aA k b n s t [] []) (aA k b n s t [] []):=by
 obtain⟨ev,aI,uv,kQ⟩:∃ev,aC (cf m) ev/\Has ev 49 vr/\Has ev 50 nB:=⟨_,(aq (yy m) (aq (o4 m) aF)),au,(az rfl au)⟩;refine ai.iE ?_;refine AX.start 30 1 Tryz.func26 rfl (by decide) rfl rfl (by decide) ?_;refine AX.frames ?_;exact⟨(),q4 ah 0 [3] [wj 49 [.t (.sl [])] (.sl []) (uv _ _ _ rfl),wj 50 [.t (.sl [])] (.sl []) (kQ _ _ _ rfl),oF]⟩
theorem afC (m:Int)(k:Int)(b:Bool)(n:Int)(s t:List UInt8)(ls:List Tree)(abZ:ls≠ [])(ll:ls.length<=4194304)(hl:∀y∈ls,T .av y)(hO:∀x,x∈ls->R1 (cf m) 26 x x):R1 (cf m) 26 (aA k b n s t [] ls) (aA k b n s t [] ls):=by
 obtain⟨ev,aI,uv,kQ,Ho⟩:∃ev,aC (cf m) ev/\Has ev 49 vr/\Has ev 50 nB/\Has ev 26 (mW (λx=>x∈ls) (λx=>x)):=⟨_,(aq (yy m) (aq (o4 m) (aq (bU hO) aF))),au,(az rfl au),(az rfl (az rfl au))⟩;refine ai.iE ?_;refine AX.start 30 1 Tryz.func26 rfl (by decide) rfl rfl (by decide) ?_;refine AX.frames ?_;refine kAt (f:=0) (n:=3000) (once:=[]) (k:=30) (T:=2) (S:=[.loc [0],.loc [1]]) (ks:=[.loc [0],.loc [1]]) (live:=[1,2]) ah aI (Tryz.f26.body.getD .skip) 1 rfl (⟨eA 30 [(1,.ptr (.loc [0]) 0),(2,.ptr (.loc [1]) 0)],[(.loc [0],.cells 32 (cF k b n s t [] ls)),(.loc [1],.cells 32 [.t (.int .u8 0),.t (.bool false),.t (.int .i64 0),.t (.str []),.t (.str []),.bX,.bX])],2⟩) [] (by kernel_rfl) ?_;refine AX.draw (f:=0) ah aI ?_;refine aU.go rfl (eB rfl Gl rfl) ?_;refine aU.go rfl (mV rfl (ld qq rfl rfl)) ?_;refine aU.go rfl (iC (Ls rfl) (uv _ _ _ rfl)) ?_;refine aU.go rfl (eB rfl Gm rfl) ?_;refine aU.go rfl (mV rfl (ld Kz rfl rfl)) ?_;refine aU.go rfl (Db (Ls rfl) (Ad kQ abZ (aG hl) (by assumption)) rfl zA) ?_;refine aU.go rfl (eB rfl Gl rfl) ?_;refine aU.SA rfl (pP rfl rfl (Zn qq rfl rfl)) ?_;refine aU.go rfl (eB rfl Gm rfl) ?_;refine aU.SA rfl (pP rfl rfl (Zn Kz rfl rfl)) ?_;refine aU.nil (gQ rfl rfl ?_);refine kl (α:=Nat) ah 0 [] 30 3 [.loc [0],.loc [1],.loc [7,5]] [.loc [0],.loc [1],.loc [7,5]] [1,2,14,15] (λx=>⟨eA 30 [(1,.ptr (.loc [0]) 0),(2,.ptr (.loc [1]) 0),(14,.t (.int .i64 ((ls.length:Nat):Int))),(15,.t (.int .i64 ((x:Nat):Int)))],[(.loc [0],.cells 32 [.t (.int .u8 k),.t (.bool b),.t (.int .i64 n),.t (.str s),.t (.str t),.t (.sl []),.ref (.loc [2]) 0 ls.length]),(.loc [1],.cells 32 [.t (.int .u8 0),.t (.bool false),.t (.int .i64 0),.t (.str []),.t (.str []),.bX,.bX]),(.loc [2],.arr (32,true) 7 false ((flat ls).map .t))],3⟩) (λx=>(x<=ls.length)) (λx=>ls.length - x) 0 (j6 (Tryz.f26.body.getD .skip) 3) [cU 32 7 ls] (by show(0<=ls.length);first|trivial|omega|(refine⟨?_, ?_⟩<;>first|omega|exact SM.nil)|simp) (λx hok=> ?_);obtain⟨i_1,zN⟩:∃y,y=x:=⟨x,rfl⟩;subst zN;replace hok:(i_1<=ls.length):=hok;have cI:=hok;rcases aK (decide (((i_1:Nat):Int)<((ls.length:Nat):Int))) with cm|cm
 ·have jP:=of_decide_eq_true cm;obtain⟨e3,kR⟩:=dn ls i_1;have mY:=(hl e3 (fT kR));obtain⟨nX,B4,yM,yN,B5,kE,mZ,rfl,r8,tQ,B6,zP,B7,B8⟩:=T.aD mY;exact⟨.inl ⟨i_1+1,⟨(by show(i_1+1)<=ls.length;omega),(by show(ls.length - (i_1+1))<(ls.length - i_1);omega)⟩⟩,kr ah 30 3 [.loc [0],.loc [1],.loc [2]] [1,2,14,15] [oB cm,oW true 7 ls (aG hl),oH kR,oQ ls,oO (kI (m:=7) (i:=i_1) (j:=0) (eV.lens (aG hl)) kR (by decide)),oC (cE Ho (x:=(aA nX B4 yM yN B5 kE mZ)) (fT kR)),oW true 7 ls (aG hl),oH kR,oQ ls,oR _ _ (zI (j:=0) (m:=7) (eV.lens (aG hl)) kR (by decide)),oK (Ie (j:=0) (m:=7) (eV.lens (aG hl)) kR (by decide)),oI (i_1) (by omega),cU 32 7 ls]⟩
 ·have jP:=of_decide_eq_false cm;refine kx ah [oB cm] ?_;exact⟨(),kf ah [oW true 7 ls (aG hl)]⟩
theorem afD (m:Int)(k:Int)(b:Bool)(n:Int)(s t:List UInt8)(ns:List Tree)(ajR:ns≠ [])(ln:ns.length<=4194304)(hn:∀y∈ns,T .string y)(hO:∀x,x∈([]:List Tree)->R1 (cf m) 26 x x):R1 (cf m) 26 (aA k b n s t ns []) (aA k b n s t ns []):=by
 obtain⟨ev,aI,uv,kQ⟩:∃ev,aC (cf m) ev/\Has ev 49 vr/\Has ev 50 nB:=⟨_,(aq (yy m) (aq (o4 m) aF)),au,(az rfl au)⟩;refine ai.iE ?_;refine AX.start 30 1 Tryz.func26 rfl (by decide) rfl rfl (by decide) ?_;refine AX.frames ?_;refine kAt (f:=0) (n:=3000) (once:=[]) (k:=30) (T:=2) (S:=[.loc [0],.loc [1]]) (ks:=[.loc [0],.loc [1]]) (live:=[1,2]) ah aI (Tryz.f26.body.getD .skip) 1 rfl (⟨eA 30 [(1,.ptr (.loc [0]) 0),(2,.ptr (.loc [1]) 0)],[(.loc [0],.cells 32 (cF k b n s t ns [])),(.loc [1],.cells 32 [.t (.int .u8 0),.t (.bool false),.t (.int .i64 0),.t (.str []),.t (.str []),.bX,.bX])],2⟩) [] (by kernel_rfl) ?_;refine AX.draw (f:=0) ah aI ?_;refine aU.go rfl (eB rfl Gl rfl) ?_;refine aU.go rfl (mV rfl (ld qq rfl rfl)) ?_;refine aU.go rfl (Db (Ls rfl) (KC uv ajR (ki hn) (by assumption)) rfl zA) ?_;refine aU.go rfl (eB rfl Gm rfl) ?_;refine aU.go rfl (mV rfl (ld Kz rfl rfl)) ?_;refine aU.go rfl (iC (Ls rfl) (kQ _ _ _ rfl)) ?_;refine aU.go rfl (eB rfl Gl rfl) ?_;refine aU.SA rfl (pP rfl rfl (Zn qq rfl rfl)) ?_;refine aU.go rfl (eB rfl Gm rfl) ?_;refine aU.SA rfl (pP rfl rfl (Zn Kz rfl rfl)) ?_;refine aU.nil (gQ rfl rfl ?_);exact⟨(),q4 ah 0 [3] [oF,oW false 1 ns (ki hn)]⟩
theorem afE (m:Int)(k:Int)(b:Bool)(n:Int)(s t:List UInt8)(ns:List Tree)(ajR:ns≠ [])(ln:ns.length<=4194304)(hn:∀y∈ns,T .string y)(ls:List Tree)(abZ:ls≠ [])(ll:ls.length<=4194304)(hl:∀y∈ls,T .av y)(hO:∀x,x∈ls->R1 (cf m) 26 x x):R1 (cf m) 26 (aA k b n s t ns ls) (aA k b n s t ns ls):=by
 obtain⟨ev,aI,uv,kQ,Ho⟩:∃ev,aC (cf m) ev/\Has ev 49 vr/\Has ev 50 nB/\Has ev 26 (mW (λx=>x∈ls) (λx=>x)):=⟨_,(aq (yy m) (aq (o4 m) (aq (bU hO) aF))),au,(az rfl au),(az rfl (az rfl au))⟩;refine ai.iE ?_;refine AX.start 30 1 Tryz.func26 rfl (by decide) rfl rfl (by decide) ?_;refine AX.frames ?_;refine kAt (f:=0) (n:=3000) (once:=[]) (k:=30) (T:=2) (S:=[.loc [0],.loc [1]]) (ks:=[.loc [0],.loc [1]]) (live:=[1,2]) ah aI (Tryz.f26.body.getD .skip) 1 rfl (⟨eA 30 [(1,.ptr (.loc [0]) 0),(2,.ptr (.loc [1]) 0)],[(.loc [0],.cells 32 (cF k b n s t ns ls)),(.loc [1],.cells 32 [.t (.int .u8 0),.t (.bool false),.t (.int .i64 0),.t (.str []),.t (.str []),.bX,.bX])],2⟩) [] (by kernel_rfl) ?_;refine AX.draw (f:=0) ah aI ?_;refine aU.go rfl (eB rfl Gl rfl) ?_;refine aU.go rfl (mV rfl (ld qq rfl rfl)) ?_;refine aU.go rfl (Db (Ls rfl) (KC uv ajR (ki hn) (by assumption)) rfl zA) ?_;refine aU.go rfl (eB rfl Gm rfl) ?_;refine aU.go rfl (mV rfl (ld Kz rfl rfl)) ?_;refine aU.go rfl (Db (Ls rfl) (Ad kQ abZ (aG hl) (by assumption)) rfl zA) ?_;refine aU.go rfl (eB rfl Gl rfl) ?_;refine aU.SA rfl (pP rfl rfl (Zn qq rfl rfl)) ?_;refine aU.go rfl (eB rfl Gm rfl) ?_;refine aU.SA rfl (pP rfl rfl (Zn Kz rfl rfl)) ?_;refine aU.nil (gQ rfl rfl ?_);refine kl (α:=Nat) ah 0 [] 30 4 [.loc [0],.loc [1],.loc [4,5],.loc [7,5]] [.loc [0],.loc [1],.loc [4,5],.loc [7,5]] [1,2,14,15] (λx=>⟨eA 30 [(1,.ptr (.loc [0]) 0),(2,.ptr (.loc [1]) 0),(14,.t (.int .i64 ((ls.length:Nat):Int))),(15,.t (.int .i64 ((x:Nat):Int)))],[(.loc [0],.cells 32 [.t (.int .u8 k),.t (.bool b),.t (.int .i64 n),.t (.str s),.t (.str t),.ref (.loc [2]) 0 ns.length,.ref (.loc [3]) 0 ls.length]),(.loc [1],.cells 32 [.t (.int .u8 0),.t (.bool false),.t (.int .i64 0),.t (.str []),.t (.str []),.bX,.bX]),(.loc [2],.arr (9,false) 1 false ((flat ns).map .t)),(.loc [3],.arr (32,true) 7 false ((flat ls).map .t))],4⟩) (λx=>(x<=ls.length)) (λx=>ls.length - x) 0 (j6 (Tryz.f26.body.getD .skip) 3) [oN (o:=.arr (9,false) 1 false ((flat ns).map .t)) (λ_=>k7),cU 32 7 ls] (by show(0<=ls.length);first|trivial|omega|(refine⟨?_, ?_⟩<;>first|omega|exact SM.nil)|simp) (λx hok=> ?_);obtain⟨i_1,zN⟩:∃y,y=x:=⟨x,rfl⟩;subst zN;replace hok:(i_1<=ls.length):=hok;have cI:=hok;rcases aK (decide (((i_1:Nat):Int)<((ls.length:Nat):Int))) with cm|cm
 ·have jP:=of_decide_eq_true cm;obtain⟨e3,kR⟩:=dn ls i_1;have mY:=(hl e3 (fT kR));obtain⟨nX,B4,yM,yN,B5,kE,mZ,rfl,r8,tQ,B6,zP,B7,B8⟩:=T.aD mY;exact⟨.inl ⟨i_1+1,⟨(by show(i_1+1)<=ls.length;omega),(by show(ls.length - (i_1+1))<(ls.length - i_1);omega)⟩⟩,kr ah 30 4 [.loc [0],.loc [1],.loc [2],.loc [3]] [1,2,14,15] [oB cm,oW true 7 ls (aG hl),oH kR,oQ ls,oO (kI (m:=7) (i:=i_1) (j:=0) (eV.lens (aG hl)) kR (by decide)),oC (cE Ho (x:=(aA nX B4 yM yN B5 kE mZ)) (fT kR)),oW true 7 ls (aG hl),oH kR,oQ ls,oR _ _ (zI (j:=0) (m:=7) (eV.lens (aG hl)) kR (by decide)),oK (Ie (j:=0) (m:=7) (eV.lens (aG hl)) kR (by decide)),oI (i_1) (by omega),oN (o:=.arr (9,false) 1 false ((flat ns).map .t)) (λ_=>k7),cU 32 7 ls]⟩
 ·have jP:=of_decide_eq_false cm;refine kx ah [oB cm] ?_;exact⟨(),kf ah [oW false 1 ns (ki hn),oW true 7 ls (aG hl)]⟩
theorem V1 (m:Int):∀x,T .av x->R1 (cf m) 26 x x:=by
 have key:∀(k:K) (x:Tree),T k x->k=.av->R1 (cf m) 26 x x:=by
  intro k x h;induction h with
  |av k1 b1 n1 s1 t1 N1 L1 hs ht h0 h1 h2 h3 _ ih=>
   intro _
   have hO:∀x,x∈L1->R1 (cf m) 26 x x:=λx hx=>ih x hx rfl
   rcases N1 with _|⟨a,N⟩<;>rcases L1 with _|⟨c,L⟩
   · exact afB m k1 b1 n1 s1 t1 hO
   · exact afC m k1 b1 n1 s1 t1 _ (by simp) h2 h3 hO
   · exact afD m k1 b1 n1 s1 t1 _ (by simp) h0 h1 hO
   · exact afE m k1 b1 n1 s1 t1 _ (by simp) h0 h1 _ (by simp) h2 h3 hO
  |_=>exactλe=>(by cases e)
 exactλx h=>key _ x h rfl
theorem afF {m:Int}{ev:bp}(aI:aC (cf m) ev):ai (cf m) 49 [.t (.sl [])] [] (.ret (.t (.sl [])) [] []):=by
 refine qJ 8 1 Tryz.func49 rfl (by decide) rfl rfl (by decide) ?_;refine AW.seq ?_;refine AW.region ?_;refine iP.go (f:=0) aI (by first|exact iL rfl|exact aJ rfl) ?_;refine iP.nil ?_;refine AW.seq ?_;refine AW.seq ?_;refine AW.region ?_;refine iP.go (f:=0) aI (by first|exact nF rfl|exact aH rfl) ?_;refine iP.Xe rfl rfl qq rfl (λb hb=> ?_);refine iP.nil ?_;refine AW.cond rfl (λh4=> ?_) (λh4=> ?_)
 ·refine AW.seq ?_;refine AW.region ?_;refine iP.go (f:=0) aI (by first|exact iL rfl|exact aJ rfl) ?_;refine iP.nil ?_;refine AW.ret ?_;exact .inl rfl
 ·refine AW.skip ?_;refine AW.seq ?_;refine AW.region ?_;refine iP.go (f:=0) aI (Fx rfl qq rfl q3 rfl rfl) ?_;refine iP.go (f:=0) aI (by first|exact nF rfl|exact aH rfl) ?_;refine iP.go (f:=0) aI (Tg Vm rfl rfl (.inl (.inl rfl)) (.inr (.inr ⟨_,rfl⟩))) ?_;refine iP.go (f:=0) aI (by first|exact iL rfl|exact aJ rfl) ?_;refine iP.nil ?_;refine AW.ret ?_;exact .inl rfl
theorem afG {m:Int}{ev:bp}(aI:aC (cf m) ev)(es:List Tree)(hne:es≠ [])(hu:eV false 1 es)(hl:es.length<=4194304):
 ai (cf m) 49 [.t (.sl es)] [] (.ret (.t (.sl es)) [] []):=by
 refine qJ 8 1 Tryz.func49 rfl (by decide) rfl rfl (by decide) ?_
 refine AW.seq ?_
 refine AW.region ?_
 refine iP.go (f:=0) aI (by first|exact iL rfl|exact aJ rfl) ?_
 refine iP.nil ?_
 refine AW.seq ?_
 refine AW.seq ?_
 refine AW.region ?_
 refine iP.go (f:=0) aI (by first|exact nF rfl|exact aH rfl) ?_
 refine iP.Xe rfl rfl qq rfl (λb hb=> ?_)
 have hb:=hb hne
 subst hb
 refine iP.nil ?_
 refine AW.cond rfl (λh=>absurd h (by decide)) (λh=> ?_)
 refine AW.skip ?_
 refine AW.seq ?_
 refine AW.region ?_
 refine iP.go (f:=0) aI (Fx rfl qq rfl q3 rfl rfl) ?_
 refine iP.go (f:=0) aI (by first|exact nF rfl|exact aH rfl) ?_
 refine iP.go (f:=0) aI (Tf Vm rfl rfl (.inl rfl) hu hne (by show es.length*16<=70368744177664;omega)) ?_
 refine iP.go (f:=0) aI (by first|exact iL rfl|exact aJ rfl) ?_
 refine iP.nil ?_
 refine AW.ret ?_
 exact .inl (Zt rfl (Qb rfl hu (by decide) rfl rfl))
theorem ajS (m:Int):∀x,T .cv x->R1 (cf m) 49 x x:=λx hx=>by
 obtain⟨l,rfl,hl,h2⟩:=T.mG hx;by_cases h:l=[]
 ·subst h;exact afF aF
 ·exact afG aF l h (ki h2) hl
theorem ab0 (m:Int)(hO:∀x,x∈([]:List Tree)->R1 (cf m) 189 (.sl (lsV x)) (.sl (lsV x))):R1 (cf m) 189 (.sl []) (.sl []):=by
 obtain⟨ev,aI,kQ⟩:∃ev,aC (cf m) ev/\Has ev 50 nB:=⟨_,(aq (o4 m) aF),au⟩;refine ai.iE ?_;refine AX.start 33 1 Tryz.func189 rfl (by decide) rfl rfl (by decide) ?_;refine AX.frames ?_;exact⟨(),q4 ah 64 [3] [wj 50 [.t (.sl [])] (.sl []) (kQ _ _ _ rfl),oF]⟩
theorem ab1 (m:Int)(ls:List Tree)(abZ:ls≠ [])(ll:ls.length<=4194304)(hl:∀y∈ls,T .av y)(hO:∀x,x∈ls->R1 (cf m) 189 (.sl (lsV x)) (.sl (lsV x))):R1 (cf m) 189 (.sl ls) (.sl ls):=by
 obtain⟨ev,aI,kQ,anz,Ho⟩:∃ev,aC (cf m) ev/\Has ev 50 nB/\Has ev 49 (mW (T .cv) (λx=>x))/\Has ev 189 (mW (λx=>∃y,y∈ls/\x=.sl (lsV y)) (λx=>x)):=⟨_,(aq (o4 m) (aq (bU (ajS m)) (aq (bU (λx h=>by obtain⟨y,hy,rfl⟩:=h;exact hO y hy)) aF))),au,(az rfl au),(az rfl (az rfl au))⟩;refine ai.iE ?_;refine AX.start 33 1 Tryz.func189 rfl (by decide) rfl rfl (by decide) ?_;refine AX.frames ?_;refine kAt (f:=64) (n:=3000) (once:=[]) (k:=33) (T:=0) (S:=[]) (ks:=[]) (live:=[0,2]) ah aI (Tryz.f189.body.getD .skip) 1 rfl (⟨eA 33 [(0,.t (.sl ls)),(2,.bX)],[],0⟩) [] (by kernel_rfl) ?_;refine AX.region ?_;refine aO.go (f:=0) aI (aH rfl) ?_;refine aO.go (f:=0) aI (Db (Ls rfl) (Ad kQ abZ (aG hl) (by assumption)) rfl zA) ?_;refine aO.go (f:=0) aI (aJ rfl) ?_;refine aO.nil ?_;refine kl (α:=Nat) ah 64 [] 33 1 [.loc [1,5]] [.loc [1,5]] [0,7,8] (λx=>⟨eA 33 [(0,.ref (.loc [0]) 0 ls.length),(7,.t (.int .i64 ((ls.length:Nat):Int))),(8,.t (.int .i64 ((x:Nat):Int)))],[(.loc [0],.arr (32,true) 7 false ((flat ls).map .t))],1⟩) (λx=>(x<=ls.length)) (λx=>ls.length - x) 0 (j6 (Tryz.f189.body.getD .skip) 3) [cU 32 7 ls] (by show(0<=ls.length);first|trivial|omega|(refine⟨?_, ?_⟩<;>first|omega|exact SM.nil)|simp) (λx hok=> ?_);obtain⟨i_1,zN⟩:∃y,y=x:=⟨x,rfl⟩;subst zN;replace hok:(i_1<=ls.length):=hok;have cI:=hok;rcases aK (decide (((i_1:Nat):Int)<((ls.length:Nat):Int))) with cm|cm
 ·have jP:=of_decide_eq_true cm;obtain⟨e3,kR⟩:=dn ls i_1;have mY:=(hl e3 (fT kR));obtain⟨nX,B4,yM,yN,B5,kE,mZ,rfl,r8,tQ,B6,zP,B7,B8⟩:=T.aD mY;exact⟨.inl ⟨i_1+1,⟨(by show(i_1+1)<=ls.length;omega),(by show(ls.length - (i_1+1))<(ls.length - i_1);omega)⟩⟩,vL ah 64 [] 33 1 [.loc [0]] [.loc [0]] [0,7,8] [oB cm,oW true 7 ls (aG hl),oH kR,oQ ls,oQ ls,oO (ot (i:=i_1) (j:=5) (eV.lens (aG hl)) kR rfl),oC (cE anz (x:=.sl kE) (.cv _ bJ zP)),oW true 7 ls (aG hl),oH kR,oQ ls,oQ ls,oO (ot (i:=i_1) (j:=6) (eV.lens (aG hl)) kR rfl),oC (cE Ho (x:=.sl mZ) ⟨_,fT kR,rfl⟩),oW true 7 ls (aG hl),oH kR,oQ ls,oQ ls,oR _ _ (zI (j:=5) (m:=1) (eV.lens (aG hl)) kR (by decide)),oK (Ie (j:=5) (m:=1) (eV.lens (aG hl)) kR (by decide)),oW true 7 ls (aG hl),oH kR,oQ ls,oQ ls,oR _ _ (zI (j:=6) (m:=1) (eV.lens (aG hl)) kR (by decide)),oK (Ie (j:=6) (m:=1) (eV.lens (aG hl)) kR (by decide)),oI (i_1) (by omega),cU 32 7 ls]⟩
 ·have jP:=of_decide_eq_false cm;refine F3 ah 64 [] [oB cm] ?_;exact⟨(),q4 ah 64 [] [oW true 7 ls (aG hl)]⟩
theorem afH (m:Int):∀l:List Tree,l.length<=4194304->(∀y∈l,T .av y)->R1 (cf m) 189 (.sl l) (.sl l):=by
 have key:∀(k:K) (x:Tree),T k x->k=.av->R1 (cf m) 189 (.sl (lsV x)) (.sl (lsV x)):=by
  intro k x h;induction h with
  |av k1 b1 n1 s1 t1 N1 L1 hs ht h0 h1 h2 h3 _ ih=>
   intro _
   show R1 (cf m) 189 (.sl L1) (.sl L1)
   have hO:∀x,x∈L1->R1 (cf m) 189 (.sl (lsV x)) (.sl (lsV x)):=λx hx=>ih x hx rfl
   rcases L1 with _|⟨c,L⟩
   · exact ab0 m hO
   · exact ab1 m _ (by simp) h2 h3 hO
  |_=>exactλe=>(by cases e)
 intro l hl h;rcases l with _|⟨c,L⟩
 ·exact ab0 m (λx hx=>by cases hx)
 ·exact ab1 m _ (by simp) hl h (λx hx=>key _ x (h x hx) rfl)
theorem RJ (m:Int):∃F:Tree->Tree->Int,∀x y,(T .cv x/\T .string y)->R2 (cf m) 101 x y (.int .i64 (F x y))/\(True):=by
 refine tK (P:=λx y=>T .cv x/\T .string y) (mk:=λ(r:Int)=>.int .i64 r) (Post:=λx y r=>True) λx y hx=> ?_
 obtain⟨hx,hy⟩:=hx;show ∃r:{r:Int // True},ai (cf m) 101 [.t x,.t y] [] (.ret (.t (.int .i64 r.1)) [] []);have bu:=hx;obtain⟨v_1,rfl,cT,cQ⟩:=T.mG bu;have dz:=hy;obtain⟨v_2,rfl,iA⟩:=T.bE dz;obtain⟨ev,aI⟩:∃ev,aC (cf m) ev:=⟨_,aF⟩;refine AX.start 19 2 Tryz.func101 rfl (by decide) rfl rfl (by decide) ?_;refine AX.frames ?_;refine kl (α:=Nat) ah 0 [] 19 0 [] [] [0,1,7,8] (λx=>⟨eA 19 [(0,.t (.sl v_1)),(1,.t (.str v_2)),(7,.t (.int .i64 ((v_1.length:Nat):Int))),(8,.t (.int .i64 ((x:Nat):Int)))],[],0⟩) (λx=>(x<=v_1.length)) (λx=>v_1.length - x) 0 (j6 (Tryz.f101.body.getD .skip) 2) [] (by show(0<=v_1.length);first|trivial|omega|(refine⟨?_, ?_⟩<;>first|omega|exact SM.nil)|simp) (λx hok=> ?_);obtain⟨vQ,zN⟩:∃y,y=x:=⟨x,rfl⟩;subst zN;replace hok:(vQ<=v_1.length):=hok;have gy:=hok;rcases aK (decide (((vQ:Nat):Int)<((v_1.length:Nat):Int))) with gu|gu
 ·have r7:=of_decide_eq_true gu;obtain⟨e5,j3⟩:=dn v_1 vQ;have lF:=(cQ e5 (fT j3));obtain⟨v_6,rfl,pX⟩:=T.bE lF;rcases aK ((v_2==v_6)) with gx|gx
  ·have nW:=eq_of_beq gx;refine kx ah [oB gu,oE j3,oB gx] ?_;refine⟨⟨((vQ:Nat):Int), ?_⟩,kf ah []⟩;trivial
  ·have nW:=ne_of_beq_false gx;exact⟨.inl ⟨vQ+1,⟨(by show(vQ+1)<=v_1.length;omega),(by show(v_1.length - (vQ+1))<(v_1.length - vQ);omega)⟩⟩,kr ah 19 0 [] [0,1,7,8] [oB gu,oE j3,oB gx,oI (vQ) (by omega)]⟩
 ·have r7:=of_decide_eq_false gu;refine kx ah [oB gu] ?_;refine⟨⟨-1, ?_⟩,kf ah []⟩;trivial
theorem afI (m:Int)(v:Tree)(n:Tree)(h0:T .av v)(h1:T .string n):∃r:{r:Tree×Int // T .av r.1},ai (cf m) 149 [.t v,.t n] [] (.ret (.t (.cG [(r.1).1,.int .i64 (r.1).2])) [] []):=by
 have bu:=h0;obtain⟨cL,jX,n_1,s_1,dA,aV,dh,rfl,cT,cQ,gh,dX,fM,fe⟩:=T.aD bu;have dz:=h1;obtain⟨v_2,rfl,iA⟩:=T.bE dz;obtain⟨RL,ab2⟩:=RJ m;obtain⟨ev,aI,ME,ajT⟩:∃ev,aC (cf m) ev/\Has ev 101 (rZ (λx y=>T .cv x/\T .string y) (λx y=>.int .i64 (RL x y)))/\Has ev 189 (mW (λx=>∃l:List Tree,x=.sl l/\l.length<=4194304/\∀y∈l,T .av y) (λx=>x)):=⟨_,(aq (dG (λx y h=>(ab2 x y h).1)) (aq (bU (λx h=>by obtain⟨l,rfl,h1,h2⟩:=h;exact afH m l h1 h2)) aF)),au,(az rfl au)⟩;refine AX.start 34 2 Tryz.func149 rfl (by decide) rfl rfl (by decide) ?_;refine AX.frames ?_;rcases aK ((cL != 5)) with bN|bN
 ·have mX:=dI bN;refine⟨⟨((aA 0 false 0 [] [] [] []),7),(.av _ _ _ _ _ _ _ (by simp) (by simp) (by simp) (λ_ h=>by cases h) (by simp) (λ_ h=>by cases h))⟩,kf ah [oB bN]⟩
 ·have mX:=cg bN;rcases afJ:RL (.sl aV) (.str v_2) with KD|KD
  ·rcases aK (decide (((KD:Nat):Int)<0)) with mI|mI
   ·have J7:=of_decide_eq_true mI;refine⟨⟨((aA 0 false 0 [] [] [] []),8),(.av _ _ _ _ _ _ _ (by simp) (by simp) (by simp) (λ_ h=>by cases h) (by simp) (λ_ h=>by cases h))⟩,kf ah ([oB bN,wj 101 [.t (.sl aV),.t (.str v_2)] (.int .i64 ((KD:Nat):Int)) ((eO ME (x:=(.sl aV)) (y:=(.str v_2)) ⟨(.cv _ bJ dX),dz⟩).trans (congrArg (λz=>some (br.ret (.t (.int .i64 z)) [] [])) afJ))]++rq 6 (oB mI) ([oT]))⟩
   ·have J7:=of_decide_eq_false mI;rcases aK (decide (((KD:Nat):Int)>=((dh.length:Nat):Int))) with nI|nI
    ·have F7:=of_decide_eq_true nI;refine⟨⟨((aA 0 false 0 [] [] [] []),8),(.av _ _ _ _ _ _ _ (by simp) (by simp) (by simp) (λ_ h=>by cases h) (by simp) (λ_ h=>by cases h))⟩,kf ah ([oB bN,wj 101 [.t (.sl aV),.t (.str v_2)] (.int .i64 ((KD:Nat):Int)) ((eO ME (x:=(.sl aV)) (y:=(.str v_2)) ⟨(.cv _ bJ dX),dz⟩).trans (congrArg (λz=>some (br.ret (.t (.int .i64 z)) [] [])) afJ))]++rq 6 (oB mI) ([oB nI]))⟩
    ·have F7:=of_decide_eq_false nI;obtain⟨e7,he7⟩:=dn ((dh.take (KD+1)).drop KD) 0;have Uu:=((λy hy=>fe y (List.mem_of_mem_take (List.mem_of_mem_drop hy))) e7 (fT he7));obtain⟨sx,HS,LF,Yr,HT,nL,sy,rfl,ab3,ab4,ab5,ab6,ab7,ab8⟩:=T.aD Uu;refine⟨⟨((aA sx HS LF Yr HT nL sy),0),Uu⟩,kf ah ([oB bN,wj 101 [.t (.sl aV),.t (.str v_2)] (.int .i64 ((KD:Nat):Int)) ((eO ME (x:=(.sl aV)) (y:=(.str v_2)) ⟨(.cv _ bJ dX),dz⟩).trans (congrArg (λz=>some (br.ret (.t (.int .i64 z)) [] [])) afJ))]++rq 6 (oB mI) ([oB nI,oI (KD) (by omega),oP (Vs (aG fe)),oR KD (KD+1) cO,oR (KD+1) dh.length cO,oC (cE ajT (x:=.sl ((dh.take (KD+1)).drop KD)) ⟨_,rfl,bJ,(λy hy=>fe y (List.mem_of_mem_take (List.mem_of_mem_drop hy)))⟩),oE he7]))⟩
  ·refine⟨⟨((aA 0 false 0 [] [] [] []),8),(.av _ _ _ _ _ _ _ (by simp) (by simp) (by simp) (λ_ h=>by cases h) (by simp) (λ_ h=>by cases h))⟩,kf ah ([oB bN,wj 101 [.t (.sl aV),.t (.str v_2)] (.int .i64 (Int.negSucc KD)) ((eO ME (x:=(.sl aV)) (y:=(.str v_2)) ⟨(.cv _ bJ dX),dz⟩).trans (congrArg (λz=>some (br.ret (.t (.int .i64 z)) [] [])) afJ))]++rq 6 (oB (decide_eq_true (Int.negSucc_lt_zero KD))) ([oT]))⟩
def Cu (x:Tree×Tree):List TV×List aP:=([.t x.1,.t x.2],[])
def Cv (x:Tree×Tree):Prop:=(T .av x.1)/\(T .string x.2)
def Uv (x:Tree×Tree)(r:Tree×Int):br:=(.ret (.t (.cG [(r).1,.int .i64 (r).2])) [] [])
theorem RM:∀x y,Cv x->Cv y->Cu x=Cu y->x=y:=by
 rintro ⟨v1,n1⟩ ⟨v2,n2⟩ h1 h2 h;have e_v:v1=v2:=congrArg (pT0 0) h;have e_n:n1=n2:=congrArg (pT0 1) h;rw[e_v,e_n]
theorem ab9 (m:Int):∃F:(Tree×Tree)->Tree×Int,∀v n,Cv (v,n)->ai (cf m) 149 (Cu (v,n)).1 (Cu (v,n)).2 (Uv (v,n) (F (v,n)))/\(T .av (F (v,n)).1):=by
 obtain⟨F,hF⟩:=bK (α:=Tree×Tree) (P:=Cv) (Q:=λx (r:Tree×Int)=>ai (cf m) 149 (Cu x).1 (Cu x).2 (Uv x r)/\(T .av r.1)) λx hx=>by
  obtain⟨v,n⟩:=x;obtain⟨h0,h1⟩:=hx;obtain⟨⟨r,hr⟩,h⟩:=afI m v n h0 h1;exact⟨r,h,hr⟩
 exact⟨F,λv n hx=>hF (v,n) hx⟩
theorem acd (m:Int)(k1:Int)(b1:Bool)(n1:Int)(s1 t1:List UInt8)(N1 L1:List Tree)(e:Tree)(he:T .bS e):∃r:Bool,ai (cf m) 148 (.t e::[.ptr (.arg 0) 0]) [.cells 32 (cF k1 b1 n1 s1 t1 N1 L1)] (.ret (.t (.bool r)) [.cells 32 (cF k1 b1 n1 s1 t1 N1 L1)] []):=by
 have bu:=he;obtain⟨eo,fV,eN,gR,lJ,lK,lM,lN,gJ,iR,rfl,cT,cQ,gh,dX,fM,fe,jQ,Cc,N9,vP⟩:=T.dD bu;obtain⟨ev,aI,Gn⟩:∃ev,aC (cf m) ev/\Has ev 104 (mW (λx=>∃k b n s t ns l,x=(aA k b n s t ns l)) afr):=⟨_,(aq (bU λx h=>by obtain⟨k,b,n,s,t,ns,l,rfl⟩:=h;exact Us m k b n s t ns l) aF),au⟩;refine AX.start 9 2 Tryz.func148 rfl (by decide) rfl rfl (by decide) ?_;refine AX.frames ?_;exact⟨((eo==t1)&&(fV==s1)),kf ah [wj 104 [.t (aA k1 b1 n1 s1 t1 N1 L1)] (.agg [.str t1,.str s1]) (cE Gn (x:=(aA k1 b1 n1 s1 t1 N1 L1)) ⟨_,_,_,_,_,_,_,rfl⟩),oO (aa2 (m:=m) (.tmp 5) (.tmp 7) eo fV t1 s1).1]⟩
theorem anA (m:Int)(k1:Int)(b1:Bool)(n1:Int)(s1 t1:List UInt8)(N1 L1:List Tree)(q:Tree->Bool)(l:List Tree)(hl:l.length<=4194304)(hl2:∀y∈l,T .bS y)(hq:∀x,T .bS x->RK (cf m) 148 [.ptr (.arg 0) 0] [.cells 32 (cF k1 b1 n1 s1 t1 N1 L1)] x (.bool (q x))):∃r:{r:Int //∀j:Nat,r=(j:Int)->j<l.length},ai (cf m) 147 (.t (.sl l)::[.fn (.func 148) [] [.ptr (.arg 0) 0]]) [.cells 32 (cF k1 b1 n1 s1 t1 N1 L1)] (.ret (.t (.int .i64 r.1)) [.cells 32 (cF k1 b1 n1 s1 t1 N1 L1)] []):=by
 obtain⟨ev,aI,e_q⟩:∃ev,aC (cf m) ev/\Has ev 148 (pk [.ptr (.arg 0) 0] [.cells 32 (cF k1 b1 n1 s1 t1 N1 L1)] (T .bS) λx=>.bool (q x)):=⟨_,(aq (ZS hq) aF),au⟩;refine AX.start 19 2 Tryz.func147 rfl (by decide) rfl rfl (by decide) ?_;refine AX.frames ?_;refine kl (α:=Nat) ah 0 [] 19 0 [] [.arg 0] [0,1,7,8] (λx=>⟨eA 19 [(0,.t (.sl l)),(1,.fn (.func 148) [] [.ptr (.arg 0) 0]),(7,.t (.int .i64 ((l.length:Nat):Int))),(8,.t (.int .i64 ((x:Nat):Int)))],[(.arg 0,.cells 32 (cF k1 b1 n1 s1 t1 N1 L1))],0⟩) (λx=>(x<=l.length)) (λx=>l.length - x) 0 (j6 (Tryz.f147.body.getD .skip) 2) [] (by show(0<=l.length);first|trivial|omega|(refine⟨?_, ?_⟩<;>first|omega|exact SM.nil)|simp) (λx hok=> ?_);obtain⟨i_1,zN⟩:∃y,y=x:=⟨x,rfl⟩;subst zN;replace hok:(i_1<=l.length):=hok;have cI:=hok;rcases aK (decide (((i_1:Nat):Int)<((l.length:Nat):Int))) with cm|cm
 ·have jP:=of_decide_eq_true cm;obtain⟨e3,kR⟩:=dn l i_1;have mY:=(hl2 e3 (fT kR));obtain⟨uf,z8,xb,qc,xd,xe,xg,xo,nA,qd,rfl,r8,tQ,B6,zP,B7,B8,ajk,ajl,ajm,ajn⟩:=T.dD mY;have anB:=aiB e_q (x:=.agg [.str uf,.str z8,.sl xb,.int .u8 qc,.bool xd,.int .i64 xe,.str xg,.str xo,.sl nA,.sl qd]) mY;rcases aK ((q (.agg [.str uf,.str z8,.sl xb,.int .u8 qc,.bool xd,.int .i64 xe,.str xg,.str xo,.sl nA,.sl qd]))) with ja|ja
  ·refine kx ah [oB cm,oE kR,oC anB,oB ja] ?_;exact⟨⟨((i_1:Nat):Int),λj h=>by omega⟩,kf ah []⟩
  ·exact⟨.inl ⟨i_1+1,⟨(by show(i_1+1)<=l.length;omega),(by show(l.length - (i_1+1))<(l.length - i_1);omega)⟩⟩,vL ah 0 [] 19 0 [] [.arg 0] [0,1,7,8] [oB cm,oE kR,oC anB,oB ja,oI (i_1) (by omega)]⟩
 ·have jP:=of_decide_eq_false cm;refine kx ah [oB cm] ?_;exact⟨⟨-1,λj h=>by omega⟩,kf ah []⟩
theorem ace (m:Int)(k1:Int)(b1:Bool)(n1:Int)(s1 t1:List UInt8)(N1 L1:List Tree):∃q:Tree->Bool,∀x,T .bS x->RK (cf m) 148 [.ptr (.arg 0) 0] [.cells 32 (cF k1 b1 n1 s1 t1 N1 L1)] x (.bool (q x)):=by
 obtain⟨F,hF⟩:=bK (α:=Tree) (P:=λx=>T .bS x) (Q:=λx (r:Bool)=>RK (cf m) 148 [.ptr (.arg 0) 0] [.cells 32 (cF k1 b1 n1 s1 t1 N1 L1)] x (.bool r)) λx hx=>acd m k1 b1 n1 s1 t1 N1 L1 x hx
 exact⟨F,hF⟩
theorem V2 (i:Int):(∃j:Nat,i=(j:Int))\/∃j:Nat,i=Int.negSucc j:=by
 cases i with
 |ofNat j=>exact .inl ⟨j,rfl⟩
 |negSucc j=>exact .inr ⟨j,rfl⟩
theorem acf (m:Int)(q:Sc)(v:Tree)(n:Tree)(h0:T .av v)(h1:T .string n)(h2:True)(h3:SD q):∃r:{r:Tree×Int // T .av r.1},ai (cf m) 102 [.ptr (.arg 0) 0,.t v,.t n] [.cells 63 (aT q)] (.ret (.t (.cG [(r.1).1,.int .i64 (r.1).2])) [.cells 63 (aT q)] []):=by
 have bu:=h0;obtain⟨cL,jX,n_1,s_1,dA,aV,dh,rfl,cT,cQ,gh,dX,fM,fe⟩:=T.aD bu;have dz:=h1;obtain⟨v_2,rfl,iA⟩:=T.bE dz;obtain⟨pq,hpq⟩:=ace m cL jX n_1 s_1 dA aV dh;obtain⟨⟨ri,hri⟩,hrc⟩:=anA m cL jX n_1 s_1 dA aV dh pq q.row h3.2.1 h3.2.2 hpq;obtain⟨Uw,Ux⟩:=ab9 m;obtain⟨ev,aI,ahO,acg⟩:∃ev,aC (cf m) ev/\Has ev 147 (px (.t (.sl q.row)::[.fn (.func 148) [] [.ptr (.arg 0) 0]]) [.cells 32 (cF cL jX n_1 s_1 dA aV dh)] (.ret (.t (.int .i64 ri)) [.cells 32 (cF cL jX n_1 s_1 dA aV dh)] []))/\Has ev 149 (gU Cu (Cv) (λx=>Uv x (Uw x))):=⟨_,(aq (fU hrc) (aq (cW (λ⟨v,n⟩ hx=>(Ux v n hx).1)) aF)),au,(az rfl au)⟩;refine AX.start 34 3 Tryz.func102 rfl (by decide) rfl rfl (by decide) ?_;refine AX.frames ?_;rcases aK ((cL==3)) with bN|bN
 ·have mX:=eq_of_beq bN;rcases V2 ri with ⟨KD,afK⟩|⟨KD,afK⟩
  ·have atr:=hri _ afK;obtain⟨e5,j3⟩:=dn q.row KD;have lF:=(h3.2.2 e5 (fT j3));obtain⟨dJ,fG,kM,eG,ia,ic,ig,ij,dN,eH,rfl,pX,r9,tR,tS,tT,pY,Ue,Om,Uf,On⟩:=T.dD lF;have Ei:Cv ((aA eG ia ic ig ij dN eH),(.str v_2)):=⟨(.av _ _ _ _ _ _ _ bJ bJ bJ Om bJ On),dz⟩;have hq7:=Ux (aA eG ia ic ig ij dN eH) (.str v_2) Ei;obtain⟨g_8,VY,ars,art⟩:∃g w,(Uw ((aA eG ia ic ig ij dN eH),(.str v_2)))=(g,w)/\T .av g:=⟨_,_,rfl,hq7.2⟩;have XS:=art;obtain⟨ach,anC,n_9,s_9,KF,qh,aci,rfl,abv,abw,ajU,ajV,ajW,ajX⟩:=T.aD XS;refine⟨⟨((aA ach anC n_9 s_9 KF qh aci),VY),XS⟩,kf ah [oB bN,oC (show ev 147 (.t (.sl q.row)::[.fn (.func 148) [] [.ptr (.arg 0) 0]]) [.cells 32 (cF cL jX n_1 s_1 dA aV dh)]=some (br.ret (.t (.int .i64 ((KD:Nat):Int))) [.cells 32 (cF cL jX n_1 s_1 dA aV dh)] []) from(jm ahO).trans (congrArg (λz=>some (br.ret (.t (.int .i64 z)) [.cells 32 (cF cL jX n_1 s_1 dA aV dh)] [])) afK)),oB (show(decide (((KD:Nat):Int)<0))=false from decide_eq_false (by omega)),oE j3,wj 149 [.t (aA eG ia ic ig ij dN eH),.t (.str v_2)] (.cG [(aA ach anC n_9 s_9 KF qh aci),.int .i64 VY]) ((fu acg RM ((aA eG ia ic ig ij dN eH),(.str v_2)) Ei rfl rfl).trans (congrArg (λz:Tree×Int=>some (br.ret (.t (.cG [z.1,.int .i64 z.2])) [] [])) ars))]⟩
  ·refine⟨⟨((aA 0 false 0 [] [] [] []),9),(.av _ _ _ _ _ _ _ (by simp) (by simp) (by simp) (λ_ h=>by cases h) (by simp) (λ_ h=>by cases h))⟩,kf ah [oB bN,oC (show ev 147 (.t (.sl q.row)::[.fn (.func 148) [] [.ptr (.arg 0) 0]]) [.cells 32 (cF cL jX n_1 s_1 dA aV dh)]=some (br.ret (.t (.int .i64 (Int.negSucc KD))) [.cells 32 (cF cL jX n_1 s_1 dA aV dh)] []) from(jm ahO).trans (congrArg (λz=>some (br.ret (.t (.int .i64 z)) [.cells 32 (cF cL jX n_1 s_1 dA aV dh)] [])) afK)),oB (decide_eq_true (Int.negSucc_lt_zero KD))]⟩
 ·have mX:=ne_of_beq_false bN;have Rm:Cv ((aA cL jX n_1 s_1 dA aV dh),(.str v_2)):=⟨bu,dz⟩;have amZ:=Ux (aA cL jX n_1 s_1 dA aV dh) (.str v_2) Rm;obtain⟨att,anD,anE,anF⟩:∃g w,(Uw ((aA cL jX n_1 s_1 dA aV dh),(.str v_2)))=(g,w)/\T .av g:=⟨_,_,rfl,amZ.2⟩;have DQ:=anF;obtain⟨sY,El,OL,OM,Em,qi,sZ,rfl,VH,VI,afL,afM,afN,afO⟩:=T.aD DQ;refine⟨⟨((aA sY El OL OM Em qi sZ),anD),DQ⟩,kf ah [oB bN,wj 149 [.t (aA cL jX n_1 s_1 dA aV dh),.t (.str v_2)] (.cG [(aA sY El OL OM Em qi sZ),.int .i64 anD]) ((fu acg RM ((aA cL jX n_1 s_1 dA aV dh),(.str v_2)) Rm rfl rfl).trans (congrArg (λz:Tree×Int=>some (br.ret (.t (.cG [z.1,.int .i64 z.2])) [] [])) anE))]⟩
def vt (x:Sc×Tree×Tree):List TV×List aP:=([.ptr (.arg 0) 0,.t x.2.1,.t x.2.2],[.cells 63 (aT x.1)])
def vu (x:Sc×Tree×Tree):Prop:=(T .av x.2.1)/\(T .string x.2.2)/\(True)/\(SD x.1)
def Iv (x:Sc×Tree×Tree)(r:Tree×Int):br:=(.ret (.t (.cG [(r).1,.int .i64 (r).2])) [.cells 63 (aT x.1)] [])
theorem MF:∀x y,vu x->vu y->vt x=vt y->x=y:=by
 rintro ⟨q1,v1,n1⟩ ⟨q2,v2,n2⟩ h1 h2 h;have e_q:q1=q2:=congrArg pSc h;have e_v:v1=v2:=congrArg (pT0 1) h;have e_n:n1=n2:=congrArg (pT0 2) h;rw[e_q,e_v,e_n]
theorem MG (m:Int):∃F:(Sc×Tree×Tree)->Tree×Int,∀q v n,vu (q,v,n)->ai (cf m) 102 (vt (q,v,n)).1 (vt (q,v,n)).2 (Iv (q,v,n) (F (q,v,n)))/\(T .av (F (q,v,n)).1):=by
 obtain⟨F,hF⟩:=bK (α:=Sc×Tree×Tree) (P:=vu) (Q:=λx (r:Tree×Int)=>ai (cf m) 102 (vt x).1 (vt x).2 (Iv x r)/\(T .av r.1)) λx hx=>by
  obtain⟨q,v,n⟩:=x;obtain⟨h0,h1,h2,h3⟩:=hx;obtain⟨⟨r,hr⟩,h⟩:=acf m q v n h0 h1 h2 h3;exact⟨r,h,hr⟩
 exact⟨F,λq v n hx=>hF (q,v,n) hx⟩
theorem acj (m:Int)(q:Sc)(e:Tree)(l:List Tree)(h0:T .aM e)(h1:l.length<=4194304)(h2:∀y∈l,T .av y)(h3:1<=l.length)(h4:SD q):∃r:{r:Tree ⊕ Int //((∀v,r=.inl v->T .av v))/\∀w,r=.inr w->w≠0},ai (cf m) 57 [.ptr (.arg 0) 0,.t e,.t (.sl l)] [.cells 63 (aT q)] (aL (r.1) [.cells 63 (aT q)]):=by
 have bu:=h0;obtain⟨bY,n_1,s_1,dA,aV,bR,rfl,cT,cQ,gh,dX,fM,fe,jQ⟩:=T.bO bu;obtain⟨En,Eo⟩:=MG m;obtain⟨ev,aI,ON,su⟩:∃ev,aC (cf m) ev/\Has ev 102 (gU vt (vu) (λx=>Iv x (En x)))/\Has ev 93 Kr:=⟨_,(aq (cW (λ⟨q,v,n⟩ hx=>(Eo q v n hx).1)) (aq (Ab m) aF)),au,(az rfl au)⟩;refine AX.start 24 3 Tryz.func57 rfl (by decide) rfl rfl (by decide) ?_;refine AX.frames ?_;obtain⟨e2,l7⟩:=dn l 0;have jv:=(h2 e2 (fT l7));obtain⟨aY,eW,jw,iu,dm,bl,bF,rfl,uk,um,vW,vX,vY,vZ⟩:=T.aD jv;have nZ:vu (q,(aA aY eW jw iu dm bl bF),(.str s_1)):=⟨jv,(.string _ bJ),trivial,h4⟩;have K9:=Eo q (aA aY eW jw iu dm bl bF) (.str s_1) nZ;obtain⟨g_5,CI,ajY,ajZ⟩:∃g w,(En (q,(aA aY eW jw iu dm bl bF),(.str s_1)))=(g,w)/\T .av g:=⟨_,_,rfl,K9.2⟩;have lF:=ajZ;obtain⟨cZ,j8,qm,qR,j9,cK,bD,rfl,pX,r9,tR,tS,tT,pY⟩:=T.aD lF;have anG:=show ev 102 [.ptr (.arg 0) 0,.t (aA aY eW jw iu dm bl bF),.t (.str s_1)] [.cells 63 (aT q)]=some (br.ret (.t (.cG [(aA cZ j8 qm qR j9 cK bD),.int .i64 CI])) [.cells 63 (aT q)] []) from(fu ON MF (q,(aA aY eW jw iu dm bl bF),(.str s_1)) nZ rfl rfl).trans (congrArg (λz:Tree×Int=>some (br.ret (.t (.cG [z.1,.int .i64 z.2])) [.cells 63 (aT q)] [])) ajY);rcases aK ((CI==0)) with Bz|Bz
 ·have abS:=eq_of_beq Bz;refine⟨⟨.inl (aA cZ j8 qm qR j9 cK bD),⟨((λv hv=>by cases hv;exact lF)),λw hw=>(by cases hw)⟩⟩,kf ah [oE l7,oC anG,oC (show ev 93 [.t (.bool (CI==0)),.t (.int .i64 CI)] []=some (aL (.inl (.cG [])) []) from su _ _ _ (by show some (aL (cond ((CI==0)) _ _) [])=_;rw[Bz];rfl))]⟩
 ·have abS:=ne_of_beq_false Bz;refine⟨⟨.inr (CI),⟨((λv hv=>by cases hv)),λw hw=>Sum.inr.inj hw▸(show(CI:Int)≠0 by intro h0;have hz:=Bz;rw[h0] at hz;exact absurd hz (by decide))⟩⟩,kf ah [oE l7,oC anG,oC (show ev 93 [.t (.bool (CI==0)),.t (.int .i64 CI)] []=some (aL (.inr (CI)) []) from su _ _ _ (by show some (aL (cond ((CI==0)) _ _) [])=_;rw[Bz];rfl))]⟩
theorem afP (m:Int)(q:Sc)(e:Tree)(l:List Tree)(h0:T .aM e)(h1:l.length<=4194304)(h2:∀y∈l,T .av y)(h3:1<=l.length)(h4:SD q):∃r:{r:Tree ⊕ Int //((∀v,r=.inl v->T .av v))/\∀w,r=.inr w->w≠0},ai (cf m) 58 [.ptr (.arg 0) 0,.t e,.t (.sl l)] [.cells 63 (aT q)] (aL (r.1) [.cells 63 (aT q)]):=by
 have bu:=h0;obtain⟨bY,n_1,s_1,dA,aV,bR,rfl,cT,cQ,gh,dX,fM,fe,jQ⟩:=T.bO bu;obtain⟨En,Eo⟩:=MG m;obtain⟨ev,aI,ON,su,l6⟩:∃ev,aC (cf m) ev/\Has ev 102 (gU vt (vu) (λx=>Iv x (En x)))/\Has ev 93 Kr/\Has ev 94 (mW (λx=>∃b,x=.bool b) Bx):=⟨_,(aq (cW (λ⟨q,v,n⟩ hx=>(Eo q v n hx).1)) (aq (Ab m) (aq (bU λx h=>by obtain⟨b,rfl⟩:=h;exact q6 m b) aF))),au,(az rfl au),(az rfl (az rfl au))⟩;refine AX.start 26 3 Tryz.func58 rfl (by decide) rfl rfl (by decide) ?_;refine AX.frames ?_;obtain⟨e2,l7⟩:=dn l 0;have jv:=(h2 e2 (fT l7));obtain⟨aY,eW,jw,iu,dm,bl,bF,rfl,uk,um,vW,vX,vY,vZ⟩:=T.aD jv;have nZ:vu (q,(aA aY eW jw iu dm bl bF),(.str s_1)):=⟨jv,(.string _ bJ),trivial,h4⟩;have K9:=Eo q (aA aY eW jw iu dm bl bF) (.str s_1) nZ;obtain⟨g_5,CI,ajY,ajZ⟩:∃g w,(En (q,(aA aY eW jw iu dm bl bF),(.str s_1)))=(g,w)/\T .av g:=⟨_,_,rfl,K9.2⟩;have lF:=ajZ;obtain⟨cZ,j8,qm,qR,j9,cK,bD,rfl,pX,r9,tR,tS,tT,pY⟩:=T.aD lF;have anH:=show ev 102 [.ptr (.arg 0) 0,.t (aA aY eW jw iu dm bl bF),.t (.str s_1)] [.cells 63 (aT q)]=some (br.ret (.t (.cG [(aA cZ j8 qm qR j9 cK bD),.int .i64 CI])) [.cells 63 (aT q)] []) from(fu ON MF (q,(aA aY eW jw iu dm bl bF),(.str s_1)) nZ rfl rfl).trans (congrArg (λz:Tree×Int=>some (br.ret (.t (.cG [z.1,.int .i64 z.2])) [.cells 63 (aT q)] [])) ajY);rcases aK ((CI != 7)) with Bz|Bz
 ·refine⟨⟨.inl (aA 0 (CI==0) 0 [] [] [] []),⟨((λv hv=>by cases hv;exact(iT _))),λw hw=>(by cases hw)⟩⟩,kf ah [oE l7,oC anH,oC (show ev 93 [.t (.bool (CI != 7)),.t (.int .i64 CI)] []=some (aL (.inl (.cG [])) []) from su _ _ _ (by show some (aL (cond ((CI != 7)) _ _) [])=_;rw[Bz];rfl)),wj 94 [.t (.bool (CI==0))] (aA 0 (CI==0) 0 [] [] [] []) (cE l6 (x:=.bool (CI==0)) ⟨_,rfl⟩)]⟩
 ·refine⟨⟨.inr (CI),⟨((λv hv=>by cases hv)),λw hw=>Sum.inr.inj hw▸(show(CI:Int)≠0 by intro h0;have hz:=Bz;rw[h0] at hz;exact absurd hz (by decide))⟩⟩,kf ah [oE l7,oC anH,oC (show ev 93 [.t (.bool (CI != 7)),.t (.int .i64 CI)] []=some (aL (.inr (CI)) []) from su _ _ _ (by show some (aL (cond ((CI != 7)) _ _) [])=_;rw[Bz];rfl))]⟩
theorem ack (m:Int)(k1:Int)(b1:Bool)(n1:Int)(s1 t1:List UInt8)(N1 L1:List Tree)(hP:T .av (aA k1 b1 n1 s1 t1 N1 L1))(e:Tree)(he:T .av e):∃r:Bool,ai (cf m) 153 (.t e::[.ptr (.arg 0) 0]) [.cells 32 (cF k1 b1 n1 s1 t1 N1 L1)] (.ret (.t (.bool r)) [.cells 32 (cF k1 b1 n1 s1 t1 N1 L1)] []):=by
 have bu:=he;obtain⟨cL,jX,n_1,s_1,dA,aV,dh,rfl,cT,cQ,gh,dX,fM,fe⟩:=T.aD bu;obtain⟨ev,aI,J6⟩:∃ev,aC (cf m) ev/\Has ev 84 (rZ (λx y=>T .av x/\T .av y) (λx y=>.int .i64 (Ks m x y))):=⟨_,(aq (dG (λx y h=>Kt m x y h)) aF),au⟩;refine AX.start 8 2 Tryz.func153 rfl (by decide) rfl rfl (by decide) ?_;refine AX.frames ?_;exact⟨((Ks m (aA cL jX n_1 s_1 dA aV dh) (aA k1 b1 n1 s1 t1 N1 L1))==0),kf ah [oC (eO J6 (x:=(aA cL jX n_1 s_1 dA aV dh)) (y:=(aA k1 b1 n1 s1 t1 N1 L1)) ⟨bu,hP⟩)]⟩
theorem anI (m:Int)(k1:Int)(b1:Bool)(n1:Int)(s1 t1:List UInt8)(N1 L1:List Tree)(q:Tree->Bool)(l:List Tree)(hl:l.length<=4194304)(hl2:∀y∈l,T .av y)(hq:∀x,T .av x->RK (cf m) 153 [.ptr (.arg 0) 0] [.cells 32 (cF k1 b1 n1 s1 t1 N1 L1)] x (.bool (q x))):∃r:Int,ai (cf m) 152 (.t (.sl l)::[.fn (.func 153) [] [.ptr (.arg 0) 0]]) [.cells 32 (cF k1 b1 n1 s1 t1 N1 L1)] (.ret (.t (.int .i64 r)) [.cells 32 (cF k1 b1 n1 s1 t1 N1 L1)] []):=by
 obtain⟨ev,aI,e_q⟩:∃ev,aC (cf m) ev/\Has ev 153 (pk [.ptr (.arg 0) 0] [.cells 32 (cF k1 b1 n1 s1 t1 N1 L1)] (T .av) λx=>.bool (q x)):=⟨_,(aq (ZS hq) aF),au⟩;refine AX.start 19 2 Tryz.func152 rfl (by decide) rfl rfl (by decide) ?_;refine AX.frames ?_;refine kl (α:=Nat) ah 0 [] 19 0 [] [.arg 0] [0,1,7,8] (λx=>⟨eA 19 [(0,.t (.sl l)),(1,.fn (.func 153) [] [.ptr (.arg 0) 0]),(7,.t (.int .i64 ((l.length:Nat):Int))),(8,.t (.int .i64 ((x:Nat):Int)))],[(.arg 0,.cells 32 (cF k1 b1 n1 s1 t1 N1 L1))],0⟩) (λx=>(x<=l.length)) (λx=>l.length - x) 0 (j6 (Tryz.f152.body.getD .skip) 2) [] (by show(0<=l.length);first|trivial|omega|(refine⟨?_, ?_⟩<;>first|omega|exact SM.nil)|simp) (λx hok=> ?_);obtain⟨i_1,zN⟩:∃y,y=x:=⟨x,rfl⟩;subst zN;replace hok:(i_1<=l.length):=hok;have cI:=hok;rcases aK (decide (((i_1:Nat):Int)<((l.length:Nat):Int))) with cm|cm
 ·have jP:=of_decide_eq_true cm;obtain⟨e3,kR⟩:=dn l i_1;have mY:=(hl2 e3 (fT kR));obtain⟨nX,B4,yM,yN,B5,kE,mZ,rfl,r8,tQ,B6,zP,B7,B8⟩:=T.aD mY;have anJ:=aiB e_q (x:=(aA nX B4 yM yN B5 kE mZ)) mY;rcases aK ((q (aA nX B4 yM yN B5 kE mZ))) with ja|ja
  ·refine kx ah [oB cm,oE kR,oC anJ,oB ja] ?_;exact⟨((i_1:Nat):Int),kf ah []⟩
  ·exact⟨.inl ⟨i_1+1,⟨(by show(i_1+1)<=l.length;omega),(by show(l.length - (i_1+1))<(l.length - i_1);omega)⟩⟩,vL ah 0 [] 19 0 [] [.arg 0] [0,1,7,8] [oB cm,oE kR,oC anJ,oB ja,oI (i_1) (by omega)]⟩
 ·have jP:=of_decide_eq_false cm;refine kx ah [oB cm] ?_;exact⟨-1,kf ah []⟩
theorem anK (m:Int)(k1:Int)(b1:Bool)(n1:Int)(s1 t1:List UInt8)(N1 L1:List Tree)(q:Tree->Bool)(l:List Tree)(hl:l.length<=4194304)(hl2:∀y∈l,T .av y)(hq:∀x,T .av x->RK (cf m) 153 [.ptr (.arg 0) 0] [.cells 32 (cF k1 b1 n1 s1 t1 N1 L1)] x (.bool (q x))):∃r:Bool,ai (cf m) 106 (.t (.sl l)::[.fn (.func 153) [] [.ptr (.arg 0) 0]]) [.cells 32 (cF k1 b1 n1 s1 t1 N1 L1)] (.ret (.t (.bool r)) [.cells 32 (cF k1 b1 n1 s1 t1 N1 L1)] []):=by
 obtain⟨ri,hri⟩:=anI m k1 b1 n1 s1 t1 N1 L1 q l hl hl2 hq;obtain⟨ev,aI,anL⟩:∃ev,aC (cf m) ev/\Has ev 152 (px (.t (.sl l)::[.fn (.func 153) [] [.ptr (.arg 0) 0]]) [.cells 32 (cF k1 b1 n1 s1 t1 N1 L1)] (.ret (.t (.int .i64 ri)) [.cells 32 (cF k1 b1 n1 s1 t1 N1 L1)] [])):=⟨_,(aq (fU hri) aF),au⟩;refine AX.start 9 2 Tryz.func106 rfl (by decide) rfl rfl (by decide) ?_;refine AX.frames ?_;exact⟨decide (ri>=0),kf ah [oC (jm anL)]⟩
theorem acm (m:Int)(k1:Int)(b1:Bool)(n1:Int)(s1 t1:List UInt8)(N1 L1:List Tree)(hP:T .av (aA k1 b1 n1 s1 t1 N1 L1)):∃q:Tree->Bool,∀x,T .av x->RK (cf m) 153 [.ptr (.arg 0) 0] [.cells 32 (cF k1 b1 n1 s1 t1 N1 L1)] x (.bool (q x)):=by
 obtain⟨F,hF⟩:=bK (α:=Tree) (P:=λx=>T .av x) (Q:=λx (r:Bool)=>RK (cf m) 153 [.ptr (.arg 0) 0] [.cells 32 (cF k1 b1 n1 s1 t1 N1 L1)] x (.bool r)) λx hx=>ack m k1 b1 n1 s1 t1 N1 L1 hP x hx
 exact⟨F,hF⟩
theorem afQ (m:Int)(v w:Tree)(hv:T .av v)(hw:T .av w):∃r:Bool,R2 (cf m) 108 v w (.bool r):=by
 have bu:=hv;obtain⟨cL,jX,n_1,s_1,dA,aV,dh,rfl,cT,cQ,gh,dX,fM,fe⟩:=T.aD bu;have dz:=hw;obtain⟨cq,kg,n_2,s_2,jd,cz,dY,rfl,iA,lU,x8,vM,x9,tU⟩:=T.aD dz;obtain⟨hq,hhq⟩:=acm m cq kg n_2 s_2 jd cz dY dz;obtain⟨rb,hrb⟩:=anK m cq kg n_2 s_2 jd cz dY hq dh bJ fe hhq;obtain⟨ev,aI,anM⟩:∃ev,aC (cf m) ev/\Has ev 106 (px (.t (.sl dh)::[.fn (.func 153) [] [.ptr (.arg 0) 0]]) [.cells 32 (cF cq kg n_2 s_2 jd cz dY)] (.ret (.t (.bool rb)) [.cells 32 (cF cq kg n_2 s_2 jd cz dY)] [])):=⟨_,(aq (fU hrb) aF),au⟩;refine AX.start 14 2 Tryz.func108 rfl (by decide) rfl rfl (by decide) ?_;refine AX.frames ?_;rcases aK ((cL==4)) with hg3|hg3
 ·have F8:=eq_of_beq hg3;exact⟨rb,kf ah (rq 4 (oB hg3) ([oC (jm anM),oB hg3]))⟩
 ·have F8:=ne_of_beq_false hg3;exact⟨false,kf ah (rq 5 (oB hg3) ([]))⟩
theorem MH (m:Int):∃F:Tree->Tree->Bool,∀x y,T .av x/\T .av y->R2 (cf m) 108 x y (.bool (F x y)):=
 zM Tree.bool λx y h=>afQ m x y h.1 h.2
noncomputable def vhF (m:Int):Tree->Tree->Bool:=(MH m).choose
theorem acn (m:Int):∀x y,T .av x/\T .av y->R2 (cf m) 108 x y (.bool (vhF m x y)):=(MH m).choose_spec
theorem afR (m:Int)(q:Sc)(e:Tree)(l:List Tree)(h0:T .aM e)(h1:l.length<=4194304)(h2:∀y∈l,T .av y)(h3:2<=l.length):∃r:{r:Tree ⊕ Int //((∀v,r=.inl v->T .av v))/\∀w,r=.inr w->w≠0},ai (cf m) 67 [.ptr (.arg 0) 0,.t e,.t (.sl l)] [.cells 63 (aT q)] (aL (r.1) [.cells 63 (aT q)]):=by
 have bu:=h0;obtain⟨bY,n_1,s_1,dA,aV,bR,rfl,cT,cQ,gh,dX,fM,fe,jQ⟩:=T.bO bu;obtain⟨ev,aI,bC,aj0,l6⟩:∃ev,aC (cf m) ev/\Has ev 52 sH/\Has ev 108 (rZ (λx y=>T .av x/\T .av y) (λx y=>.bool (vhF m x y)))/\Has ev 94 (mW (λx=>∃b,x=.bool b) Bx):=⟨_,(aq (jY m) (aq (dG (λx y h=>acn m x y h)) (aq (bU λx h=>by obtain⟨b,rfl⟩:=h;exact q6 m b) aF))),au,(az rfl au),(az rfl (az rfl au))⟩;refine AX.start 16 3 Tryz.func67 rfl (by decide) rfl rfl (by decide) ?_;refine AX.frames ?_;obtain⟨e2,l7⟩:=dn l 0;have jv:=(h2 e2 (fT l7));obtain⟨aY,eW,jw,iu,dm,bl,bF,rfl,uk,um,vW,vX,vY,vZ⟩:=T.aD jv;rcases aK ((aY==4)) with oc|oc
 ·have Ct:=eq_of_beq oc;obtain⟨e5,j3⟩:=dn l 1;have lF:=(h2 e5 (fT j3));obtain⟨cZ,j8,qm,qR,j9,cK,bD,rfl,pX,r9,tR,tS,tT,pY⟩:=T.aD lF;refine⟨⟨.inl (aA 0 (vhF m (aA aY eW jw iu dm bl bF) (aA cZ j8 qm qR j9 cK bD)) 0 [] [] [] []),⟨((λv hv=>by cases hv;exact(iT _))),λw hw=>(by cases hw)⟩⟩,kf ah [oE l7,oC (show ev 52 [.t (aA aY eW jw iu dm bl bF),.t (.int .u8 4)] []=some (aL (.inl (aA aY eW jw iu dm bl bF)) []) from bC _ _ _ (by show some (aL (cond ((aY==4)) _ _) [])=_;rw[oc];rfl)),oE j3,oC (eO aj0 (x:=(aA aY eW jw iu dm bl bF)) (y:=(aA cZ j8 qm qR j9 cK bD)) ⟨jv,lF⟩),wj 94 [.t (.bool (vhF m (aA aY eW jw iu dm bl bF) (aA cZ j8 qm qR j9 cK bD)))] (aA 0 (vhF m (aA aY eW jw iu dm bl bF) (aA cZ j8 qm qR j9 cK bD)) 0 [] [] [] []) (cE l6 (x:=.bool (vhF m (aA aY eW jw iu dm bl bF) (aA cZ j8 qm qR j9 cK bD))) ⟨_,rfl⟩)]⟩
 ·have Ct:=ne_of_beq_false oc;obtain⟨e7,he7⟩:=dn l 1;have Uu:=(h2 e7 (fT he7));obtain⟨sx,HS,LF,Yr,HT,nL,sy,rfl,ab3,ab4,ab5,ab6,ab7,ab8⟩:=T.aD Uu;refine⟨⟨.inr (7),⟨((λv hv=>by cases hv)),λw hw=>Sum.inr.inj hw▸(show(7:Int)≠0 by decide)⟩⟩,kf ah [oE l7,oC (show ev 52 [.t (aA aY eW jw iu dm bl bF),.t (.int .u8 4)] []=some (aL (.inr (7)) []) from bC _ _ _ (by show some (aL (cond ((aY==4)) _ _) [])=_;rw[oc];rfl)),oE he7]⟩
theorem RN (m:Int)(q:Sc)(e:Tree)(l:List Tree)(h0:T .aM e)(h1:l.length<=4194304)(h2:∀y∈l,T .av y)(h3:2<=l.length):∃r:{r:Tree ⊕ Int //((∀v,r=.inl v->T .av v))/\∀w,r=.inr w->w≠0},ai (cf m) 68 [.ptr (.arg 0) 0,.t e,.t (.sl l)] [.cells 63 (aT q)] (aL (r.1) [.cells 63 (aT q)]):=by
 have bu:=h0;obtain⟨bY,n_1,s_1,dA,aV,bR,rfl,cT,cQ,gh,dX,fM,fe,jQ⟩:=T.bO bu;obtain⟨ev,aI,bC,aj0,l6⟩:∃ev,aC (cf m) ev/\Has ev 52 sH/\Has ev 108 (rZ (λx y=>T .av x/\T .av y) (λx y=>.bool (vhF m x y)))/\Has ev 94 (mW (λx=>∃b,x=.bool b) Bx):=⟨_,(aq (jY m) (aq (dG (λx y h=>acn m x y h)) (aq (bU λx h=>by obtain⟨b,rfl⟩:=h;exact q6 m b) aF))),au,(az rfl au),(az rfl (az rfl au))⟩;refine AX.start 53 3 Tryz.func68 rfl (by decide) rfl rfl (by decide) ?_;refine AX.frames ?_;obtain⟨e2,l7⟩:=dn l 0;have jv:=(h2 e2 (fT l7));obtain⟨aY,eW,jw,iu,dm,bl,bF,rfl,uk,um,vW,vX,vY,vZ⟩:=T.aD jv;rcases aK ((aY==4)) with oc|oc
 ·have Ct:=eq_of_beq oc;obtain⟨e5,j3⟩:=dn l 1;have lF:=(h2 e5 (fT j3));obtain⟨cZ,j8,qm,qR,j9,cK,bD,rfl,pX,r9,tR,tS,tT,pY⟩:=T.aD lF;rcases aK ((cZ==4)) with Bz|Bz
  ·have abS:=eq_of_beq Bz;refine kl (α:=Nat×Int) ah 0 [] 53 4 [.loc [0],.loc [1],.loc [10],.loc [11]] [.loc [0],.loc [1],.loc [10],.loc [11],.arg 0] [4,6,7,8,9,21,22,23] (λx=>⟨eA 53 [(4,.ptr (.loc [0]) 0),(6,.ptr (.loc [1]) 0),(7,.ptr (.loc [2]) 0),(8,.ptr (.loc [3]) 0),(9,.t (.int .i64 x.2)),(21,.t (.sl bD)),(22,.t (.int .i64 ((bD.length:Nat):Int))),(23,.t (.int .i64 ((x.1:Nat):Int)))],[(.loc [0],.cells 26 (bg bY n_1 s_1 dA aV bR)),(.loc [1],.cells 32 [.t (.int .u8 0),.t (.bool false),.t (.int .i64 0),.t (.str []),.t (.str []),.bX,.bX]),(.loc [2],.cells 32 (cF aY eW jw iu dm bl bF)),(.loc [3],.cells 32 (cF cZ j8 qm qR j9 cK bD)),(.arg 0,.cells 63 (aT q))],4⟩) (λx=>(x.1<=bD.length)) (λx=>bD.length - x.1) (⟨0,0⟩) (j6 (Tryz.f68.body.getD .skip) 4) [oE l7,oC (show ev 52 [.t (aA aY eW jw iu dm bl bF),.t (.int .u8 4)] []=some (aL (.inl (aA aY eW jw iu dm bl bF)) []) from bC _ _ _ (by show some (aL (cond ((aY==4)) _ _) [])=_;rw[oc];rfl)),oE j3,oC (show ev 52 [.t (aA cZ j8 qm qR j9 cK bD),.t (.int .u8 4)] []=some (aL (.inl (aA cZ j8 qm qR j9 cK bD)) []) from bC _ _ _ (by show some (aL (cond ((cZ==4)) _ _) [])=_;rw[Bz];rfl))] (by show(0<=bD.length);first|trivial|omega|(refine⟨?_, ?_⟩<;>first|omega|exact SM.nil)|simp) (λx hok=> ?_);obtain⟨La,Uy⟩:=x;replace hok:(La<=bD.length):=hok;have afS:=hok;rcases aK (decide (((La:Nat):Int)<((bD.length:Nat):Int))) with nU|nU
   ·have Ga:=of_decide_eq_true nU;obtain⟨e10,xq⟩:=dn bD La;have Hj:=(pY e10 (fT xq));obtain⟨s4,MI,X0,X1,MJ,xy,A0,rfl,Ox,Oy,Oz,Ec,OA,OB⟩:=T.aD Hj;have anN:=eO aj0 (x:=(aA aY eW jw iu dm bl bF)) (y:=(aA s4 MI X0 X1 MJ xy A0)) ⟨jv,Hj⟩;rcases aK ((vhF m (aA aY eW jw iu dm bl bF) (aA s4 MI X0 X1 MJ xy A0))) with Aa|Aa
    ·exact⟨.inl ⟨⟨La+1,(IntKind.wrap .i64 (Uy+1))⟩,⟨(by show(La+1)<=bD.length;omega),(by show(bD.length - (La+1))<(bD.length - La);omega)⟩⟩,vL ah 0 [] 53 4 [.loc [0],.loc [1],.loc [2],.loc [3]] [.loc [0],.loc [1],.loc [2],.loc [3],.arg 0] [4,6,7,8,9,21,22,23] [oB nU,oE xq,oC anN,oB Aa,oZ,oI (La) (by omega)]⟩
    ·exact⟨.inl ⟨⟨La+1,Uy⟩,⟨(by show(La+1)<=bD.length;omega),(by show(bD.length - (La+1))<(bD.length - La);omega)⟩⟩,vL ah 0 [] 53 4 [.loc [0],.loc [1],.loc [2],.loc [3]] [.loc [0],.loc [1],.loc [2],.loc [3],.arg 0] [4,6,7,8,9,21,22,23] [oB nU,oE xq,oC anN,oB Aa,oI (La) (by omega)]⟩
   ·have Ga:=of_decide_eq_false nU;refine kx ah [oB nU] ?_;have anO:=show ev 94 [.t (.bool false)] []=some (br.ret (.t (aA 0 false 0 [] [] [] [])) [] []) from(cE l6 (x:=.bool false) ⟨_,rfl⟩);rcases aK ((bY==28)) with gq|gq
    ·have RD:=eq_of_beq gq;rcases aK ((Uy==((bD.length:Nat):Int))) with jD|jD
     ·have J8:=eq_of_beq jD;refine⟨⟨.inl (aA 0 true 0 [] [] [] []),⟨((λv hv=>by cases hv;exact(iT _))),λw hw=>(by cases hw)⟩⟩,kf ah (rq 6 (oB gq) (rq 6 (oB jD) ([wj 94 [.t (.bool true)] (aA 0 true 0 [] [] [] []) (cE l6 (x:=.bool true) ⟨_,rfl⟩)])))⟩
     ·have J8:=ne_of_beq_false jD;refine⟨⟨.inl (aA 0 false 0 [] [] [] []),⟨((λv hv=>by cases hv;exact(iT _))),λw hw=>(by cases hw)⟩⟩,kf ah (rq 6 (oB gq) (rq 4 (oB jD) ([oB (ey (y:=29) gq (by decide)),oB (ey (y:=29) gq (by decide)),oB jD,oB (ey (y:=29) gq (by decide)),oB jD,oC anO])))⟩
    ·have RD:=ne_of_beq_false gq;rcases aK ((bY==29)) with eM|eM
     ·have Ra:=eq_of_beq eM;refine⟨⟨.inl (aA 0 (decide (Uy>0)) 0 [] [] [] []),⟨((λv hv=>by cases hv;exact(iT _))),λw hw=>(by cases hw)⟩⟩,kf ah (rq 6 (oB gq) (rq 4 oF ([oB eM,oB eM,oF,oB eM,oF,wj 94 [.t (.bool (decide (Uy>0)))] (aA 0 (decide (Uy>0)) 0 [] [] [] []) (cE l6 (x:=.bool (decide (Uy>0))) ⟨_,rfl⟩)])))⟩
     ·have Ra:=ne_of_beq_false eM;refine⟨⟨.inl (aA 0 false 0 [] [] [] []),⟨((λv hv=>by cases hv;exact(iT _))),λw hw=>(by cases hw)⟩⟩,kf ah (rq 6 (oB gq) (rq 4 oF ([oB eM,oB eM,oF,oB eM,oF,oC anO])))⟩
  ·have abS:=ne_of_beq_false Bz;refine⟨⟨.inr (7),⟨((λv hv=>by cases hv)),λw hw=>Sum.inr.inj hw▸(show(7:Int)≠0 by decide)⟩⟩,kf ah [oE l7,oC (show ev 52 [.t (aA aY eW jw iu dm bl bF),.t (.int .u8 4)] []=some (aL (.inl (aA aY eW jw iu dm bl bF)) []) from bC _ _ _ (by show some (aL (cond ((aY==4)) _ _) [])=_;rw[oc];rfl)),oE j3,oC (show ev 52 [.t (aA cZ j8 qm qR j9 cK bD),.t (.int .u8 4)] []=some (aL (.inr (7)) []) from bC _ _ _ (by show some (aL (cond ((cZ==4)) _ _) [])=_;rw[Bz];rfl))]⟩
 ·have Ct:=ne_of_beq_false oc;obtain⟨e16,X2⟩:=dn l 1;have Ee:=(h2 e16 (fT X2));obtain⟨afT,anP,aru,arv,anQ,aco,afU,rfl,afV,afW,afX,afY,afZ,af0⟩:=T.aD Ee;refine⟨⟨.inr (7),⟨((λv hv=>by cases hv)),λw hw=>Sum.inr.inj hw▸(show(7:Int)≠0 by decide)⟩⟩,kf ah [oE l7,oC (show ev 52 [.t (aA aY eW jw iu dm bl bF),.t (.int .u8 4)] []=some (aL (.inr (7)) []) from bC _ _ _ (by show some (aL (cond ((aY==4)) _ _) [])=_;rw[oc];rfl)),oE X2]⟩
end
end Go.Proofs.YtfdnciimclnncaaGreatDoor.w.e
