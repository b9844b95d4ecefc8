/- More of it. -/
import Derived.Test.YtnfnihgmankidaaGreatDoorU
import Derived.Test.YtnfnihgmankidaaGreatDoorJ
set_option linter.unusedVariables false
set_option linter.unusedSimpArgs false
namespace Go.Proofs.YtnfnihgmankidaaGreatDoor.w
open Go Go.Abs
set_option maxRecDepth 100000
set_option maxHeartbeats 1000000
noncomputable section
abbrev aej:TI:={size:=1,bytes:=24,agg:=false,zero:=some (.cc),desc:=.slice 5}
theorem GI {m:Int}:(cf m).P.ty 139=some aej:=by kernel_rfl
theorem K3 {m:Int}{ev:aW}(aC:aI (cf m) ev)(n:Int):∃r:Bool,aq (cf m) 165 [.t (.int .u8 n)] [] (.ret (.t (.bool r)) [] []):=by
 refine AX.start 9 1 Tryz.func165 rfl (by decide) rfl rfl (by decide) ?_;refine AX.seq ?_;refine AX.region ?_;refine aG.go (f:=0) aC (aD rfl) ?_;refine aG.nil ?_;refine AX.seq ?_;refine AX.region ?_;refine aG.go (f:=0) aC (az rfl) ?_;refine aG.go (f:=0) aC (Kq rfl rfl) ?_;refine aG.go (f:=0) aC (az rfl) ?_;refine aG.split 5 rfl (λMp=> ?_) (λMp=> ?_)
 ·refine aG.yes (f:=0) aC rfl rfl rfl (eE Mp) (az rfl) ?_;refine aG.yes (f:=0) aC rfl rfl rfl (eE Mp) (Tg rfl rfl) ?_;refine aG.go (f:=0) aC (bq rfl Mp rfl rfl) ?_;refine aG.go (f:=0) aC (aD rfl) ?_;refine aG.nil ?_;refine AX.ret ?_;exact⟨_,.inl rfl⟩
 ·refine aG.no rfl rfl rfl (eG Mp) ?_;refine aG.no rfl rfl rfl (eG Mp) ?_;refine aG.go (f:=0) aC (cZ rfl Mp rfl rfl) ?_;refine aG.go (f:=0) aC (aD rfl) ?_;refine aG.nil ?_;refine AX.ret ?_;exact⟨_,.inl rfl⟩
theorem Rj {m:Int}{ev:aW}(aC:aI (cf m) ev)(n:Int):∃r:Bool,aq (cf m) 168 [.t (.int .u8 n)] [] (.ret (.t (.bool r)) [] []):=by
 refine AX.start 15 1 Tryz.func168 rfl (by decide) rfl rfl (by decide) ?_;refine AX.seq ?_;refine AX.region ?_;refine aG.go (f:=0) aC (aD rfl) ?_;refine aG.nil ?_;refine AX.seq ?_;refine AX.region ?_;refine aG.go (f:=0) aC (az rfl) ?_;refine aG.go (f:=0) aC (fD rfl rfl rfl) ?_;refine aG.go (f:=0) aC (Kq rfl rfl) ?_;refine aG.go (f:=0) aC (az rfl) ?_;refine aG.split 6 rfl (λyd=> ?_) (λyd=> ?_)
 ·refine aG.yes (f:=0) aC rfl rfl rfl (eE yd) (az rfl) ?_;refine aG.yes (f:=0) aC rfl rfl rfl (eE yd) (fD rfl rfl rfl) ?_;refine aG.yes (f:=0) aC rfl rfl rfl (eE yd) (Tg rfl rfl) ?_;refine aG.go (f:=0) aC (bq rfl yd rfl rfl) ?_;refine aG.go (f:=0) aC (az rfl) ?_;refine aG.split 11 rfl (λBj=> ?_) (λBj=> ?_)
  ·refine aG.no rfl rfl rfl (aH Bj) ?_;refine aG.no rfl rfl rfl (aH Bj) ?_;refine aG.go (f:=0) aC (bq rfl Bj rfl rfl) ?_;refine aG.go (f:=0) aC (aD rfl) ?_;refine aG.nil ?_;refine AX.ret ?_;exact⟨_,.inl rfl⟩
  ·refine aG.yes (f:=0) aC rfl rfl rfl (br Bj) (az rfl) ?_;refine aG.yes (f:=0) aC rfl rfl rfl (br Bj) (oq rfl rfl) ?_;refine aG.go (f:=0) aC (cZ rfl Bj rfl rfl) ?_;refine aG.go (f:=0) aC (aD rfl) ?_;refine aG.nil ?_;refine AX.ret ?_;exact⟨_,.inl rfl⟩
 ·refine aG.no rfl rfl rfl (eG yd) ?_;refine aG.no rfl rfl rfl (eG yd) ?_;refine aG.no rfl rfl rfl (eG yd) ?_;refine aG.go (f:=0) aC (cZ rfl yd rfl rfl) ?_;refine aG.go (f:=0) aC (az rfl) ?_;refine aG.yes (f:=0) aC rfl rfl rfl (br rfl) (az rfl) ?_;refine aG.yes (f:=0) aC rfl rfl rfl (br rfl) (oq rfl rfl) ?_;refine aG.go (f:=0) aC (cZ rfl rfl rfl rfl) ?_;refine aG.go (f:=0) aC (aD rfl) ?_;refine aG.nil ?_;refine AX.ret ?_;exact⟨_,.inl rfl⟩
theorem UA {m:Int}{ev:aW}(aC:aI (cf m) ev)(lt dg:Int->Bool)(hL:∀n,ev 168 [.t (.int .u8 n)] []=some (.ret (.t (.bool (lt n))) [] []))(hD:∀n,ev 165 [.t (.int .u8 n)] []=some (.ret (.t (.bool (dg n))) [] []))(n:Int):
 ∃r:Bool,aq (cf m) 167 [.t (.int .u8 n)] [] (.ret (.t (.bool r)) [] []):=by
 refine AX.start 11 1 Tryz.func167 rfl (by decide) rfl rfl (by decide) ?_
 refine AX.seq ?_
 refine AX.region ?_
 refine aG.go (f:=0) aC (aD rfl) ?_
 refine aG.nil ?_
 refine AX.seq ?_
 refine AX.region ?_
 refine aG.go (f:=0) aC (az rfl) ?_
 refine aG.go (f:=0) aC (fN (Ft rfl) (hL _)) ?_
 refine aG.go (f:=0) aC (Kn rfl) ?_
 refine aG.go (f:=0) aC (az rfl) ?_
 refine aG.split 6 rfl (λyd=> ?_) (λyd=> ?_)
 ·refine aG.yes (f:=0) aC rfl rfl rfl (eE yd) (az rfl) ?_;refine aG.yes (f:=0) aC rfl rfl rfl (eE yd) (fN (Ft rfl) (hD _)) ?_;refine aG.yes (f:=0) aC rfl rfl rfl (eE yd) (Kn rfl) ?_;refine aG.go (f:=0) aC (bq rfl yd rfl rfl) ?_;refine aG.go (f:=0) aC (aD rfl) ?_;refine aG.nil ?_;refine AX.ret ?_;exact⟨_,.inl rfl⟩
 ·refine aG.no rfl rfl rfl (eG yd) ?_;refine aG.no rfl rfl rfl (eG yd) ?_;refine aG.no rfl rfl rfl (eG yd) ?_;refine aG.go (f:=0) aC (cZ rfl yd rfl rfl) ?_;refine aG.go (f:=0) aC (aD rfl) ?_;refine aG.nil ?_;refine AX.ret ?_;exact⟨_,.inl rfl⟩
theorem abH {m:Int}{ev:aW}(aC:aI (cf m) ev)(l:List Tree)(hl:l.length<=4194304)(hf:∀e∈l,∃n,e=.int .u8 n)(g:FuncId)(q:Tree->Bool)(hq:∀e∈l,ev g [.t e] []=some (.ret (.t (.bool (q e))) [] [])):
 ∃r:Int,aq (cf m) 211 [.t (.sl l),.t (.fn (.func g))] [] (.ret (.t (.int .i64 r)) [] []):=by
 refine AX.start 19 2 Tryz.func211 rfl (by decide) rfl rfl (by decide) ?_
 refine AX.seq ?_
 refine AX.region ?_
 refine aG.go (f:=0) aC (aD rfl) ?_
 refine aG.nil ?_
 refine AX.seq ?_
 refine AX.seq ?_
 refine AX.region ?_
 refine aG.go (f:=0) aC (az rfl) ?_
 refine aG.go (f:=0) aC ((by first|exact um rfl GI rfl|exact MN rfl GI rfl|exact MO rfl GI rfl|exact MQ rfl GI rfl)) ?_
 refine aG.go (f:=0) aC (az rfl) ?_
 refine aG.nil ?_
 refine AX.block ?_
 refine AX.loop (α:=Nat) (λi=>⟨ei 19 [(0,.t (.sl l)),(1,.t (.fn (.func g))),(7,.t (.int .i64 l.length)),(8,.t (.int .i64 i))],[],0⟩) (λi=>i<=l.length) (λi=>l.length - i) 0 (Re.sq [] ⟨rfl,rfl,rfl,rfl,trivial⟩ trivial (by decide) rfl rfl (by decide)) (Nat.zero_le _) (λi hok=> ?_)
 replace hok:i<=l.length:=hok
 refine AX.seq ?_
 refine AX.region ?_
 refine aG.go (f:=0) aC (mD rfl rfl) ?_
 refine aG.nil ?_
 refine AX.seq ?_
 refine AX.cond rfl (λh9=> ?_) (λh9=> ?_)
 ·have hlt:i<l.length:=by have:=of_decide_eq_true h9;omega
  obtain⟨e,he⟩:∃e,l[i]?=some e:=⟨l[i],List.getElem?_eq_getElem hlt⟩;obtain⟨n,rfl⟩:=hf e (List.mem_of_getElem? he);refine AX.skip ?_;refine AX.seq ?_;refine AX.block ?_;refine AX.seq ?_;refine AX.region ?_;refine aG.go (f:=0) aC (az rfl) ?_;refine aG.go (f:=0) aC (aD rfl) ?_;refine aG.nil ?_;refine AX.seq ?_;refine AX.region ?_;refine aG.go (f:=0) aC (az rfl) ?_;refine aG.go (f:=0) aC (az rfl) ?_;refine aG.go (f:=0) aC (az rfl) ?_;refine aG.go (f:=0) aC (DI rfl rfl GI rfl JH he rfl) ?_;refine aG.go (f:=0) aC ((by first|exact er rfl (ld JH rfl rfl)|exact iW rfl (ld JH rfl rfl))) ?_;refine aG.go (f:=0) aC (O0 rfl (Ft rfl) (hq _ (List.mem_of_getElem? he))) ?_;refine aG.nil ?_;refine AX.cond rfl (λh16=> ?_) (λh16=> ?_)
  ·skip;refine AX.seq ?_;refine AX.region ?_;refine aG.go (f:=0) aC (az rfl) ?_;refine aG.go (f:=0) aC (aD rfl) ?_;refine aG.nil ?_;refine AX.ret ?_;refine AX.bL ?_;refine AX.bR ?_;refine AX.leave (e:=.ret) (by simp) ?_;refine AX.bL ?_;refine AX.bR ?_;exact⟨_,.inl rfl⟩
  ·skip;refine AX.skip ?_;refine AX.jA ?_;refine AX.region ?_;refine aG.go (f:=0) aC (Ig rfl rfl (by omega) (by omega)) ?_;refine aG.go (f:=0) aC (az rfl) ?_;refine aG.nil ?_;exact⟨.inl ⟨i+1,by show i+1<=_/\l.length - (i+1)<l.length - i;omega⟩,rfl,(Re.sq [] ⟨rfl,rfl,rfl,rfl,trivial⟩ trivial (by decide) rfl rfl (by decide))⟩
 ·skip;refine AX.exit ?_;refine AX.jw ?_;refine AX.leave (e:=.exit 0) (by simp) ?_;refine AX.k5 ?_;refine AX.seq ?_;refine AX.region ?_;refine aG.go (f:=0) aC (aD rfl) ?_;refine aG.nil ?_;refine AX.ret ?_;exact⟨_,.inl rfl⟩
theorem abI {m:Int}{ev:aW}(aC:aI (cf m) ev)(x y:Tree)(z:Int)(hI:ev 211 [.t x,.t y] []=some (.ret (.t (.int .i64 z)) [] [])):
 ∃r:Bool,aq (cf m) 166 [.t x,.t y] [] (.ret (.t (.bool r)) [] []):=by
 refine AX.start 9 2 Tryz.func166 rfl (by decide) rfl rfl (by decide) ?_
 refine AX.seq ?_
 refine AX.region ?_
 refine aG.go (f:=0) aC (aD rfl) ?_
 refine aG.nil ?_
 refine AX.seq ?_
 refine AX.region ?_
 refine aG.go (f:=0) aC (az rfl) ?_
 refine aG.go (f:=0) aC (az rfl) ?_
 refine aG.go (f:=0) aC (fN (rh2 rfl rfl) hI) ?_
 refine aG.go (f:=0) aC (Kq rfl rfl) ?_
 refine aG.go (f:=0) aC (aD rfl) ?_
 refine aG.nil ?_
 refine AX.ret ?_
 exact⟨_,.inl rfl⟩
theorem abJ {m:Int}{ev:aW}(aC:aI (cf m) ev)(l:List Tree)(hl:l.length<=4194304)(hf:∀e∈l,∃u,e=.str u)(g:FuncId)(q:Tree->Bool)(hq:∀e∈l,ev g [.t e] []=some (.ret (.t (.bool (q e))) [] [])):
 ∃r:Int,aq (cf m) 171 [.t (.sl l),.t (.fn (.func g))] [] (.ret (.t (.int .i64 r)) [] []):=by
 refine AX.start 19 2 Tryz.func171 rfl (by decide) rfl rfl (by decide) ?_
 refine AX.seq ?_
 refine AX.region ?_
 refine aG.go (f:=0) aC (aD rfl) ?_
 refine aG.nil ?_
 refine AX.seq ?_
 refine AX.seq ?_
 refine AX.region ?_
 refine aG.go (f:=0) aC (az rfl) ?_
 refine aG.go (f:=0) aC ((by first|exact um rfl pG rfl|exact MN rfl pG rfl|exact MO rfl pG rfl|exact MQ rfl pG rfl)) ?_
 refine aG.go (f:=0) aC (az rfl) ?_
 refine aG.nil ?_
 refine AX.block ?_
 refine AX.loop (α:=Nat) (λi=>⟨ei 19 [(0,.t (.sl l)),(1,.t (.fn (.func g))),(7,.t (.int .i64 l.length)),(8,.t (.int .i64 i))],[],0⟩) (λi=>i<=l.length) (λi=>l.length - i) 0 (Re.sq [] ⟨rfl,rfl,rfl,rfl,trivial⟩ trivial (by decide) rfl rfl (by decide)) (Nat.zero_le _) (λi hok=> ?_)
 replace hok:i<=l.length:=hok
 refine AX.seq ?_
 refine AX.region ?_
 refine aG.go (f:=0) aC (mD rfl rfl) ?_
 refine aG.nil ?_
 refine AX.seq ?_
 refine AX.cond rfl (λh9=> ?_) (λh9=> ?_)
 ·have hlt:i<l.length:=by have:=of_decide_eq_true h9;omega
  obtain⟨e,he⟩:∃e,l[i]?=some e:=⟨l[i],List.getElem?_eq_getElem hlt⟩;obtain⟨u,rfl⟩:=hf e (List.mem_of_getElem? he);refine AX.skip ?_;refine AX.seq ?_;refine AX.block ?_;refine AX.seq ?_;refine AX.region ?_;refine aG.go (f:=0) aC (az rfl) ?_;refine aG.go (f:=0) aC (aD rfl) ?_;refine aG.nil ?_;refine AX.seq ?_;refine AX.region ?_;refine aG.go (f:=0) aC (az rfl) ?_;refine aG.go (f:=0) aC (az rfl) ?_;refine aG.go (f:=0) aC (az rfl) ?_;refine aG.go (f:=0) aC (DI rfl rfl pG rfl nh he rfl) ?_;refine aG.go (f:=0) aC ((by first|exact er rfl (ld nh rfl rfl)|exact iW rfl (ld nh rfl rfl))) ?_;refine aG.go (f:=0) aC (O0 rfl (Ft rfl) (hq _ (List.mem_of_getElem? he))) ?_;refine aG.nil ?_;refine AX.cond rfl (λh16=> ?_) (λh16=> ?_)
  ·skip;refine AX.seq ?_;refine AX.region ?_;refine aG.go (f:=0) aC (az rfl) ?_;refine aG.go (f:=0) aC (aD rfl) ?_;refine aG.nil ?_;refine AX.ret ?_;refine AX.bL ?_;refine AX.bR ?_;refine AX.leave (e:=.ret) (by simp) ?_;refine AX.bL ?_;refine AX.bR ?_;exact⟨_,.inl rfl⟩
  ·skip;refine AX.skip ?_;refine AX.jA ?_;refine AX.region ?_;refine aG.go (f:=0) aC (Ig rfl rfl (by omega) (by omega)) ?_;refine aG.go (f:=0) aC (az rfl) ?_;refine aG.nil ?_;exact⟨.inl ⟨i+1,by show i+1<=_/\l.length - (i+1)<l.length - i;omega⟩,rfl,(Re.sq [] ⟨rfl,rfl,rfl,rfl,trivial⟩ trivial (by decide) rfl rfl (by decide))⟩
 ·skip;refine AX.exit ?_;refine AX.jw ?_;refine AX.leave (e:=.exit 0) (by simp) ?_;refine AX.k5 ?_;refine AX.seq ?_;refine AX.region ?_;refine aG.go (f:=0) aC (aD rfl) ?_;refine aG.nil ?_;refine AX.ret ?_;exact⟨_,.inl rfl⟩
theorem abK {m:Int}{ev:aW}(aC:aI (cf m) ev)(x y:Tree)(z:Int)(hI:ev 171 [.t x,.t y] []=some (.ret (.t (.int .i64 z)) [] [])):
 ∃r:Bool,aq (cf m) 114 [.t x,.t y] [] (.ret (.t (.bool r)) [] []):=by
 refine AX.start 9 2 Tryz.func114 rfl (by decide) rfl rfl (by decide) ?_
 refine AX.seq ?_
 refine AX.region ?_
 refine aG.go (f:=0) aC (aD rfl) ?_
 refine aG.nil ?_
 refine AX.seq ?_
 refine AX.region ?_
 refine aG.go (f:=0) aC (az rfl) ?_
 refine aG.go (f:=0) aC (az rfl) ?_
 refine aG.go (f:=0) aC (fN (rh2 rfl rfl) hI) ?_
 refine aG.go (f:=0) aC (Kq rfl rfl) ?_
 refine aG.go (f:=0) aC (aD rfl) ?_
 refine aG.nil ?_
 refine AX.ret ?_
 exact⟨_,.inl rfl⟩
theorem abL {m:Int}{ev:aW}(aC:aI (cf m) ev)(l:List Tree)(hl:l.length<=4194304)(hf:∀e∈l,∃u,e=.str u)(v:List UInt8):
 ∃r:Int,aq (cf m) 146 [.t (.sl l),.t (.str v)] [] (.ret (.t (.int .i64 r)) [] []):=by
 refine AX.start 19 2 Tryz.func146 rfl (by decide) rfl rfl (by decide) ?_
 refine AX.seq ?_
 refine AX.region ?_
 refine aG.go (f:=0) aC (aD rfl) ?_
 refine aG.nil ?_
 refine AX.seq ?_
 refine AX.seq ?_
 refine AX.region ?_
 refine aG.go (f:=0) aC (az rfl) ?_
 refine aG.go (f:=0) aC ((by first|exact um rfl pG rfl|exact MN rfl pG rfl|exact MO rfl pG rfl|exact MQ rfl pG rfl)) ?_
 refine aG.go (f:=0) aC (az rfl) ?_
 refine aG.nil ?_
 refine AX.block ?_
 refine AX.loop (α:=Nat) (λi=>⟨ei 19 [(0,.t (.sl l)),(1,.t (.str v)),(7,.t (.int .i64 l.length)),(8,.t (.int .i64 i))],[],0⟩) (λi=>i<=l.length) (λi=>l.length - i) 0 (Re.sq [] ⟨rfl,rfl,rfl,rfl,trivial⟩ trivial (by decide) rfl rfl (by decide)) (Nat.zero_le _) (λi hok=> ?_)
 replace hok:i<=l.length:=hok
 refine AX.seq ?_
 refine AX.region ?_
 refine aG.go (f:=0) aC (mD rfl rfl) ?_
 refine aG.nil ?_
 refine AX.seq ?_
 refine AX.cond rfl (λh9=> ?_) (λh9=> ?_)
 ·have hlt:i<l.length:=by have:=of_decide_eq_true h9;omega
  obtain⟨e,he⟩:∃e,l[i]?=some e:=⟨l[i],List.getElem?_eq_getElem hlt⟩;obtain⟨u,rfl⟩:=hf e (List.mem_of_getElem? he);refine AX.skip ?_;refine AX.seq ?_;refine AX.block ?_;refine AX.seq ?_;refine AX.region ?_;refine aG.go (f:=0) aC (az rfl) ?_;refine aG.go (f:=0) aC (aD rfl) ?_;refine aG.nil ?_;refine AX.seq ?_;refine AX.region ?_;refine aG.go (f:=0) aC (az rfl) ?_;refine aG.go (f:=0) aC (az rfl) ?_;refine aG.go (f:=0) aC (az rfl) ?_;refine aG.go (f:=0) aC (DI rfl rfl pG rfl nh he rfl) ?_;refine aG.go (f:=0) aC ((by first|exact er rfl (ld nh rfl rfl)|exact iW rfl (ld nh rfl rfl))) ?_;refine aG.go (f:=0) aC (Z1 rfl rfl) ?_;refine aG.nil ?_;refine AX.cond rfl (λh16=> ?_) (λh16=> ?_)
  ·skip;refine AX.seq ?_;refine AX.region ?_;refine aG.go (f:=0) aC (az rfl) ?_;refine aG.go (f:=0) aC (aD rfl) ?_;refine aG.nil ?_;refine AX.ret ?_;refine AX.bL ?_;refine AX.bR ?_;refine AX.leave (e:=.ret) (by simp) ?_;refine AX.bL ?_;refine AX.bR ?_;exact⟨_,.inl rfl⟩
  ·skip;refine AX.skip ?_;refine AX.jA ?_;refine AX.region ?_;refine aG.go (f:=0) aC (Ig rfl rfl (by omega) (by omega)) ?_;refine aG.go (f:=0) aC (az rfl) ?_;refine aG.nil ?_;exact⟨.inl ⟨i+1,by show i+1<=_/\l.length - (i+1)<l.length - i;omega⟩,rfl,(Re.sq [] ⟨rfl,rfl,rfl,rfl,trivial⟩ trivial (by decide) rfl rfl (by decide))⟩
 ·skip;refine AX.exit ?_;refine AX.jw ?_;refine AX.leave (e:=.exit 0) (by simp) ?_;refine AX.k5 ?_;refine AX.seq ?_;refine AX.region ?_;refine aG.go (f:=0) aC (aD rfl) ?_;refine aG.nil ?_;refine AX.ret ?_;exact⟨_,.inl rfl⟩
theorem abM {m:Int}{ev:aW}(aC:aI (cf m) ev)(x y:Tree)(z:Int)(hI:ev 146 [.t x,.t y] []=some (.ret (.t (.int .i64 z)) [] [])):
 ∃r:Bool,aq (cf m) 95 [.t x,.t y] [] (.ret (.t (.bool r)) [] []):=by
 refine AX.start 9 2 Tryz.func95 rfl (by decide) rfl rfl (by decide) ?_
 refine AX.seq ?_
 refine AX.region ?_
 refine aG.go (f:=0) aC (aD rfl) ?_
 refine aG.nil ?_
 refine AX.seq ?_
 refine AX.region ?_
 refine aG.go (f:=0) aC (az rfl) ?_
 refine aG.go (f:=0) aC (az rfl) ?_
 refine aG.go (f:=0) aC (fN (rh2 rfl rfl) hI) ?_
 refine aG.go (f:=0) aC (Kq rfl rfl) ?_
 refine aG.go (f:=0) aC (aD rfl) ?_
 refine aG.nil ?_
 refine AX.ret ?_
 exact⟨_,.inl rfl⟩
theorem Ys {s:List UInt8}(h:(s==[])=false):∃b s',s=b::s':=by
 cases s with
 |nil=>simp at h
 |cons b s'=>exact⟨b,s',rfl⟩
theorem Yt {m:Int}{ev:aW}(aC:aI (cf m) ev)(dg:Int->Bool)(cw nb:List UInt8->Bool)(hF:ev 164 [.t (.str Tv)] []=some (.ret (.t (.sl (wm.map .str))) [] []))(hD:∀n,ev 165 [.t (.int .u8 n)] []=some (.ret (.t (.bool (dg n))) [] []))
 (hC:∀s,ev 95 [.t (.sl (wm.map .str)),.t (.str s)] []=some (.ret (.t (.bool (cw s))) [] []))(hB:∀s:List UInt8,s.length<=64->ev 166 [.t (.sl (s.map λb=>.int .u8 b.toNat)),.t (.fn (.func 167))] []=some (.ret (.t (.bool (nb s))) [] []))(s:List UInt8):
 ∃r:Bool,aq (cf m) 108 [.t (.str s)] [] (.ret (.t (.bool r)) [] []):=by
 refine AX.start 26 1 Tryz.func108 rfl (by decide) rfl rfl (by decide) ?_
 refine AX.seq ?_
 refine AX.region ?_
 refine aG.go (f:=0) aC (aD rfl) ?_
 refine aG.nil ?_
 refine AX.seq ?_
 refine AX.region ?_
 refine aG.go (f:=0) aC (fN (Ft rfl) hF) ?_
 refine aG.go (f:=0) aC (aD rfl) ?_
 refine aG.nil ?_
 refine AX.seq ?_
 refine AX.seq ?_
 refine AX.region ?_
 refine aG.go (f:=0) aC (az rfl) ?_
 refine aG.go (f:=0) aC (Z1 rfl rfl) ?_
 refine aG.go (f:=0) aC (az rfl) ?_
 refine aG.split 7 rfl (λXm=> ?_) (λXm=> ?_)
 ·skip;refine aG.no rfl rfl rfl (aH Xm) ?_;refine aG.no rfl rfl rfl (aH Xm) ?_;refine aG.no rfl rfl rfl (aH Xm) ?_;refine aG.go (f:=0) aC (bq rfl Xm rfl rfl) ?_;refine aG.go (f:=0) aC (az rfl) ?_;refine aG.no rfl rfl rfl (aH rfl) ?_;refine aG.no rfl rfl rfl (aH rfl) ?_;refine aG.no rfl rfl rfl (aH rfl) ?_;refine aG.go (f:=0) aC (bq rfl rfl rfl rfl) ?_;refine aG.go (f:=0) aC (az rfl) ?_;refine aG.no rfl rfl rfl (aH rfl) ?_;refine aG.no rfl rfl rfl (aH rfl) ?_;refine aG.no rfl rfl rfl (aH rfl) ?_;refine aG.go (f:=0) aC (bq rfl rfl rfl rfl) ?_;refine aG.nil ?_;refine AX.ng rfl rfl ?_;refine AX.seq ?_;refine AX.region ?_;refine aG.go (f:=0) aC (aD rfl) ?_;refine aG.nil ?_;refine AX.ret ?_;refine AX.bR ?_;exact⟨_,.inl rfl⟩
 ·obtain⟨b,s',rfl⟩:=Ys Xm;refine aG.yes (f:=0) aC rfl rfl rfl (br Xm) (az rfl) ?_;refine aG.yes (f:=0) aC rfl rfl rfl (br Xm) (uk rfl nh rfl) ?_;refine aG.yes (f:=0) aC rfl rfl rfl (br Xm) (Ko rfl rfl) ?_;refine aG.go (f:=0) aC (cZ rfl Xm rfl rfl) ?_;refine aG.go (f:=0) aC (az rfl) ?_;refine aG.split 12 rfl (λFM=> ?_) (λFM=> ?_)
  ·skip;refine aG.no rfl rfl rfl (aH FM) ?_;refine aG.no rfl rfl rfl (aH FM) ?_;refine aG.no rfl rfl rfl (aH FM) ?_;refine aG.go (f:=0) aC (bq rfl FM rfl rfl) ?_;refine aG.go (f:=0) aC (az rfl) ?_;refine aG.no rfl rfl rfl (aH rfl) ?_;refine aG.no rfl rfl rfl (aH rfl) ?_;refine aG.no rfl rfl rfl (aH rfl) ?_;refine aG.go (f:=0) aC (bq rfl rfl rfl rfl) ?_;refine aG.nil ?_;refine AX.ng rfl rfl ?_;refine AX.seq ?_;refine AX.region ?_;refine aG.go (f:=0) aC (aD rfl) ?_;refine aG.nil ?_;refine AX.ret ?_;refine AX.bR ?_;exact⟨_,.inl rfl⟩
  ·have Xn:(b::s').length<=64:=by have:=of_decide_eq_false FM;omega
   refine aG.yes (f:=0) aC rfl rfl rfl (br FM) (az rfl) ?_;refine aG.yes (f:=0) aC rfl rfl rfl (br FM) (gU rfl rfl nh rfl rfl) ?_;refine aG.yes (f:=0) aC rfl rfl rfl (br FM) (fN (Ft rfl) (hD _)) ?_;refine aG.go (f:=0) aC (cZ rfl FM rfl rfl) ?_;refine aG.go (f:=0) aC (az rfl) ?_;refine aG.split 17 rfl (λoD=> ?_) (λoD=> ?_)
   ·skip;refine aG.no rfl rfl rfl (aH oD) ?_;refine aG.no rfl rfl rfl (aH oD) ?_;refine aG.no rfl rfl rfl (aH oD) ?_;refine aG.go (f:=0) aC (bq rfl oD rfl rfl) ?_;refine aG.nil ?_;refine AX.ng rfl rfl ?_;refine AX.seq ?_;refine AX.region ?_;refine aG.go (f:=0) aC (aD rfl) ?_;refine aG.nil ?_;refine AX.ret ?_;refine AX.bR ?_;exact⟨_,.inl rfl⟩
   ·skip;refine aG.yes (f:=0) aC rfl rfl rfl (br oD) (az rfl) ?_;refine aG.yes (f:=0) aC rfl rfl rfl (br oD) (az rfl) ?_;refine aG.yes (f:=0) aC rfl rfl rfl (br oD) (fN (rh2 rfl rfl) (hC _)) ?_;refine aG.go (f:=0) aC (cZ rfl oD rfl rfl) ?_;refine aG.nil ?_;refine AX.cond rfl (λh21=> ?_) (λh21=> ?_)
    ·skip;refine AX.seq ?_;refine AX.region ?_;refine aG.go (f:=0) aC (aD rfl) ?_;refine aG.nil ?_;refine AX.ret ?_;refine AX.bR ?_;exact⟨_,.inl rfl⟩
    ·skip;refine AX.skip ?_;refine AX.seq ?_;refine AX.region ?_;refine aG.go (f:=0) aC (az rfl) ?_;refine aG.go (f:=0) aC (XZ rfl rfl nh rfl GI rfl JH rfl) ?_;refine aG.go (f:=0) aC (fN (rh2 rfl rfl) (hB _ Xn)) ?_;refine aG.go (f:=0) aC (Kn rfl) ?_;refine aG.go (f:=0) aC (aD rfl) ?_;refine aG.nil ?_;refine AX.ret ?_;exact⟨_,.inl rfl⟩
theorem IZ {m:Int}{ev:aW}(aC:aI (cf m) ev)(nm:List UInt8->Bool)(hN:∀s,ev 108 [.t (.str s)] []=some (.ret (.t (.bool (nm s))) [] []))(s:List UInt8):
 ∃r:Bool,aq (cf m) 116 [.t (.str s)] [] (.ret (.t (.bool r)) [] []):=by
 refine AX.start 6 1 Tryz.func116 rfl (by decide) rfl rfl (by decide) ?_
 refine AX.seq ?_
 refine AX.region ?_
 refine aG.go (f:=0) aC (aD rfl) ?_
 refine aG.nil ?_
 refine AX.seq ?_
 refine AX.region ?_
 refine aG.go (f:=0) aC (az rfl) ?_
 refine aG.go (f:=0) aC (fN (Ft rfl) (hN _)) ?_
 refine aG.go (f:=0) aC (Kn rfl) ?_
 refine aG.go (f:=0) aC (aD rfl) ?_
 refine aG.nil ?_
 refine AX.ret ?_
 exact⟨_,.inl rfl⟩
theorem K4 {m:Int}{ev:aW}(aC:aI (cf m) ev)(pc:List UInt8->List (List UInt8))(ct:List UInt8->Bool)(hS:∀s:List UInt8,s.length<=64->ev 115 [.t (.str s),.t (.str [58,58])] []=some (.ret (.t (.sl ((pc s).map .str))) [] []))
 (hC:∀s:List UInt8,s.length<=64->ev 114 [.t (.sl ((pc s).map .str)),.t (.fn (.func 116))] []=some (.ret (.t (.bool (ct s))) [] []))(s:List UInt8):
 ∃r:Bool,aq (cf m) 76 [.t (.str s)] [] (.ret (.t (.bool r)) [] []):=by
 refine AX.start 12 1 Tryz.func76 rfl (by decide) rfl rfl (by decide) ?_
 refine AX.seq ?_
 refine AX.region ?_
 refine aG.go (f:=0) aC (aD rfl) ?_
 refine aG.nil ?_
 refine AX.seq ?_
 refine AX.region ?_
 refine aG.go (f:=0) aC (az rfl) ?_
 refine aG.go (f:=0) aC (uk rfl nh rfl) ?_
 refine aG.go (f:=0) aC (Tg rfl rfl) ?_
 refine aG.go (f:=0) aC (az rfl) ?_
 refine aG.split 6 rfl (λyd=> ?_) (λyd=> ?_)
 ·have Xn:s.length<=64:=by have:=of_decide_eq_true yd;omega
  refine aG.yes (f:=0) aC rfl rfl rfl (eE yd) (az rfl) ?_;refine aG.yes (f:=0) aC rfl rfl rfl (eE yd) (fN (rh2 rfl rfl) (hS _ Xn)) ?_;refine aG.yes (f:=0) aC rfl rfl rfl (eE yd) (fN (rh2 rfl rfl) (hC _ Xn)) ?_;refine aG.yes (f:=0) aC rfl rfl rfl (eE yd) (Kn rfl) ?_;refine aG.go (f:=0) aC (bq rfl yd rfl rfl) ?_;refine aG.go (f:=0) aC (aD rfl) ?_;refine aG.nil ?_;refine AX.ret ?_;exact⟨_,.inl rfl⟩
 ·skip;refine aG.no rfl rfl rfl (eG yd) ?_;refine aG.no rfl rfl rfl (eG yd) ?_;refine aG.no rfl rfl rfl (eG yd) ?_;refine aG.no rfl rfl rfl (eG yd) ?_;refine aG.go (f:=0) aC (cZ rfl yd rfl rfl) ?_;refine aG.go (f:=0) aC (aD rfl) ?_;refine aG.nil ?_;refine AX.ret ?_;exact⟨_,.inl rfl⟩
end
end Go.Proofs.YtnfnihgmankidaaGreatDoor.w
