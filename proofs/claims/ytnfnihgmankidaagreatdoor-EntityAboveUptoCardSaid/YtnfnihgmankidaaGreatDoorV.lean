/- More of it. -/
import Derived.Test.YtnfnihgmankidaaGreatDoorU
import Derived.Test.YtnfnihgmankidaaGreatDoorJ
set_option linter.unusedVariables false
set_option linter.unusedSimpArgs false
namespace Go.Proofs.YtnfnihgmankidaaGreatDoor.w
open Go Go.Abs
set_option maxRecDepth 100000
set_option maxHeartbeats 1000000
noncomputable section
abbrev adQ:TI:={size:=1,bytes:=24,agg:=false,zero:=some (.bX),desc:=.slice 5}
theorem GB {m:Int}:(cf m).P.ty 139=some adQ:=by kernel_rfl
theorem KD {m:Int}{ev:aT}(aC:aF (cf m) ev)(n:Int):∃r:Bool,aq (cf m) 165 [.t (.int .u8 n)] [] (.ret (.t (.bool r)) [] []):=by
 refine AX.start 9 1 Tryz.func165 rfl (by decide) rfl rfl (by decide) ?_;refine AX.seq ?_;refine AX.region ?_;refine aG.go (f:=0) aC (az rfl) ?_;refine aG.nil ?_;refine AX.seq ?_;refine AX.region ?_;refine aG.go (f:=0) aC (av rfl) ?_;refine aG.go (f:=0) aC (J2 rfl rfl) ?_;refine aG.go (f:=0) aC (av rfl) ?_;refine aG.split 5 rfl (λL4=> ?_) (λL4=> ?_)
 ·refine aG.yes (f:=0) aC rfl rfl rfl (eu L4) (av rfl) ?_;refine aG.yes (f:=0) aC rfl rfl rfl (eu L4) (S9 rfl rfl) ?_;refine aG.go (f:=0) aC (bD rfl L4 rfl rfl) ?_;refine aG.go (f:=0) aC (az rfl) ?_;refine aG.nil ?_;refine AX.ret ?_;exact⟨_,.inl rfl⟩
 ·refine aG.no rfl rfl rfl (ew L4) ?_;refine aG.no rfl rfl rfl (ew L4) ?_;refine aG.go (f:=0) aC (er rfl L4 rfl rfl) ?_;refine aG.go (f:=0) aC (az rfl) ?_;refine aG.nil ?_;refine AX.ret ?_;exact⟨_,.inl rfl⟩
theorem Ri {m:Int}{ev:aT}(aC:aF (cf m) ev)(n:Int):∃r:Bool,aq (cf m) 168 [.t (.int .u8 n)] [] (.ret (.t (.bool r)) [] []):=by
 refine AX.start 15 1 Tryz.func168 rfl (by decide) rfl rfl (by decide) ?_;refine AX.seq ?_;refine AX.region ?_;refine aG.go (f:=0) aC (az rfl) ?_;refine aG.nil ?_;refine AX.seq ?_;refine AX.region ?_;refine aG.go (f:=0) aC (av rfl) ?_;refine aG.go (f:=0) aC (fA rfl rfl rfl) ?_;refine aG.go (f:=0) aC (J2 rfl rfl) ?_;refine aG.go (f:=0) aC (av rfl) ?_;refine aG.split 6 rfl (λxB=> ?_) (λxB=> ?_)
 ·refine aG.yes (f:=0) aC rfl rfl rfl (eu xB) (av rfl) ?_;refine aG.yes (f:=0) aC rfl rfl rfl (eu xB) (fA rfl rfl rfl) ?_;refine aG.yes (f:=0) aC rfl rfl rfl (eu xB) (S9 rfl rfl) ?_;refine aG.go (f:=0) aC (bD rfl xB rfl rfl) ?_;refine aG.go (f:=0) aC (av rfl) ?_;refine aG.split 11 rfl (λAI=> ?_) (λAI=> ?_)
  ·refine aG.no rfl rfl rfl (aN AI) ?_;refine aG.no rfl rfl rfl (aN AI) ?_;refine aG.go (f:=0) aC (bD rfl AI rfl rfl) ?_;refine aG.go (f:=0) aC (az rfl) ?_;refine aG.nil ?_;refine AX.ret ?_;exact⟨_,.inl rfl⟩
  ·refine aG.yes (f:=0) aC rfl rfl rfl (ck AI) (av rfl) ?_;refine aG.yes (f:=0) aC rfl rfl rfl (ck AI) (nB rfl rfl) ?_;refine aG.go (f:=0) aC (er rfl AI rfl rfl) ?_;refine aG.go (f:=0) aC (az rfl) ?_;refine aG.nil ?_;refine AX.ret ?_;exact⟨_,.inl rfl⟩
 ·refine aG.no rfl rfl rfl (ew xB) ?_;refine aG.no rfl rfl rfl (ew xB) ?_;refine aG.no rfl rfl rfl (ew xB) ?_;refine aG.go (f:=0) aC (er rfl xB rfl rfl) ?_;refine aG.go (f:=0) aC (av rfl) ?_;refine aG.yes (f:=0) aC rfl rfl rfl (ck rfl) (av rfl) ?_;refine aG.yes (f:=0) aC rfl rfl rfl (ck rfl) (nB rfl rfl) ?_;refine aG.go (f:=0) aC (er rfl rfl rfl rfl) ?_;refine aG.go (f:=0) aC (az rfl) ?_;refine aG.nil ?_;refine AX.ret ?_;exact⟨_,.inl rfl⟩
theorem Uw {m:Int}{ev:aT}(aC:aF (cf m) ev)(lt dg:Int->Bool)(hL:∀n,ev 168 [.t (.int .u8 n)] []=some (.ret (.t (.bool (lt n))) [] []))(hD:∀n,ev 165 [.t (.int .u8 n)] []=some (.ret (.t (.bool (dg n))) [] []))(n:Int):
 ∃r:Bool,aq (cf m) 167 [.t (.int .u8 n)] [] (.ret (.t (.bool r)) [] []):=by
 refine AX.start 11 1 Tryz.func167 rfl (by decide) rfl rfl (by decide) ?_
 refine AX.seq ?_
 refine AX.region ?_
 refine aG.go (f:=0) aC (az rfl) ?_
 refine aG.nil ?_
 refine AX.seq ?_
 refine AX.region ?_
 refine aG.go (f:=0) aC (av rfl) ?_
 refine aG.go (f:=0) aC (fe (Fs rfl) (hL _)) ?_
 refine aG.go (f:=0) aC (JZ rfl) ?_
 refine aG.go (f:=0) aC (av rfl) ?_
 refine aG.split 6 rfl (λxB=> ?_) (λxB=> ?_)
 ·refine aG.yes (f:=0) aC rfl rfl rfl (eu xB) (av rfl) ?_;refine aG.yes (f:=0) aC rfl rfl rfl (eu xB) (fe (Fs rfl) (hD _)) ?_;refine aG.yes (f:=0) aC rfl rfl rfl (eu xB) (JZ rfl) ?_;refine aG.go (f:=0) aC (bD rfl xB rfl rfl) ?_;refine aG.go (f:=0) aC (az rfl) ?_;refine aG.nil ?_;refine AX.ret ?_;exact⟨_,.inl rfl⟩
 ·refine aG.no rfl rfl rfl (ew xB) ?_;refine aG.no rfl rfl rfl (ew xB) ?_;refine aG.no rfl rfl rfl (ew xB) ?_;refine aG.go (f:=0) aC (er rfl xB rfl rfl) ?_;refine aG.go (f:=0) aC (az rfl) ?_;refine aG.nil ?_;refine AX.ret ?_;exact⟨_,.inl rfl⟩
theorem abk {m:Int}{ev:aT}(aC:aF (cf m) ev)(l:List Tree)(hl:l.length<=4194304)(hf:∀e∈l,∃n,e=.int .u8 n)(g:FuncId)(q:Tree->Bool)(hq:∀e∈l,ev g [.t e] []=some (.ret (.t (.bool (q e))) [] [])):
 ∃r:Int,aq (cf m) 211 [.t (.sl l),.t (.fn (.func g))] [] (.ret (.t (.int .i64 r)) [] []):=by
 refine AX.start 19 2 Tryz.func211 rfl (by decide) rfl rfl (by decide) ?_
 refine AX.seq ?_
 refine AX.region ?_
 refine aG.go (f:=0) aC (az rfl) ?_
 refine aG.nil ?_
 refine AX.seq ?_
 refine AX.seq ?_
 refine AX.region ?_
 refine aG.go (f:=0) aC (av rfl) ?_
 refine aG.go (f:=0) aC ((by first|exact Mv rfl GB rfl|exact Mw rfl GB rfl|exact Mx rfl GB rfl|exact My rfl GB rfl)) ?_
 refine aG.go (f:=0) aC (av rfl) ?_
 refine aG.nil ?_
 refine AX.block ?_
 refine AX.loop (α:=Nat) (λi=>⟨dU 19 [(0,.t (.sl l)),(1,.t (.fn (.func g))),(7,.t (.int .i64 l.length)),(8,.t (.int .i64 i))],[],0⟩) (λi=>i<=l.length) (λi=>l.length - i) 0 (Re.sq [] ⟨rfl,rfl,rfl,rfl,trivial⟩ trivial (by decide) rfl rfl (by decide)) (Nat.zero_le _) (λi hok=> ?_)
 replace hok:i<=l.length:=hok
 refine AX.seq ?_
 refine AX.region ?_
 refine aG.go (f:=0) aC (lQ rfl rfl) ?_
 refine aG.nil ?_
 refine AX.seq ?_
 refine AX.cond rfl (λh9=> ?_) (λh9=> ?_)
 ·have hlt:i<l.length:=by have:=of_decide_eq_true h9;omega
  obtain⟨e,he⟩:∃e,l[i]?=some e:=⟨l[i],List.getElem?_eq_getElem hlt⟩;obtain⟨n,rfl⟩:=hf e (List.mem_of_getElem? he);refine AX.skip ?_;refine AX.seq ?_;refine AX.block ?_;refine AX.seq ?_;refine AX.region ?_;refine aG.go (f:=0) aC (av rfl) ?_;refine aG.go (f:=0) aC (az rfl) ?_;refine aG.nil ?_;refine AX.seq ?_;refine AX.region ?_;refine aG.go (f:=0) aC (av rfl) ?_;refine aG.go (f:=0) aC (av rfl) ?_;refine aG.go (f:=0) aC (av rfl) ?_;refine aG.go (f:=0) aC (Dt rfl rfl GB rfl Jo he rfl) ?_;refine aG.go (f:=0) aC ((by first|exact iY rfl (ld Jo rfl rfl)|exact j8 rfl (ld Jo rfl rfl))) ?_;refine aG.go (f:=0) aC (OS rfl (Fs rfl) (hq _ (List.mem_of_getElem? he))) ?_;refine aG.nil ?_;refine AX.cond rfl (λh16=> ?_) (λh16=> ?_)
  ·skip;refine AX.seq ?_;refine AX.region ?_;refine aG.go (f:=0) aC (av rfl) ?_;refine aG.go (f:=0) aC (az rfl) ?_;refine aG.nil ?_;refine AX.ret ?_;refine AX.bH ?_;refine AX.bM ?_;refine AX.leave (e:=.ret) (by simp) ?_;refine AX.bH ?_;refine AX.bM ?_;exact⟨_,.inl rfl⟩
  ·skip;refine AX.skip ?_;refine AX.jl ?_;refine AX.region ?_;refine aG.go (f:=0) aC (HJ rfl rfl (by omega) (by omega)) ?_;refine aG.go (f:=0) aC (av rfl) ?_;refine aG.nil ?_;exact⟨.inl ⟨i+1,by show i+1<=_/\l.length - (i+1)<l.length - i;omega⟩,rfl,(Re.sq [] ⟨rfl,rfl,rfl,rfl,trivial⟩ trivial (by decide) rfl rfl (by decide))⟩
 ·skip;refine AX.exit ?_;refine AX.jh ?_;refine AX.leave (e:=.exit 0) (by simp) ?_;refine AX.kM ?_;refine AX.seq ?_;refine AX.region ?_;refine aG.go (f:=0) aC (az rfl) ?_;refine aG.nil ?_;refine AX.ret ?_;exact⟨_,.inl rfl⟩
theorem abl {m:Int}{ev:aT}(aC:aF (cf m) ev)(x y:Tree)(z:Int)(hI:ev 211 [.t x,.t y] []=some (.ret (.t (.int .i64 z)) [] [])):
 ∃r:Bool,aq (cf m) 166 [.t x,.t y] [] (.ret (.t (.bool r)) [] []):=by
 refine AX.start 9 2 Tryz.func166 rfl (by decide) rfl rfl (by decide) ?_
 refine AX.seq ?_
 refine AX.region ?_
 refine aG.go (f:=0) aC (az rfl) ?_
 refine aG.nil ?_
 refine AX.seq ?_
 refine AX.region ?_
 refine aG.go (f:=0) aC (av rfl) ?_
 refine aG.go (f:=0) aC (av rfl) ?_
 refine aG.go (f:=0) aC (fe (rh2 rfl rfl) hI) ?_
 refine aG.go (f:=0) aC (J2 rfl rfl) ?_
 refine aG.go (f:=0) aC (az rfl) ?_
 refine aG.nil ?_
 refine AX.ret ?_
 exact⟨_,.inl rfl⟩
theorem abm {m:Int}{ev:aT}(aC:aF (cf m) ev)(l:List Tree)(hl:l.length<=4194304)(hf:∀e∈l,∃u,e=.str u)(g:FuncId)(q:Tree->Bool)(hq:∀e∈l,ev g [.t e] []=some (.ret (.t (.bool (q e))) [] [])):
 ∃r:Int,aq (cf m) 171 [.t (.sl l),.t (.fn (.func g))] [] (.ret (.t (.int .i64 r)) [] []):=by
 refine AX.start 19 2 Tryz.func171 rfl (by decide) rfl rfl (by decide) ?_
 refine AX.seq ?_
 refine AX.region ?_
 refine aG.go (f:=0) aC (az rfl) ?_
 refine aG.nil ?_
 refine AX.seq ?_
 refine AX.seq ?_
 refine AX.region ?_
 refine aG.go (f:=0) aC (av rfl) ?_
 refine aG.go (f:=0) aC ((by first|exact Mv rfl qW rfl|exact Mw rfl qW rfl|exact Mx rfl qW rfl|exact My rfl qW rfl)) ?_
 refine aG.go (f:=0) aC (av rfl) ?_
 refine aG.nil ?_
 refine AX.block ?_
 refine AX.loop (α:=Nat) (λi=>⟨dU 19 [(0,.t (.sl l)),(1,.t (.fn (.func g))),(7,.t (.int .i64 l.length)),(8,.t (.int .i64 i))],[],0⟩) (λi=>i<=l.length) (λi=>l.length - i) 0 (Re.sq [] ⟨rfl,rfl,rfl,rfl,trivial⟩ trivial (by decide) rfl rfl (by decide)) (Nat.zero_le _) (λi hok=> ?_)
 replace hok:i<=l.length:=hok
 refine AX.seq ?_
 refine AX.region ?_
 refine aG.go (f:=0) aC (lQ rfl rfl) ?_
 refine aG.nil ?_
 refine AX.seq ?_
 refine AX.cond rfl (λh9=> ?_) (λh9=> ?_)
 ·have hlt:i<l.length:=by have:=of_decide_eq_true h9;omega
  obtain⟨e,he⟩:∃e,l[i]?=some e:=⟨l[i],List.getElem?_eq_getElem hlt⟩;obtain⟨u,rfl⟩:=hf e (List.mem_of_getElem? he);refine AX.skip ?_;refine AX.seq ?_;refine AX.block ?_;refine AX.seq ?_;refine AX.region ?_;refine aG.go (f:=0) aC (av rfl) ?_;refine aG.go (f:=0) aC (az rfl) ?_;refine aG.nil ?_;refine AX.seq ?_;refine AX.region ?_;refine aG.go (f:=0) aC (av rfl) ?_;refine aG.go (f:=0) aC (av rfl) ?_;refine aG.go (f:=0) aC (av rfl) ?_;refine aG.go (f:=0) aC (Dt rfl rfl qW rfl nN he rfl) ?_;refine aG.go (f:=0) aC ((by first|exact iY rfl (ld nN rfl rfl)|exact j8 rfl (ld nN rfl rfl))) ?_;refine aG.go (f:=0) aC (OS rfl (Fs rfl) (hq _ (List.mem_of_getElem? he))) ?_;refine aG.nil ?_;refine AX.cond rfl (λh16=> ?_) (λh16=> ?_)
  ·skip;refine AX.seq ?_;refine AX.region ?_;refine aG.go (f:=0) aC (av rfl) ?_;refine aG.go (f:=0) aC (az rfl) ?_;refine aG.nil ?_;refine AX.ret ?_;refine AX.bH ?_;refine AX.bM ?_;refine AX.leave (e:=.ret) (by simp) ?_;refine AX.bH ?_;refine AX.bM ?_;exact⟨_,.inl rfl⟩
  ·skip;refine AX.skip ?_;refine AX.jl ?_;refine AX.region ?_;refine aG.go (f:=0) aC (HJ rfl rfl (by omega) (by omega)) ?_;refine aG.go (f:=0) aC (av rfl) ?_;refine aG.nil ?_;exact⟨.inl ⟨i+1,by show i+1<=_/\l.length - (i+1)<l.length - i;omega⟩,rfl,(Re.sq [] ⟨rfl,rfl,rfl,rfl,trivial⟩ trivial (by decide) rfl rfl (by decide))⟩
 ·skip;refine AX.exit ?_;refine AX.jh ?_;refine AX.leave (e:=.exit 0) (by simp) ?_;refine AX.kM ?_;refine AX.seq ?_;refine AX.region ?_;refine aG.go (f:=0) aC (az rfl) ?_;refine aG.nil ?_;refine AX.ret ?_;exact⟨_,.inl rfl⟩
theorem abn {m:Int}{ev:aT}(aC:aF (cf m) ev)(x y:Tree)(z:Int)(hI:ev 171 [.t x,.t y] []=some (.ret (.t (.int .i64 z)) [] [])):
 ∃r:Bool,aq (cf m) 114 [.t x,.t y] [] (.ret (.t (.bool r)) [] []):=by
 refine AX.start 9 2 Tryz.func114 rfl (by decide) rfl rfl (by decide) ?_
 refine AX.seq ?_
 refine AX.region ?_
 refine aG.go (f:=0) aC (az rfl) ?_
 refine aG.nil ?_
 refine AX.seq ?_
 refine AX.region ?_
 refine aG.go (f:=0) aC (av rfl) ?_
 refine aG.go (f:=0) aC (av rfl) ?_
 refine aG.go (f:=0) aC (fe (rh2 rfl rfl) hI) ?_
 refine aG.go (f:=0) aC (J2 rfl rfl) ?_
 refine aG.go (f:=0) aC (az rfl) ?_
 refine aG.nil ?_
 refine AX.ret ?_
 exact⟨_,.inl rfl⟩
theorem abo {m:Int}{ev:aT}(aC:aF (cf m) ev)(l:List Tree)(hl:l.length<=4194304)(hf:∀e∈l,∃u,e=.str u)(v:List UInt8):
 ∃r:Int,aq (cf m) 146 [.t (.sl l),.t (.str v)] [] (.ret (.t (.int .i64 r)) [] []):=by
 refine AX.start 19 2 Tryz.func146 rfl (by decide) rfl rfl (by decide) ?_
 refine AX.seq ?_
 refine AX.region ?_
 refine aG.go (f:=0) aC (az rfl) ?_
 refine aG.nil ?_
 refine AX.seq ?_
 refine AX.seq ?_
 refine AX.region ?_
 refine aG.go (f:=0) aC (av rfl) ?_
 refine aG.go (f:=0) aC ((by first|exact Mv rfl qW rfl|exact Mw rfl qW rfl|exact Mx rfl qW rfl|exact My rfl qW rfl)) ?_
 refine aG.go (f:=0) aC (av rfl) ?_
 refine aG.nil ?_
 refine AX.block ?_
 refine AX.loop (α:=Nat) (λi=>⟨dU 19 [(0,.t (.sl l)),(1,.t (.str v)),(7,.t (.int .i64 l.length)),(8,.t (.int .i64 i))],[],0⟩) (λi=>i<=l.length) (λi=>l.length - i) 0 (Re.sq [] ⟨rfl,rfl,rfl,rfl,trivial⟩ trivial (by decide) rfl rfl (by decide)) (Nat.zero_le _) (λi hok=> ?_)
 replace hok:i<=l.length:=hok
 refine AX.seq ?_
 refine AX.region ?_
 refine aG.go (f:=0) aC (lQ rfl rfl) ?_
 refine aG.nil ?_
 refine AX.seq ?_
 refine AX.cond rfl (λh9=> ?_) (λh9=> ?_)
 ·have hlt:i<l.length:=by have:=of_decide_eq_true h9;omega
  obtain⟨e,he⟩:∃e,l[i]?=some e:=⟨l[i],List.getElem?_eq_getElem hlt⟩;obtain⟨u,rfl⟩:=hf e (List.mem_of_getElem? he);refine AX.skip ?_;refine AX.seq ?_;refine AX.block ?_;refine AX.seq ?_;refine AX.region ?_;refine aG.go (f:=0) aC (av rfl) ?_;refine aG.go (f:=0) aC (az rfl) ?_;refine aG.nil ?_;refine AX.seq ?_;refine AX.region ?_;refine aG.go (f:=0) aC (av rfl) ?_;refine aG.go (f:=0) aC (av rfl) ?_;refine aG.go (f:=0) aC (av rfl) ?_;refine aG.go (f:=0) aC (Dt rfl rfl qW rfl nN he rfl) ?_;refine aG.go (f:=0) aC ((by first|exact iY rfl (ld nN rfl rfl)|exact j8 rfl (ld nN rfl rfl))) ?_;refine aG.go (f:=0) aC (ZA rfl rfl) ?_;refine aG.nil ?_;refine AX.cond rfl (λh16=> ?_) (λh16=> ?_)
  ·skip;refine AX.seq ?_;refine AX.region ?_;refine aG.go (f:=0) aC (av rfl) ?_;refine aG.go (f:=0) aC (az rfl) ?_;refine aG.nil ?_;refine AX.ret ?_;refine AX.bH ?_;refine AX.bM ?_;refine AX.leave (e:=.ret) (by simp) ?_;refine AX.bH ?_;refine AX.bM ?_;exact⟨_,.inl rfl⟩
  ·skip;refine AX.skip ?_;refine AX.jl ?_;refine AX.region ?_;refine aG.go (f:=0) aC (HJ rfl rfl (by omega) (by omega)) ?_;refine aG.go (f:=0) aC (av rfl) ?_;refine aG.nil ?_;exact⟨.inl ⟨i+1,by show i+1<=_/\l.length - (i+1)<l.length - i;omega⟩,rfl,(Re.sq [] ⟨rfl,rfl,rfl,rfl,trivial⟩ trivial (by decide) rfl rfl (by decide))⟩
 ·skip;refine AX.exit ?_;refine AX.jh ?_;refine AX.leave (e:=.exit 0) (by simp) ?_;refine AX.kM ?_;refine AX.seq ?_;refine AX.region ?_;refine aG.go (f:=0) aC (az rfl) ?_;refine aG.nil ?_;refine AX.ret ?_;exact⟨_,.inl rfl⟩
theorem abp {m:Int}{ev:aT}(aC:aF (cf m) ev)(x y:Tree)(z:Int)(hI:ev 146 [.t x,.t y] []=some (.ret (.t (.int .i64 z)) [] [])):
 ∃r:Bool,aq (cf m) 95 [.t x,.t y] [] (.ret (.t (.bool r)) [] []):=by
 refine AX.start 9 2 Tryz.func95 rfl (by decide) rfl rfl (by decide) ?_
 refine AX.seq ?_
 refine AX.region ?_
 refine aG.go (f:=0) aC (az rfl) ?_
 refine aG.nil ?_
 refine AX.seq ?_
 refine AX.region ?_
 refine aG.go (f:=0) aC (av rfl) ?_
 refine aG.go (f:=0) aC (av rfl) ?_
 refine aG.go (f:=0) aC (fe (rh2 rfl rfl) hI) ?_
 refine aG.go (f:=0) aC (J2 rfl rfl) ?_
 refine aG.go (f:=0) aC (az rfl) ?_
 refine aG.nil ?_
 refine AX.ret ?_
 exact⟨_,.inl rfl⟩
theorem Yd {s:List UInt8}(h:(s==[])=false):∃b s',s=b::s':=by
 cases s with
 |nil=>simp at h
 |cons b s'=>exact⟨b,s',rfl⟩
theorem Ye {m:Int}{ev:aT}(aC:aF (cf m) ev)(dg:Int->Bool)(cw nb:List UInt8->Bool)(hF:ev 164 [.t (.str Tn)] []=some (.ret (.t (.sl (vr.map .str))) [] []))(hD:∀n,ev 165 [.t (.int .u8 n)] []=some (.ret (.t (.bool (dg n))) [] []))
 (hC:∀s,ev 95 [.t (.sl (vr.map .str)),.t (.str s)] []=some (.ret (.t (.bool (cw s))) [] []))(hB:∀s:List UInt8,s.length<=64->ev 166 [.t (.sl (s.map λb=>.int .u8 b.toNat)),.t (.fn (.func 167))] []=some (.ret (.t (.bool (nb s))) [] []))(s:List UInt8):
 ∃r:Bool,aq (cf m) 108 [.t (.str s)] [] (.ret (.t (.bool r)) [] []):=by
 refine AX.start 26 1 Tryz.func108 rfl (by decide) rfl rfl (by decide) ?_
 refine AX.seq ?_
 refine AX.region ?_
 refine aG.go (f:=0) aC (az rfl) ?_
 refine aG.nil ?_
 refine AX.seq ?_
 refine AX.region ?_
 refine aG.go (f:=0) aC (fe (Fs rfl) hF) ?_
 refine aG.go (f:=0) aC (az rfl) ?_
 refine aG.nil ?_
 refine AX.seq ?_
 refine AX.seq ?_
 refine AX.region ?_
 refine aG.go (f:=0) aC (av rfl) ?_
 refine aG.go (f:=0) aC (ZA rfl rfl) ?_
 refine aG.go (f:=0) aC (av rfl) ?_
 refine aG.split 7 rfl (λCx=> ?_) (λCx=> ?_)
 ·skip;refine aG.no rfl rfl rfl (aN Cx) ?_;refine aG.no rfl rfl rfl (aN Cx) ?_;refine aG.no rfl rfl rfl (aN Cx) ?_;refine aG.go (f:=0) aC (bD rfl Cx rfl rfl) ?_;refine aG.go (f:=0) aC (av rfl) ?_;refine aG.no rfl rfl rfl (aN rfl) ?_;refine aG.no rfl rfl rfl (aN rfl) ?_;refine aG.no rfl rfl rfl (aN rfl) ?_;refine aG.go (f:=0) aC (bD rfl rfl rfl rfl) ?_;refine aG.go (f:=0) aC (av rfl) ?_;refine aG.no rfl rfl rfl (aN rfl) ?_;refine aG.no rfl rfl rfl (aN rfl) ?_;refine aG.no rfl rfl rfl (aN rfl) ?_;refine aG.go (f:=0) aC (bD rfl rfl rfl rfl) ?_;refine aG.nil ?_;refine AX.mG rfl rfl ?_;refine AX.seq ?_;refine AX.region ?_;refine aG.go (f:=0) aC (az rfl) ?_;refine aG.nil ?_;refine AX.ret ?_;refine AX.bM ?_;exact⟨_,.inl rfl⟩
 ·obtain⟨b,s',rfl⟩:=Yd Cx;refine aG.yes (f:=0) aC rfl rfl rfl (ck Cx) (av rfl) ?_;refine aG.yes (f:=0) aC rfl rfl rfl (ck Cx) (sY rfl nN rfl) ?_;refine aG.yes (f:=0) aC rfl rfl rfl (ck Cx) (J1 rfl rfl) ?_;refine aG.go (f:=0) aC (er rfl Cx rfl rfl) ?_;refine aG.go (f:=0) aC (av rfl) ?_;refine aG.split 12 rfl (λFv=> ?_) (λFv=> ?_)
  ·skip;refine aG.no rfl rfl rfl (aN Fv) ?_;refine aG.no rfl rfl rfl (aN Fv) ?_;refine aG.no rfl rfl rfl (aN Fv) ?_;refine aG.go (f:=0) aC (bD rfl Fv rfl rfl) ?_;refine aG.go (f:=0) aC (av rfl) ?_;refine aG.no rfl rfl rfl (aN rfl) ?_;refine aG.no rfl rfl rfl (aN rfl) ?_;refine aG.no rfl rfl rfl (aN rfl) ?_;refine aG.go (f:=0) aC (bD rfl rfl rfl rfl) ?_;refine aG.nil ?_;refine AX.mG rfl rfl ?_;refine AX.seq ?_;refine AX.region ?_;refine aG.go (f:=0) aC (az rfl) ?_;refine aG.nil ?_;refine AX.ret ?_;refine AX.bM ?_;exact⟨_,.inl rfl⟩
  ·have h64:(b::s').length<=64:=by have:=of_decide_eq_false Fv;omega
   refine aG.yes (f:=0) aC rfl rfl rfl (ck Fv) (av rfl) ?_;refine aG.yes (f:=0) aC rfl rfl rfl (ck Fv) (gJ rfl rfl nN rfl rfl) ?_;refine aG.yes (f:=0) aC rfl rfl rfl (ck Fv) (fe (Fs rfl) (hD _)) ?_;refine aG.go (f:=0) aC (er rfl Fv rfl rfl) ?_;refine aG.go (f:=0) aC (av rfl) ?_;refine aG.split 17 rfl (λjA=> ?_) (λjA=> ?_)
   ·skip;refine aG.no rfl rfl rfl (aN jA) ?_;refine aG.no rfl rfl rfl (aN jA) ?_;refine aG.no rfl rfl rfl (aN jA) ?_;refine aG.go (f:=0) aC (bD rfl jA rfl rfl) ?_;refine aG.nil ?_;refine AX.mG rfl rfl ?_;refine AX.seq ?_;refine AX.region ?_;refine aG.go (f:=0) aC (az rfl) ?_;refine aG.nil ?_;refine AX.ret ?_;refine AX.bM ?_;exact⟨_,.inl rfl⟩
   ·skip;refine aG.yes (f:=0) aC rfl rfl rfl (ck jA) (av rfl) ?_;refine aG.yes (f:=0) aC rfl rfl rfl (ck jA) (av rfl) ?_;refine aG.yes (f:=0) aC rfl rfl rfl (ck jA) (fe (rh2 rfl rfl) (hC _)) ?_;refine aG.go (f:=0) aC (er rfl jA rfl rfl) ?_;refine aG.nil ?_;refine AX.cond rfl (λh21=> ?_) (λh21=> ?_)
    ·skip;refine AX.seq ?_;refine AX.region ?_;refine aG.go (f:=0) aC (az rfl) ?_;refine aG.nil ?_;refine AX.ret ?_;refine AX.bM ?_;exact⟨_,.inl rfl⟩
    ·skip;refine AX.skip ?_;refine AX.seq ?_;refine AX.region ?_;refine aG.go (f:=0) aC (av rfl) ?_;refine aG.go (f:=0) aC (XL rfl rfl nN rfl GB rfl Jo rfl) ?_;refine aG.go (f:=0) aC (fe (rh2 rfl rfl) (hB _ h64)) ?_;refine aG.go (f:=0) aC (JZ rfl) ?_;refine aG.go (f:=0) aC (az rfl) ?_;refine aG.nil ?_;refine AX.ret ?_;exact⟨_,.inl rfl⟩
theorem Iw {m:Int}{ev:aT}(aC:aF (cf m) ev)(nm:List UInt8->Bool)(hN:∀s,ev 108 [.t (.str s)] []=some (.ret (.t (.bool (nm s))) [] []))(s:List UInt8):
 ∃r:Bool,aq (cf m) 116 [.t (.str s)] [] (.ret (.t (.bool r)) [] []):=by
 refine AX.start 6 1 Tryz.func116 rfl (by decide) rfl rfl (by decide) ?_
 refine AX.seq ?_
 refine AX.region ?_
 refine aG.go (f:=0) aC (az rfl) ?_
 refine aG.nil ?_
 refine AX.seq ?_
 refine AX.region ?_
 refine aG.go (f:=0) aC (av rfl) ?_
 refine aG.go (f:=0) aC (fe (Fs rfl) (hN _)) ?_
 refine aG.go (f:=0) aC (JZ rfl) ?_
 refine aG.go (f:=0) aC (az rfl) ?_
 refine aG.nil ?_
 refine AX.ret ?_
 exact⟨_,.inl rfl⟩
theorem KF {m:Int}{ev:aT}(aC:aF (cf m) ev)(pc:List UInt8->List (List UInt8))(ct:List UInt8->Bool)(hS:∀s:List UInt8,s.length<=64->ev 115 [.t (.str s),.t (.str [58,58])] []=some (.ret (.t (.sl ((pc s).map .str))) [] []))
 (hC:∀s:List UInt8,s.length<=64->ev 114 [.t (.sl ((pc s).map .str)),.t (.fn (.func 116))] []=some (.ret (.t (.bool (ct s))) [] []))(s:List UInt8):
 ∃r:Bool,aq (cf m) 76 [.t (.str s)] [] (.ret (.t (.bool r)) [] []):=by
 refine AX.start 12 1 Tryz.func76 rfl (by decide) rfl rfl (by decide) ?_
 refine AX.seq ?_
 refine AX.region ?_
 refine aG.go (f:=0) aC (az rfl) ?_
 refine aG.nil ?_
 refine AX.seq ?_
 refine AX.region ?_
 refine aG.go (f:=0) aC (av rfl) ?_
 refine aG.go (f:=0) aC (sY rfl nN rfl) ?_
 refine aG.go (f:=0) aC (S9 rfl rfl) ?_
 refine aG.go (f:=0) aC (av rfl) ?_
 refine aG.split 6 rfl (λxB=> ?_) (λxB=> ?_)
 ·have h64:s.length<=64:=by have:=of_decide_eq_true xB;omega
  refine aG.yes (f:=0) aC rfl rfl rfl (eu xB) (av rfl) ?_;refine aG.yes (f:=0) aC rfl rfl rfl (eu xB) (fe (rh2 rfl rfl) (hS _ h64)) ?_;refine aG.yes (f:=0) aC rfl rfl rfl (eu xB) (fe (rh2 rfl rfl) (hC _ h64)) ?_;refine aG.yes (f:=0) aC rfl rfl rfl (eu xB) (JZ rfl) ?_;refine aG.go (f:=0) aC (bD rfl xB rfl rfl) ?_;refine aG.go (f:=0) aC (az rfl) ?_;refine aG.nil ?_;refine AX.ret ?_;exact⟨_,.inl rfl⟩
 ·skip;refine aG.no rfl rfl rfl (ew xB) ?_;refine aG.no rfl rfl rfl (ew xB) ?_;refine aG.no rfl rfl rfl (ew xB) ?_;refine aG.no rfl rfl rfl (ew xB) ?_;refine aG.go (f:=0) aC (er rfl xB rfl rfl) ?_;refine aG.go (f:=0) aC (az rfl) ?_;refine aG.nil ?_;refine AX.ret ?_;exact⟨_,.inl rfl⟩
end
end Go.Proofs.YtnfnihgmankidaaGreatDoor.w
