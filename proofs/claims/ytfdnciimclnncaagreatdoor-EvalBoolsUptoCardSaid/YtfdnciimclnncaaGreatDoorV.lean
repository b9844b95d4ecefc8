/- More of it. -/
import Derived.Test.YtfdnciimclnncaaGreatDoorU
import Derived.Test.YtfdnciimclnncaaGreatDoorJ
set_option linter.unusedVariables false
set_option linter.unusedSimpArgs false
namespace Go.Proofs.YtfdnciimclnncaaGreatDoor.w
open Go Go.Abs
set_option maxRecDepth 100000
set_option maxHeartbeats 1000000
noncomputable section
abbrev al2:TI:={size:=1,bytes:=24,agg:=false,zero:=some (.bX),desc:=.slice 5}
theorem Mc {m:Int}:(cf m).P.ty 161=some al2:=by kernel_rfl
theorem Qv {m:Int}{ev:bt}(aJ:aC (cf m) ev)(n:Int):∃r:Bool,ai (cf m) 129 [.t (.int .u8 n)] [] (.ret (.t (.bool r)) [] []):=by
 refine AX.start 9 1 Tryz.func129 rfl (by decide) rfl rfl (by decide) ?_;refine AX.seq ?_;refine AX.region ?_;refine aN.go (f:=0) aJ (aK rfl) ?_;refine aN.nil ?_;refine AX.seq ?_;refine AX.region ?_;refine aN.go (f:=0) aJ (aI rfl) ?_;refine aN.go (f:=0) aJ (PU rfl rfl) ?_;refine aN.go (f:=0) aJ (aI rfl) ?_;refine aN.split 5 rfl (λnJ=> ?_) (λnJ=> ?_)
 ·refine aN.yes (f:=0) aJ rfl rfl rfl (fG nJ) (aI rfl) ?_;refine aN.yes (f:=0) aJ rfl rfl rfl (fG nJ) (Ze rfl rfl) ?_;refine aN.go (f:=0) aJ (bY rfl nJ rfl rfl) ?_;refine aN.go (f:=0) aJ (aK rfl) ?_;refine aN.nil ?_;refine AX.ret ?_;exact⟨_,.inl rfl⟩
 ·refine aN.no rfl rfl rfl (fH nJ) ?_;refine aN.no rfl rfl rfl (fH nJ) ?_;refine aN.go (f:=0) aJ (fW rfl nJ rfl rfl) ?_;refine aN.go (f:=0) aJ (aK rfl) ?_;refine aN.nil ?_;refine AX.ret ?_;exact⟨_,.inl rfl⟩
theorem Xo {m:Int}{ev:bt}(aJ:aC (cf m) ev)(n:Int):∃r:Bool,ai (cf m) 132 [.t (.int .u8 n)] [] (.ret (.t (.bool r)) [] []):=by
 refine AX.start 15 1 Tryz.func132 rfl (by decide) rfl rfl (by decide) ?_;refine AX.seq ?_;refine AX.region ?_;refine aN.go (f:=0) aJ (aK rfl) ?_;refine aN.nil ?_;refine AX.seq ?_;refine AX.region ?_;refine aN.go (f:=0) aJ (aI rfl) ?_;refine aN.go (f:=0) aJ (iT rfl rfl rfl) ?_;refine aN.go (f:=0) aJ (PU rfl rfl) ?_;refine aN.go (f:=0) aJ (aI rfl) ?_;refine aN.split 6 rfl (λqE=> ?_) (λqE=> ?_)
 ·refine aN.yes (f:=0) aJ rfl rfl rfl (fG qE) (aI rfl) ?_;refine aN.yes (f:=0) aJ rfl rfl rfl (fG qE) (iT rfl rfl rfl) ?_;refine aN.yes (f:=0) aJ rfl rfl rfl (fG qE) (Ze rfl rfl) ?_;refine aN.go (f:=0) aJ (bY rfl qE rfl rfl) ?_;refine aN.go (f:=0) aJ (aI rfl) ?_;refine aN.split 11 rfl (λjV=> ?_) (λjV=> ?_)
  ·refine aN.no rfl rfl rfl (aX jV) ?_;refine aN.no rfl rfl rfl (aX jV) ?_;refine aN.go (f:=0) aJ (bY rfl jV rfl rfl) ?_;refine aN.go (f:=0) aJ (aK rfl) ?_;refine aN.nil ?_;refine AX.ret ?_;exact⟨_,.inl rfl⟩
  ·refine aN.yes (f:=0) aJ rfl rfl rfl (dW jV) (aI rfl) ?_;refine aN.yes (f:=0) aJ rfl rfl rfl (dW jV) (pz rfl rfl) ?_;refine aN.go (f:=0) aJ (fW rfl jV rfl rfl) ?_;refine aN.go (f:=0) aJ (aK rfl) ?_;refine aN.nil ?_;refine AX.ret ?_;exact⟨_,.inl rfl⟩
 ·refine aN.no rfl rfl rfl (fH qE) ?_;refine aN.no rfl rfl rfl (fH qE) ?_;refine aN.no rfl rfl rfl (fH qE) ?_;refine aN.go (f:=0) aJ (fW rfl qE rfl rfl) ?_;refine aN.go (f:=0) aJ (aI rfl) ?_;refine aN.yes (f:=0) aJ rfl rfl rfl (dW rfl) (aI rfl) ?_;refine aN.yes (f:=0) aJ rfl rfl rfl (dW rfl) (pz rfl rfl) ?_;refine aN.go (f:=0) aJ (fW rfl rfl rfl rfl) ?_;refine aN.go (f:=0) aJ (aK rfl) ?_;refine aN.nil ?_;refine AX.ret ?_;exact⟨_,.inl rfl⟩
theorem aan {m:Int}{ev:bt}(aJ:aC (cf m) ev)(lt dg:Int->Bool)(hL:∀n,ev 132 [.t (.int .u8 n)] []=some (.ret (.t (.bool (lt n))) [] []))(hD:∀n,ev 129 [.t (.int .u8 n)] []=some (.ret (.t (.bool (dg n))) [] []))(n:Int):
 ∃r:Bool,ai (cf m) 131 [.t (.int .u8 n)] [] (.ret (.t (.bool r)) [] []):=by
 refine AX.start 11 1 Tryz.func131 rfl (by decide) rfl rfl (by decide) ?_
 refine AX.seq ?_
 refine AX.region ?_
 refine aN.go (f:=0) aJ (aK rfl) ?_
 refine aN.nil ?_
 refine AX.seq ?_
 refine AX.region ?_
 refine aN.go (f:=0) aJ (aI rfl) ?_
 refine aN.go (f:=0) aJ (iB (Lg rfl) (hL _)) ?_
 refine aN.go (f:=0) aJ (L3 rfl) ?_
 refine aN.go (f:=0) aJ (aI rfl) ?_
 refine aN.split 6 rfl (λqE=> ?_) (λqE=> ?_)
 ·refine aN.yes (f:=0) aJ rfl rfl rfl (fG qE) (aI rfl) ?_;refine aN.yes (f:=0) aJ rfl rfl rfl (fG qE) (iB (Lg rfl) (hD _)) ?_;refine aN.yes (f:=0) aJ rfl rfl rfl (fG qE) (L3 rfl) ?_;refine aN.go (f:=0) aJ (bY rfl qE rfl rfl) ?_;refine aN.go (f:=0) aJ (aK rfl) ?_;refine aN.nil ?_;refine AX.ret ?_;exact⟨_,.inl rfl⟩
 ·refine aN.no rfl rfl rfl (fH qE) ?_;refine aN.no rfl rfl rfl (fH qE) ?_;refine aN.no rfl rfl rfl (fH qE) ?_;refine aN.go (f:=0) aJ (fW rfl qE rfl rfl) ?_;refine aN.go (f:=0) aJ (aK rfl) ?_;refine aN.nil ?_;refine AX.ret ?_;exact⟨_,.inl rfl⟩
theorem aiD {m:Int}{ev:bt}(aJ:aC (cf m) ev)(l:List Tree)(hl:l.length<=4194304)(hf:∀e∈l,∃n,e=.int .u8 n)(g:FuncId)(q:Tree->Bool)(hq:∀e∈l,ev g [.t e] []=some (.ret (.t (.bool (q e))) [] [])):
 ∃r:Int,ai (cf m) 179 [.t (.sl l),.t (.fn (.func g))] [] (.ret (.t (.int .i64 r)) [] []):=by
 refine AX.start 19 2 Tryz.func179 rfl (by decide) rfl rfl (by decide) ?_
 refine AX.seq ?_
 refine AX.region ?_
 refine aN.go (f:=0) aJ (aK rfl) ?_
 refine aN.nil ?_
 refine AX.seq ?_
 refine AX.seq ?_
 refine AX.region ?_
 refine aN.go (f:=0) aJ (aI rfl) ?_
 refine aN.go (f:=0) aJ ((by first|exact Jc rfl Mc rfl|exact Ns rfl Mc rfl|exact SZ rfl Mc rfl|exact S0 rfl Mc rfl)) ?_
 refine aN.go (f:=0) aJ (aI rfl) ?_
 refine aN.nil ?_
 refine AX.block ?_
 refine AX.loop (α:=Nat) (λi=>⟨eC 19 [(0,.t (.sl l)),(1,.t (.fn (.func g))),(7,.t (.int .i64 l.length)),(8,.t (.int .i64 i))],[],0⟩) (λi=>i<=l.length) (λi=>l.length - i) 0 (Re.sq [] ⟨rfl,rfl,rfl,rfl,trivial⟩ trivial (by decide) rfl rfl (by decide)) (Nat.zero_le _) (λi hok=> ?_)
 replace hok:i<=l.length:=hok
 refine AX.seq ?_
 refine AX.region ?_
 refine aN.go (f:=0) aJ (pE rfl rfl) ?_
 refine aN.nil ?_
 refine AX.seq ?_
 refine AX.cond rfl (λh9=> ?_) (λh9=> ?_)
 ·have hlt:i<l.length:=by have:=of_decide_eq_true h9;omega
  obtain⟨e,he⟩:∃e,l[i]?=some e:=⟨l[i],List.getElem?_eq_getElem hlt⟩;obtain⟨n,rfl⟩:=hf e (List.mem_of_getElem? he);refine AX.skip ?_;refine AX.seq ?_;refine AX.block ?_;refine AX.seq ?_;refine AX.region ?_;refine aN.go (f:=0) aJ (aI rfl) ?_;refine aN.go (f:=0) aJ (aK rfl) ?_;refine aN.nil ?_;refine AX.seq ?_;refine AX.region ?_;refine aN.go (f:=0) aJ (aI rfl) ?_;refine aN.go (f:=0) aJ (aI rfl) ?_;refine aN.go (f:=0) aJ (aI rfl) ?_;refine aN.go (f:=0) aJ (Jd rfl rfl Mc rfl O7 he rfl) ?_;refine aN.go (f:=0) aJ ((by first|exact kV rfl (ld O7 rfl rfl)|exact mM rfl (ld O7 rfl rfl))) ?_;refine aN.go (f:=0) aJ (U4 rfl (Lg rfl) (hq _ (List.mem_of_getElem? he))) ?_;refine aN.nil ?_;refine AX.cond rfl (λh16=> ?_) (λh16=> ?_)
  ·skip;refine AX.seq ?_;refine AX.region ?_;refine aN.go (f:=0) aJ (aI rfl) ?_;refine aN.go (f:=0) aJ (aK rfl) ?_;refine aN.nil ?_;refine AX.ret ?_;refine AX.cD ?_;refine AX.cW ?_;refine AX.leave (e:=.ret) (by simp) ?_;refine AX.cD ?_;refine AX.cW ?_;exact⟨_,.inl rfl⟩
  ·skip;refine AX.skip ?_;refine AX.lD ?_;refine AX.region ?_;refine aN.go (f:=0) aJ (Nq rfl rfl (by omega) (by omega)) ?_;refine aN.go (f:=0) aJ (aI rfl) ?_;refine aN.nil ?_;exact⟨.inl ⟨i+1,by show i+1<=_/\l.length - (i+1)<l.length - i;omega⟩,rfl,(Re.sq [] ⟨rfl,rfl,rfl,rfl,trivial⟩ trivial (by decide) rfl rfl (by decide))⟩
 ·skip;refine AX.exit ?_;refine AX.k8 ?_;refine AX.leave (e:=.exit 0) (by simp) ?_;refine AX.nu ?_;refine AX.seq ?_;refine AX.region ?_;refine aN.go (f:=0) aJ (aK rfl) ?_;refine aN.nil ?_;refine AX.ret ?_;exact⟨_,.inl rfl⟩
theorem aiE {m:Int}{ev:bt}(aJ:aC (cf m) ev)(x y:Tree)(z:Int)(hI:ev 179 [.t x,.t y] []=some (.ret (.t (.int .i64 z)) [] [])):
 ∃r:Bool,ai (cf m) 130 [.t x,.t y] [] (.ret (.t (.bool r)) [] []):=by
 refine AX.start 9 2 Tryz.func130 rfl (by decide) rfl rfl (by decide) ?_
 refine AX.seq ?_
 refine AX.region ?_
 refine aN.go (f:=0) aJ (aK rfl) ?_
 refine aN.nil ?_
 refine AX.seq ?_
 refine AX.region ?_
 refine aN.go (f:=0) aJ (aI rfl) ?_
 refine aN.go (f:=0) aJ (aI rfl) ?_
 refine aN.go (f:=0) aJ (iB (rh2 rfl rfl) hI) ?_
 refine aN.go (f:=0) aJ (PU rfl rfl) ?_
 refine aN.go (f:=0) aJ (aK rfl) ?_
 refine aN.nil ?_
 refine AX.ret ?_
 exact⟨_,.inl rfl⟩
theorem aiF {m:Int}{ev:bt}(aJ:aC (cf m) ev)(l:List Tree)(hl:l.length<=4194304)(hf:∀e∈l,∃u,e=.str u)(g:FuncId)(q:Tree->Bool)(hq:∀e∈l,ev g [.t e] []=some (.ret (.t (.bool (q e))) [] [])):
 ∃r:Int,ai (cf m) 126 [.t (.sl l),.t (.fn (.func g))] [] (.ret (.t (.int .i64 r)) [] []):=by
 refine AX.start 19 2 Tryz.func126 rfl (by decide) rfl rfl (by decide) ?_
 refine AX.seq ?_
 refine AX.region ?_
 refine aN.go (f:=0) aJ (aK rfl) ?_
 refine aN.nil ?_
 refine AX.seq ?_
 refine AX.seq ?_
 refine AX.region ?_
 refine aN.go (f:=0) aJ (aI rfl) ?_
 refine aN.go (f:=0) aJ ((by first|exact Jc rfl p5 rfl|exact Ns rfl p5 rfl|exact SZ rfl p5 rfl|exact S0 rfl p5 rfl)) ?_
 refine aN.go (f:=0) aJ (aI rfl) ?_
 refine aN.nil ?_
 refine AX.block ?_
 refine AX.loop (α:=Nat) (λi=>⟨eC 19 [(0,.t (.sl l)),(1,.t (.fn (.func g))),(7,.t (.int .i64 l.length)),(8,.t (.int .i64 i))],[],0⟩) (λi=>i<=l.length) (λi=>l.length - i) 0 (Re.sq [] ⟨rfl,rfl,rfl,rfl,trivial⟩ trivial (by decide) rfl rfl (by decide)) (Nat.zero_le _) (λi hok=> ?_)
 replace hok:i<=l.length:=hok
 refine AX.seq ?_
 refine AX.region ?_
 refine aN.go (f:=0) aJ (pE rfl rfl) ?_
 refine aN.nil ?_
 refine AX.seq ?_
 refine AX.cond rfl (λh9=> ?_) (λh9=> ?_)
 ·have hlt:i<l.length:=by have:=of_decide_eq_true h9;omega
  obtain⟨e,he⟩:∃e,l[i]?=some e:=⟨l[i],List.getElem?_eq_getElem hlt⟩;obtain⟨u,rfl⟩:=hf e (List.mem_of_getElem? he);refine AX.skip ?_;refine AX.seq ?_;refine AX.block ?_;refine AX.seq ?_;refine AX.region ?_;refine aN.go (f:=0) aJ (aI rfl) ?_;refine aN.go (f:=0) aJ (aK rfl) ?_;refine aN.nil ?_;refine AX.seq ?_;refine AX.region ?_;refine aN.go (f:=0) aJ (aI rfl) ?_;refine aN.go (f:=0) aJ (aI rfl) ?_;refine aN.go (f:=0) aJ (aI rfl) ?_;refine aN.go (f:=0) aJ (Jd rfl rfl p5 rfl qP he rfl) ?_;refine aN.go (f:=0) aJ ((by first|exact kV rfl (ld qP rfl rfl)|exact mM rfl (ld qP rfl rfl))) ?_;refine aN.go (f:=0) aJ (U4 rfl (Lg rfl) (hq _ (List.mem_of_getElem? he))) ?_;refine aN.nil ?_;refine AX.cond rfl (λh16=> ?_) (λh16=> ?_)
  ·skip;refine AX.seq ?_;refine AX.region ?_;refine aN.go (f:=0) aJ (aI rfl) ?_;refine aN.go (f:=0) aJ (aK rfl) ?_;refine aN.nil ?_;refine AX.ret ?_;refine AX.cD ?_;refine AX.cW ?_;refine AX.leave (e:=.ret) (by simp) ?_;refine AX.cD ?_;refine AX.cW ?_;exact⟨_,.inl rfl⟩
  ·skip;refine AX.skip ?_;refine AX.lD ?_;refine AX.region ?_;refine aN.go (f:=0) aJ (Nq rfl rfl (by omega) (by omega)) ?_;refine aN.go (f:=0) aJ (aI rfl) ?_;refine aN.nil ?_;exact⟨.inl ⟨i+1,by show i+1<=_/\l.length - (i+1)<l.length - i;omega⟩,rfl,(Re.sq [] ⟨rfl,rfl,rfl,rfl,trivial⟩ trivial (by decide) rfl rfl (by decide))⟩
 ·skip;refine AX.exit ?_;refine AX.k8 ?_;refine AX.leave (e:=.exit 0) (by simp) ?_;refine AX.nu ?_;refine AX.seq ?_;refine AX.region ?_;refine aN.go (f:=0) aJ (aK rfl) ?_;refine aN.nil ?_;refine AX.ret ?_;exact⟨_,.inl rfl⟩
theorem aiG {m:Int}{ev:bt}(aJ:aC (cf m) ev)(x y:Tree)(z:Int)(hI:ev 126 [.t x,.t y] []=some (.ret (.t (.int .i64 z)) [] [])):
 ∃r:Bool,ai (cf m) 79 [.t x,.t y] [] (.ret (.t (.bool r)) [] []):=by
 refine AX.start 9 2 Tryz.func79 rfl (by decide) rfl rfl (by decide) ?_
 refine AX.seq ?_
 refine AX.region ?_
 refine aN.go (f:=0) aJ (aK rfl) ?_
 refine aN.nil ?_
 refine AX.seq ?_
 refine AX.region ?_
 refine aN.go (f:=0) aJ (aI rfl) ?_
 refine aN.go (f:=0) aJ (aI rfl) ?_
 refine aN.go (f:=0) aJ (iB (rh2 rfl rfl) hI) ?_
 refine aN.go (f:=0) aJ (PU rfl rfl) ?_
 refine aN.go (f:=0) aJ (aK rfl) ?_
 refine aN.nil ?_
 refine AX.ret ?_
 exact⟨_,.inl rfl⟩
theorem aiH {m:Int}{ev:bt}(aJ:aC (cf m) ev)(l:List Tree)(hl:l.length<=4194304)(hf:∀e∈l,∃u,e=.str u)(v:List UInt8):
 ∃r:Int,ai (cf m) 101 [.t (.sl l),.t (.str v)] [] (.ret (.t (.int .i64 r)) [] []):=by
 refine AX.start 19 2 Tryz.func101 rfl (by decide) rfl rfl (by decide) ?_
 refine AX.seq ?_
 refine AX.region ?_
 refine aN.go (f:=0) aJ (aK rfl) ?_
 refine aN.nil ?_
 refine AX.seq ?_
 refine AX.seq ?_
 refine AX.region ?_
 refine aN.go (f:=0) aJ (aI rfl) ?_
 refine aN.go (f:=0) aJ ((by first|exact Jc rfl p5 rfl|exact Ns rfl p5 rfl|exact SZ rfl p5 rfl|exact S0 rfl p5 rfl)) ?_
 refine aN.go (f:=0) aJ (aI rfl) ?_
 refine aN.nil ?_
 refine AX.block ?_
 refine AX.loop (α:=Nat) (λi=>⟨eC 19 [(0,.t (.sl l)),(1,.t (.str v)),(7,.t (.int .i64 l.length)),(8,.t (.int .i64 i))],[],0⟩) (λi=>i<=l.length) (λi=>l.length - i) 0 (Re.sq [] ⟨rfl,rfl,rfl,rfl,trivial⟩ trivial (by decide) rfl rfl (by decide)) (Nat.zero_le _) (λi hok=> ?_)
 replace hok:i<=l.length:=hok
 refine AX.seq ?_
 refine AX.region ?_
 refine aN.go (f:=0) aJ (pE rfl rfl) ?_
 refine aN.nil ?_
 refine AX.seq ?_
 refine AX.cond rfl (λh9=> ?_) (λh9=> ?_)
 ·have hlt:i<l.length:=by have:=of_decide_eq_true h9;omega
  obtain⟨e,he⟩:∃e,l[i]?=some e:=⟨l[i],List.getElem?_eq_getElem hlt⟩;obtain⟨u,rfl⟩:=hf e (List.mem_of_getElem? he);refine AX.skip ?_;refine AX.seq ?_;refine AX.block ?_;refine AX.seq ?_;refine AX.region ?_;refine aN.go (f:=0) aJ (aI rfl) ?_;refine aN.go (f:=0) aJ (aK rfl) ?_;refine aN.nil ?_;refine AX.seq ?_;refine AX.region ?_;refine aN.go (f:=0) aJ (aI rfl) ?_;refine aN.go (f:=0) aJ (aI rfl) ?_;refine aN.go (f:=0) aJ (aI rfl) ?_;refine aN.go (f:=0) aJ (Jd rfl rfl p5 rfl qP he rfl) ?_;refine aN.go (f:=0) aJ ((by first|exact kV rfl (ld qP rfl rfl)|exact mM rfl (ld qP rfl rfl))) ?_;refine aN.go (f:=0) aJ (ag4 rfl rfl) ?_;refine aN.nil ?_;refine AX.cond rfl (λh16=> ?_) (λh16=> ?_)
  ·skip;refine AX.seq ?_;refine AX.region ?_;refine aN.go (f:=0) aJ (aI rfl) ?_;refine aN.go (f:=0) aJ (aK rfl) ?_;refine aN.nil ?_;refine AX.ret ?_;refine AX.cD ?_;refine AX.cW ?_;refine AX.leave (e:=.ret) (by simp) ?_;refine AX.cD ?_;refine AX.cW ?_;exact⟨_,.inl rfl⟩
  ·skip;refine AX.skip ?_;refine AX.lD ?_;refine AX.region ?_;refine aN.go (f:=0) aJ (Nq rfl rfl (by omega) (by omega)) ?_;refine aN.go (f:=0) aJ (aI rfl) ?_;refine aN.nil ?_;exact⟨.inl ⟨i+1,by show i+1<=_/\l.length - (i+1)<l.length - i;omega⟩,rfl,(Re.sq [] ⟨rfl,rfl,rfl,rfl,trivial⟩ trivial (by decide) rfl rfl (by decide))⟩
 ·skip;refine AX.exit ?_;refine AX.k8 ?_;refine AX.leave (e:=.exit 0) (by simp) ?_;refine AX.nu ?_;refine AX.seq ?_;refine AX.region ?_;refine aN.go (f:=0) aJ (aK rfl) ?_;refine aN.nil ?_;refine AX.ret ?_;exact⟨_,.inl rfl⟩
theorem aiI {m:Int}{ev:bt}(aJ:aC (cf m) ev)(x y:Tree)(z:Int)(hI:ev 101 [.t x,.t y] []=some (.ret (.t (.int .i64 z)) [] [])):
 ∃r:Bool,ai (cf m) 76 [.t x,.t y] [] (.ret (.t (.bool r)) [] []):=by
 refine AX.start 9 2 Tryz.func76 rfl (by decide) rfl rfl (by decide) ?_
 refine AX.seq ?_
 refine AX.region ?_
 refine aN.go (f:=0) aJ (aK rfl) ?_
 refine aN.nil ?_
 refine AX.seq ?_
 refine AX.region ?_
 refine aN.go (f:=0) aJ (aI rfl) ?_
 refine aN.go (f:=0) aJ (aI rfl) ?_
 refine aN.go (f:=0) aJ (iB (rh2 rfl rfl) hI) ?_
 refine aN.go (f:=0) aJ (PU rfl rfl) ?_
 refine aN.go (f:=0) aJ (aK rfl) ?_
 refine aN.nil ?_
 refine AX.ret ?_
 exact⟨_,.inl rfl⟩
theorem aet {s:List UInt8}(h:(s==[])=false):∃b s',s=b::s':=by
 cases s with
 |nil=>simp at h
 |cons b s'=>exact⟨b,s',rfl⟩
theorem aeu {m:Int}{ev:bt}(aJ:aC (cf m) ev)(dg:Int->Bool)(cw nb:List UInt8->Bool)(hF:ev 128 [.t (.str Zp)] []=some (.ret (.t (.sl (zg.map .str))) [] []))(hD:∀n,ev 129 [.t (.int .u8 n)] []=some (.ret (.t (.bool (dg n))) [] []))
 (hC:∀s,ev 76 [.t (.sl (zg.map .str)),.t (.str s)] []=some (.ret (.t (.bool (cw s))) [] []))(hB:∀s:List UInt8,s.length<=64->ev 130 [.t (.sl (s.map λb=>.int .u8 b.toNat)),.t (.fn (.func 131))] []=some (.ret (.t (.bool (nb s))) [] []))(s:List UInt8):
 ∃r:Bool,ai (cf m) 82 [.t (.str s)] [] (.ret (.t (.bool r)) [] []):=by
 refine AX.start 26 1 Tryz.func82 rfl (by decide) rfl rfl (by decide) ?_
 refine AX.seq ?_
 refine AX.region ?_
 refine aN.go (f:=0) aJ (aK rfl) ?_
 refine aN.nil ?_
 refine AX.seq ?_
 refine AX.region ?_
 refine aN.go (f:=0) aJ (iB (Lg rfl) hF) ?_
 refine aN.go (f:=0) aJ (aK rfl) ?_
 refine aN.nil ?_
 refine AX.seq ?_
 refine AX.seq ?_
 refine AX.region ?_
 refine aN.go (f:=0) aJ (aI rfl) ?_
 refine aN.go (f:=0) aJ (ag4 rfl rfl) ?_
 refine aN.go (f:=0) aJ (aI rfl) ?_
 refine aN.split 7 rfl (λSl=> ?_) (λSl=> ?_)
 ·skip;refine aN.no rfl rfl rfl (aX Sl) ?_;refine aN.no rfl rfl rfl (aX Sl) ?_;refine aN.no rfl rfl rfl (aX Sl) ?_;refine aN.go (f:=0) aJ (bY rfl Sl rfl rfl) ?_;refine aN.go (f:=0) aJ (aI rfl) ?_;refine aN.no rfl rfl rfl (aX rfl) ?_;refine aN.no rfl rfl rfl (aX rfl) ?_;refine aN.no rfl rfl rfl (aX rfl) ?_;refine aN.go (f:=0) aJ (bY rfl rfl rfl rfl) ?_;refine aN.go (f:=0) aJ (aI rfl) ?_;refine aN.no rfl rfl rfl (aX rfl) ?_;refine aN.no rfl rfl rfl (aX rfl) ?_;refine aN.no rfl rfl rfl (aX rfl) ?_;refine aN.go (f:=0) aJ (bY rfl rfl rfl rfl) ?_;refine aN.nil ?_;refine AX.qg rfl rfl ?_;refine AX.seq ?_;refine AX.region ?_;refine aN.go (f:=0) aJ (aK rfl) ?_;refine aN.nil ?_;refine AX.ret ?_;refine AX.cW ?_;exact⟨_,.inl rfl⟩
 ·obtain⟨b,s',rfl⟩:=aet Sl;refine aN.yes (f:=0) aJ rfl rfl rfl (dW Sl) (aI rfl) ?_;refine aN.yes (f:=0) aJ rfl rfl rfl (dW Sl) (xw rfl qP rfl) ?_;refine aN.yes (f:=0) aJ rfl rfl rfl (dW Sl) (PT rfl rfl) ?_;refine aN.go (f:=0) aJ (fW rfl Sl rfl rfl) ?_;refine aN.go (f:=0) aJ (aI rfl) ?_;refine aN.split 12 rfl (λcC=> ?_) (λcC=> ?_)
  ·skip;refine aN.no rfl rfl rfl (aX cC) ?_;refine aN.no rfl rfl rfl (aX cC) ?_;refine aN.no rfl rfl rfl (aX cC) ?_;refine aN.go (f:=0) aJ (bY rfl cC rfl rfl) ?_;refine aN.go (f:=0) aJ (aI rfl) ?_;refine aN.no rfl rfl rfl (aX rfl) ?_;refine aN.no rfl rfl rfl (aX rfl) ?_;refine aN.no rfl rfl rfl (aX rfl) ?_;refine aN.go (f:=0) aJ (bY rfl rfl rfl rfl) ?_;refine aN.nil ?_;refine AX.qg rfl rfl ?_;refine AX.seq ?_;refine AX.region ?_;refine aN.go (f:=0) aJ (aK rfl) ?_;refine aN.nil ?_;refine AX.ret ?_;refine AX.cW ?_;exact⟨_,.inl rfl⟩
  ·have h64:(b::s').length<=64:=by have:=of_decide_eq_false cC;omega
   refine aN.yes (f:=0) aJ rfl rfl rfl (dW cC) (aI rfl) ?_;refine aN.yes (f:=0) aJ rfl rfl rfl (dW cC) (jL rfl rfl qP rfl rfl) ?_;refine aN.yes (f:=0) aJ rfl rfl rfl (dW cC) (iB (Lg rfl) (hD _)) ?_;refine aN.go (f:=0) aJ (fW rfl cC rfl rfl) ?_;refine aN.go (f:=0) aJ (aI rfl) ?_;refine aN.split 17 rfl (λsH=> ?_) (λsH=> ?_)
   ·skip;refine aN.no rfl rfl rfl (aX sH) ?_;refine aN.no rfl rfl rfl (aX sH) ?_;refine aN.no rfl rfl rfl (aX sH) ?_;refine aN.go (f:=0) aJ (bY rfl sH rfl rfl) ?_;refine aN.nil ?_;refine AX.qg rfl rfl ?_;refine AX.seq ?_;refine AX.region ?_;refine aN.go (f:=0) aJ (aK rfl) ?_;refine aN.nil ?_;refine AX.ret ?_;refine AX.cW ?_;exact⟨_,.inl rfl⟩
   ·skip;refine aN.yes (f:=0) aJ rfl rfl rfl (dW sH) (aI rfl) ?_;refine aN.yes (f:=0) aJ rfl rfl rfl (dW sH) (aI rfl) ?_;refine aN.yes (f:=0) aJ rfl rfl rfl (dW sH) (iB (rh2 rfl rfl) (hC _)) ?_;refine aN.go (f:=0) aJ (fW rfl sH rfl rfl) ?_;refine aN.nil ?_;refine AX.cond rfl (λh21=> ?_) (λh21=> ?_)
    ·skip;refine AX.seq ?_;refine AX.region ?_;refine aN.go (f:=0) aJ (aK rfl) ?_;refine aN.nil ?_;refine AX.ret ?_;refine AX.cW ?_;exact⟨_,.inl rfl⟩
    ·skip;refine AX.skip ?_;refine AX.seq ?_;refine AX.region ?_;refine aN.go (f:=0) aJ (aI rfl) ?_;refine aN.go (f:=0) aJ (ad3 rfl rfl qP rfl Mc rfl O7 rfl) ?_;refine aN.go (f:=0) aJ (iB (rh2 rfl rfl) (hB _ h64)) ?_;refine aN.go (f:=0) aJ (L3 rfl) ?_;refine aN.go (f:=0) aJ (aK rfl) ?_;refine aN.nil ?_;refine AX.ret ?_;exact⟨_,.inl rfl⟩
theorem NX {m:Int}{ev:bt}(aJ:aC (cf m) ev)(nm:List UInt8->Bool)(hN:∀s,ev 82 [.t (.str s)] []=some (.ret (.t (.bool (nm s))) [] []))(s:List UInt8):
 ∃r:Bool,ai (cf m) 81 [.t (.str s)] [] (.ret (.t (.bool r)) [] []):=by
 refine AX.start 6 1 Tryz.func81 rfl (by decide) rfl rfl (by decide) ?_
 refine AX.seq ?_
 refine AX.region ?_
 refine aN.go (f:=0) aJ (aK rfl) ?_
 refine aN.nil ?_
 refine AX.seq ?_
 refine AX.region ?_
 refine aN.go (f:=0) aJ (aI rfl) ?_
 refine aN.go (f:=0) aJ (iB (Lg rfl) (hN _)) ?_
 refine aN.go (f:=0) aJ (L3 rfl) ?_
 refine aN.go (f:=0) aJ (aK rfl) ?_
 refine aN.nil ?_
 refine AX.ret ?_
 exact⟨_,.inl rfl⟩
theorem Qw {m:Int}{ev:bt}(aJ:aC (cf m) ev)(pc:List UInt8->List (List UInt8))(ct:List UInt8->Bool)(hS:∀s:List UInt8,s.length<=64->ev 80 [.t (.str s),.t (.str [58,58])] []=some (.ret (.t (.sl ((pc s).map .str))) [] []))
 (hC:∀s:List UInt8,s.length<=64->ev 79 [.t (.sl ((pc s).map .str)),.t (.fn (.func 81))] []=some (.ret (.t (.bool (ct s))) [] []))(s:List UInt8):
 ∃r:Bool,ai (cf m) 40 [.t (.str s)] [] (.ret (.t (.bool r)) [] []):=by
 refine AX.start 12 1 Tryz.func40 rfl (by decide) rfl rfl (by decide) ?_
 refine AX.seq ?_
 refine AX.region ?_
 refine aN.go (f:=0) aJ (aK rfl) ?_
 refine aN.nil ?_
 refine AX.seq ?_
 refine AX.region ?_
 refine aN.go (f:=0) aJ (aI rfl) ?_
 refine aN.go (f:=0) aJ (xw rfl qP rfl) ?_
 refine aN.go (f:=0) aJ (Ze rfl rfl) ?_
 refine aN.go (f:=0) aJ (aI rfl) ?_
 refine aN.split 6 rfl (λqE=> ?_) (λqE=> ?_)
 ·have h64:s.length<=64:=by have:=of_decide_eq_true qE;omega
  refine aN.yes (f:=0) aJ rfl rfl rfl (fG qE) (aI rfl) ?_;refine aN.yes (f:=0) aJ rfl rfl rfl (fG qE) (iB (rh2 rfl rfl) (hS _ h64)) ?_;refine aN.yes (f:=0) aJ rfl rfl rfl (fG qE) (iB (rh2 rfl rfl) (hC _ h64)) ?_;refine aN.yes (f:=0) aJ rfl rfl rfl (fG qE) (L3 rfl) ?_;refine aN.go (f:=0) aJ (bY rfl qE rfl rfl) ?_;refine aN.go (f:=0) aJ (aK rfl) ?_;refine aN.nil ?_;refine AX.ret ?_;exact⟨_,.inl rfl⟩
 ·skip;refine aN.no rfl rfl rfl (fH qE) ?_;refine aN.no rfl rfl rfl (fH qE) ?_;refine aN.no rfl rfl rfl (fH qE) ?_;refine aN.no rfl rfl rfl (fH qE) ?_;refine aN.go (f:=0) aJ (fW rfl qE rfl rfl) ?_;refine aN.go (f:=0) aJ (aK rfl) ?_;refine aN.nil ?_;refine AX.ret ?_;exact⟨_,.inl rfl⟩
end
end Go.Proofs.YtfdnciimclnncaaGreatDoor.w
