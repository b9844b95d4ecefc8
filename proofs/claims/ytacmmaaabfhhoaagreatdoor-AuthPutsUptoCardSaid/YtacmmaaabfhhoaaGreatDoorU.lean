/- More of it. -/
import Derived.Test.YtacmmaaabfhhoaaGreatDoorT
import Derived.Test.YtacmmaaabfhhoaaGreatDoorJ
set_option linter.unusedVariables false
set_option linter.unusedSimpArgs false
namespace Go.Proofs.YtacmmaaabfhhoaaGreatDoor.w
open Go Go.Abs
set_option maxRecDepth 100000
set_option maxHeartbeats 1000000
noncomputable section
abbrev ab3:TI:={size:=1,bytes:=24,agg:=false,zero:=some (.bJ),desc:=.slice 5}
theorem EF {m:Int}:(cf m).P.ty 249=some ab3:=by kernel_rfl
theorem I0 {m:Int}{ev:aX}(az:aF (cf m) ev)(n:Int):∃r:Bool,ai (cf m) 185 [.t (.int .u8 n)] [] (.ret (.t (.bool r)) [] []):=by
 refine AX.start 9 1 Tryz.func185 rfl (by decide) rfl rfl (by decide) ?_;refine AX.seq ?_;refine AX.region ?_;refine aC.go (f:=0) az (aB rfl) ?_;refine aC.nil ?_;refine AX.seq ?_;refine AX.region ?_;refine aC.go (f:=0) az (au rfl) ?_;refine aC.go (f:=0) az (Ij rfl rfl) ?_;refine aC.go (f:=0) az (au rfl) ?_;refine aC.split 5 rfl (λqj=> ?_) (λqj=> ?_)
 ·refine aC.yes (f:=0) az rfl rfl rfl (eu qj) (au rfl) ?_;refine aC.yes (f:=0) az rfl rfl rfl (eu qj) (QC rfl rfl) ?_;refine aC.go (f:=0) az (bw rfl qj rfl rfl) ?_;refine aC.go (f:=0) az (aB rfl) ?_;refine aC.nil ?_;refine AX.ret ?_;exact⟨_,.inl rfl⟩
 ·refine aC.no rfl rfl rfl (ew qj) ?_;refine aC.no rfl rfl rfl (ew qj) ?_;refine aC.go (f:=0) az (cy rfl qj rfl rfl) ?_;refine aC.go (f:=0) az (aB rfl) ?_;refine aC.nil ?_;refine AX.ret ?_;exact⟨_,.inl rfl⟩
theorem Oo {m:Int}{ev:aX}(az:aF (cf m) ev)(n:Int):∃r:Bool,ai (cf m) 188 [.t (.int .u8 n)] [] (.ret (.t (.bool r)) [] []):=by
 refine AX.start 15 1 Tryz.func188 rfl (by decide) rfl rfl (by decide) ?_;refine AX.seq ?_;refine AX.region ?_;refine aC.go (f:=0) az (aB rfl) ?_;refine aC.nil ?_;refine AX.seq ?_;refine AX.region ?_;refine aC.go (f:=0) az (au rfl) ?_;refine aC.go (f:=0) az (fX rfl rfl rfl) ?_;refine aC.go (f:=0) az (Ij rfl rfl) ?_;refine aC.go (f:=0) az (au rfl) ?_;refine aC.split 6 rfl (λo4=> ?_) (λo4=> ?_)
 ·refine aC.yes (f:=0) az rfl rfl rfl (eu o4) (au rfl) ?_;refine aC.yes (f:=0) az rfl rfl rfl (eu o4) (fX rfl rfl rfl) ?_;refine aC.yes (f:=0) az rfl rfl rfl (eu o4) (QC rfl rfl) ?_;refine aC.go (f:=0) az (bw rfl o4 rfl rfl) ?_;refine aC.go (f:=0) az (au rfl) ?_;refine aC.split 11 rfl (λyQ=> ?_) (λyQ=> ?_)
  ·refine aC.no rfl rfl rfl (aE yQ) ?_;refine aC.no rfl rfl rfl (aE yQ) ?_;refine aC.go (f:=0) az (bw rfl yQ rfl rfl) ?_;refine aC.go (f:=0) az (aB rfl) ?_;refine aC.nil ?_;refine AX.ret ?_;exact⟨_,.inl rfl⟩
  ·refine aC.yes (f:=0) az rfl rfl rfl (aS yQ) (au rfl) ?_;refine aC.yes (f:=0) az rfl rfl rfl (aS yQ) (mZ rfl rfl) ?_;refine aC.go (f:=0) az (cy rfl yQ rfl rfl) ?_;refine aC.go (f:=0) az (aB rfl) ?_;refine aC.nil ?_;refine AX.ret ?_;exact⟨_,.inl rfl⟩
 ·refine aC.no rfl rfl rfl (ew o4) ?_;refine aC.no rfl rfl rfl (ew o4) ?_;refine aC.no rfl rfl rfl (ew o4) ?_;refine aC.go (f:=0) az (cy rfl o4 rfl rfl) ?_;refine aC.go (f:=0) az (au rfl) ?_;refine aC.yes (f:=0) az rfl rfl rfl (aS rfl) (au rfl) ?_;refine aC.yes (f:=0) az rfl rfl rfl (aS rfl) (mZ rfl rfl) ?_;refine aC.go (f:=0) az (cy rfl rfl rfl rfl) ?_;refine aC.go (f:=0) az (aB rfl) ?_;refine aC.nil ?_;refine AX.ret ?_;exact⟨_,.inl rfl⟩
theorem RZ {m:Int}{ev:aX}(az:aF (cf m) ev)(lt dg:Int->Bool)(hL:∀n,ev 188 [.t (.int .u8 n)] []=some (.ret (.t (.bool (lt n))) [] []))(hD:∀n,ev 185 [.t (.int .u8 n)] []=some (.ret (.t (.bool (dg n))) [] []))(n:Int):
 ∃r:Bool,ai (cf m) 187 [.t (.int .u8 n)] [] (.ret (.t (.bool r)) [] []):=by
 refine AX.start 11 1 Tryz.func187 rfl (by decide) rfl rfl (by decide) ?_
 refine AX.seq ?_
 refine AX.region ?_
 refine aC.go (f:=0) az (aB rfl) ?_
 refine aC.nil ?_
 refine AX.seq ?_
 refine AX.region ?_
 refine aC.go (f:=0) az (au rfl) ?_
 refine aC.go (f:=0) az (fk (zn rfl) (hL _)) ?_
 refine aC.go (f:=0) az (ym rfl) ?_
 refine aC.go (f:=0) az (au rfl) ?_
 refine aC.split 6 rfl (λo4=> ?_) (λo4=> ?_)
 ·refine aC.yes (f:=0) az rfl rfl rfl (eu o4) (au rfl) ?_;refine aC.yes (f:=0) az rfl rfl rfl (eu o4) (fk (zn rfl) (hD _)) ?_;refine aC.yes (f:=0) az rfl rfl rfl (eu o4) (ym rfl) ?_;refine aC.go (f:=0) az (bw rfl o4 rfl rfl) ?_;refine aC.go (f:=0) az (aB rfl) ?_;refine aC.nil ?_;refine AX.ret ?_;exact⟨_,.inl rfl⟩
 ·refine aC.no rfl rfl rfl (ew o4) ?_;refine aC.no rfl rfl rfl (ew o4) ?_;refine aC.no rfl rfl rfl (ew o4) ?_;refine aC.go (f:=0) az (cy rfl o4 rfl rfl) ?_;refine aC.go (f:=0) az (aB rfl) ?_;refine aC.nil ?_;refine AX.ret ?_;exact⟨_,.inl rfl⟩
theorem Zz {m:Int}{ev:aX}(az:aF (cf m) ev)(l:List Tree)(hl:l.length<=4194304)(hf:∀e∈l,∃n,e=.int .u8 n)(g:FuncId)(q:Tree->Bool)(hq:∀e∈l,ev g [.t e] []=some (.ret (.t (.bool (q e))) [] [])):
 ∃r:Int,ai (cf m) 220 [.t (.sl l),.t (.fn (.func g))] [] (.ret (.t (.int .i64 r)) [] []):=by
 refine AX.start 19 2 Tryz.func220 rfl (by decide) rfl rfl (by decide) ?_
 refine AX.seq ?_
 refine AX.region ?_
 refine aC.go (f:=0) az (aB rfl) ?_
 refine aC.nil ?_
 refine AX.seq ?_
 refine AX.seq ?_
 refine AX.region ?_
 refine aC.go (f:=0) az (au rfl) ?_
 refine aC.go (f:=0) az ((by first|exact oD rfl EF rfl|exact FT rfl EF rfl|exact Ki rfl EF rfl|exact Kj rfl EF rfl)) ?_
 refine aC.go (f:=0) az (au rfl) ?_
 refine aC.nil ?_
 refine AX.block ?_
 refine AX.loop (α:=Nat) (λi=>⟨dU 19 [(0,.t (.sl l)),(1,.t (.fn (.func g))),(7,.t (.int .i64 l.length)),(8,.t (.int .i64 i))],[],0⟩) (λi=>i<=l.length) (λi=>l.length - i) 0 (Re.sq [] ⟨rfl,rfl,rfl,rfl,trivial⟩ trivial (by decide) rfl rfl (by decide)) (Nat.zero_le _) (λi hok=> ?_)
 replace hok:i<=l.length:=hok
 refine AX.seq ?_
 refine AX.region ?_
 refine aC.go (f:=0) az (mK rfl rfl) ?_
 refine aC.nil ?_
 refine AX.seq ?_
 refine AX.cond rfl (λh9=> ?_) (λh9=> ?_)
 ·have hlt:i<l.length:=by have:=of_decide_eq_true h9;omega
  obtain⟨e,he⟩:∃e,l[i]?=some e:=⟨l[i],List.getElem?_eq_getElem hlt⟩;obtain⟨n,rfl⟩:=hf e (List.mem_of_getElem? he);refine AX.skip ?_;refine AX.seq ?_;refine AX.block ?_;refine AX.seq ?_;refine AX.region ?_;refine aC.go (f:=0) az (au rfl) ?_;refine aC.go (f:=0) az (aB rfl) ?_;refine aC.nil ?_;refine AX.seq ?_;refine AX.region ?_;refine aC.go (f:=0) az (au rfl) ?_;refine aC.go (f:=0) az (au rfl) ?_;refine aC.go (f:=0) az (au rfl) ?_;refine aC.go (f:=0) az (Cj rfl rfl EF rfl Ht he rfl) ?_;refine aC.go (f:=0) az ((by first|exact dR rfl (ld Ht rfl rfl)|exact dQ rfl (ld Ht rfl rfl))) ?_;refine aC.go (f:=0) az (Mr rfl (zn rfl) (hq _ (List.mem_of_getElem? he))) ?_;refine aC.nil ?_;refine AX.cond rfl (λh16=> ?_) (λh16=> ?_)
  ·skip;refine AX.seq ?_;refine AX.region ?_;refine aC.go (f:=0) az (au rfl) ?_;refine aC.go (f:=0) az (aB rfl) ?_;refine aC.nil ?_;refine AX.ret ?_;refine AX.bH ?_;refine AX.bQ ?_;refine AX.leave (e:=.ret) (by simp) ?_;refine AX.bH ?_;refine AX.bQ ?_;exact⟨_,.inl rfl⟩
  ·skip;refine AX.skip ?_;refine AX.jM ?_;refine AX.region ?_;refine aC.go (f:=0) az (FP rfl rfl (by omega) (by omega)) ?_;refine aC.go (f:=0) az (au rfl) ?_;refine aC.nil ?_;exact⟨.inl ⟨i+1,by show i+1<=_/\l.length - (i+1)<l.length - i;omega⟩,rfl,(Re.sq [] ⟨rfl,rfl,rfl,rfl,trivial⟩ trivial (by decide) rfl rfl (by decide))⟩
 ·skip;refine AX.exit ?_;refine AX.jG ?_;refine AX.leave (e:=.exit 0) (by simp) ?_;refine AX.lB ?_;refine AX.seq ?_;refine AX.region ?_;refine aC.go (f:=0) az (aB rfl) ?_;refine aC.nil ?_;refine AX.ret ?_;exact⟨_,.inl rfl⟩
theorem ZA {m:Int}{ev:aX}(az:aF (cf m) ev)(x y:Tree)(z:Int)(hI:ev 220 [.t x,.t y] []=some (.ret (.t (.int .i64 z)) [] [])):
 ∃r:Bool,ai (cf m) 186 [.t x,.t y] [] (.ret (.t (.bool r)) [] []):=by
 refine AX.start 9 2 Tryz.func186 rfl (by decide) rfl rfl (by decide) ?_
 refine AX.seq ?_
 refine AX.region ?_
 refine aC.go (f:=0) az (aB rfl) ?_
 refine aC.nil ?_
 refine AX.seq ?_
 refine AX.region ?_
 refine aC.go (f:=0) az (au rfl) ?_
 refine aC.go (f:=0) az (au rfl) ?_
 refine aC.go (f:=0) az (fk (XU rfl rfl) hI) ?_
 refine aC.go (f:=0) az (Ij rfl rfl) ?_
 refine aC.go (f:=0) az (aB rfl) ?_
 refine aC.nil ?_
 refine AX.ret ?_
 exact⟨_,.inl rfl⟩
theorem ZB {m:Int}{ev:aX}(az:aF (cf m) ev)(l:List Tree)(hl:l.length<=4194304)(hf:∀e∈l,∃u,e=.str u)(g:FuncId)(q:Tree->Bool)(hq:∀e∈l,ev g [.t e] []=some (.ret (.t (.bool (q e))) [] [])):
 ∃r:Int,ai (cf m) 182 [.t (.sl l),.t (.fn (.func g))] [] (.ret (.t (.int .i64 r)) [] []):=by
 refine AX.start 19 2 Tryz.func182 rfl (by decide) rfl rfl (by decide) ?_
 refine AX.seq ?_
 refine AX.region ?_
 refine aC.go (f:=0) az (aB rfl) ?_
 refine aC.nil ?_
 refine AX.seq ?_
 refine AX.seq ?_
 refine AX.region ?_
 refine aC.go (f:=0) az (au rfl) ?_
 refine aC.go (f:=0) az ((by first|exact oD rfl kS rfl|exact FT rfl kS rfl|exact Ki rfl kS rfl|exact Kj rfl kS rfl)) ?_
 refine aC.go (f:=0) az (au rfl) ?_
 refine aC.nil ?_
 refine AX.block ?_
 refine AX.loop (α:=Nat) (λi=>⟨dU 19 [(0,.t (.sl l)),(1,.t (.fn (.func g))),(7,.t (.int .i64 l.length)),(8,.t (.int .i64 i))],[],0⟩) (λi=>i<=l.length) (λi=>l.length - i) 0 (Re.sq [] ⟨rfl,rfl,rfl,rfl,trivial⟩ trivial (by decide) rfl rfl (by decide)) (Nat.zero_le _) (λi hok=> ?_)
 replace hok:i<=l.length:=hok
 refine AX.seq ?_
 refine AX.region ?_
 refine aC.go (f:=0) az (mK rfl rfl) ?_
 refine aC.nil ?_
 refine AX.seq ?_
 refine AX.cond rfl (λh9=> ?_) (λh9=> ?_)
 ·have hlt:i<l.length:=by have:=of_decide_eq_true h9;omega
  obtain⟨e,he⟩:∃e,l[i]?=some e:=⟨l[i],List.getElem?_eq_getElem hlt⟩;obtain⟨u,rfl⟩:=hf e (List.mem_of_getElem? he);refine AX.skip ?_;refine AX.seq ?_;refine AX.block ?_;refine AX.seq ?_;refine AX.region ?_;refine aC.go (f:=0) az (au rfl) ?_;refine aC.go (f:=0) az (aB rfl) ?_;refine aC.nil ?_;refine AX.seq ?_;refine AX.region ?_;refine aC.go (f:=0) az (au rfl) ?_;refine aC.go (f:=0) az (au rfl) ?_;refine aC.go (f:=0) az (au rfl) ?_;refine aC.go (f:=0) az (Cj rfl rfl kS rfl l5 he rfl) ?_;refine aC.go (f:=0) az ((by first|exact dR rfl (ld l5 rfl rfl)|exact dQ rfl (ld l5 rfl rfl))) ?_;refine aC.go (f:=0) az (Mr rfl (zn rfl) (hq _ (List.mem_of_getElem? he))) ?_;refine aC.nil ?_;refine AX.cond rfl (λh16=> ?_) (λh16=> ?_)
  ·skip;refine AX.seq ?_;refine AX.region ?_;refine aC.go (f:=0) az (au rfl) ?_;refine aC.go (f:=0) az (aB rfl) ?_;refine aC.nil ?_;refine AX.ret ?_;refine AX.bH ?_;refine AX.bQ ?_;refine AX.leave (e:=.ret) (by simp) ?_;refine AX.bH ?_;refine AX.bQ ?_;exact⟨_,.inl rfl⟩
  ·skip;refine AX.skip ?_;refine AX.jM ?_;refine AX.region ?_;refine aC.go (f:=0) az (FP rfl rfl (by omega) (by omega)) ?_;refine aC.go (f:=0) az (au rfl) ?_;refine aC.nil ?_;exact⟨.inl ⟨i+1,by show i+1<=_/\l.length - (i+1)<l.length - i;omega⟩,rfl,(Re.sq [] ⟨rfl,rfl,rfl,rfl,trivial⟩ trivial (by decide) rfl rfl (by decide))⟩
 ·skip;refine AX.exit ?_;refine AX.jG ?_;refine AX.leave (e:=.exit 0) (by simp) ?_;refine AX.lB ?_;refine AX.seq ?_;refine AX.region ?_;refine aC.go (f:=0) az (aB rfl) ?_;refine aC.nil ?_;refine AX.ret ?_;exact⟨_,.inl rfl⟩
theorem ZC {m:Int}{ev:aX}(az:aF (cf m) ev)(x y:Tree)(z:Int)(hI:ev 182 [.t x,.t y] []=some (.ret (.t (.int .i64 z)) [] [])):
 ∃r:Bool,ai (cf m) 142 [.t x,.t y] [] (.ret (.t (.bool r)) [] []):=by
 refine AX.start 9 2 Tryz.func142 rfl (by decide) rfl rfl (by decide) ?_
 refine AX.seq ?_
 refine AX.region ?_
 refine aC.go (f:=0) az (aB rfl) ?_
 refine aC.nil ?_
 refine AX.seq ?_
 refine AX.region ?_
 refine aC.go (f:=0) az (au rfl) ?_
 refine aC.go (f:=0) az (au rfl) ?_
 refine aC.go (f:=0) az (fk (XU rfl rfl) hI) ?_
 refine aC.go (f:=0) az (Ij rfl rfl) ?_
 refine aC.go (f:=0) az (aB rfl) ?_
 refine aC.nil ?_
 refine AX.ret ?_
 exact⟨_,.inl rfl⟩
theorem ZD {m:Int}{ev:aX}(az:aF (cf m) ev)(l:List Tree)(hl:l.length<=4194304)(hf:∀e∈l,∃u,e=.str u)(v:List UInt8):
 ∃r:Int,ai (cf m) 162 [.t (.sl l),.t (.str v)] [] (.ret (.t (.int .i64 r)) [] []):=by
 refine AX.start 19 2 Tryz.func162 rfl (by decide) rfl rfl (by decide) ?_
 refine AX.seq ?_
 refine AX.region ?_
 refine aC.go (f:=0) az (aB rfl) ?_
 refine aC.nil ?_
 refine AX.seq ?_
 refine AX.seq ?_
 refine AX.region ?_
 refine aC.go (f:=0) az (au rfl) ?_
 refine aC.go (f:=0) az ((by first|exact oD rfl kS rfl|exact FT rfl kS rfl|exact Ki rfl kS rfl|exact Kj rfl kS rfl)) ?_
 refine aC.go (f:=0) az (au rfl) ?_
 refine aC.nil ?_
 refine AX.block ?_
 refine AX.loop (α:=Nat) (λi=>⟨dU 19 [(0,.t (.sl l)),(1,.t (.str v)),(7,.t (.int .i64 l.length)),(8,.t (.int .i64 i))],[],0⟩) (λi=>i<=l.length) (λi=>l.length - i) 0 (Re.sq [] ⟨rfl,rfl,rfl,rfl,trivial⟩ trivial (by decide) rfl rfl (by decide)) (Nat.zero_le _) (λi hok=> ?_)
 replace hok:i<=l.length:=hok
 refine AX.seq ?_
 refine AX.region ?_
 refine aC.go (f:=0) az (mK rfl rfl) ?_
 refine aC.nil ?_
 refine AX.seq ?_
 refine AX.cond rfl (λh9=> ?_) (λh9=> ?_)
 ·have hlt:i<l.length:=by have:=of_decide_eq_true h9;omega
  obtain⟨e,he⟩:∃e,l[i]?=some e:=⟨l[i],List.getElem?_eq_getElem hlt⟩;obtain⟨u,rfl⟩:=hf e (List.mem_of_getElem? he);refine AX.skip ?_;refine AX.seq ?_;refine AX.block ?_;refine AX.seq ?_;refine AX.region ?_;refine aC.go (f:=0) az (au rfl) ?_;refine aC.go (f:=0) az (aB rfl) ?_;refine aC.nil ?_;refine AX.seq ?_;refine AX.region ?_;refine aC.go (f:=0) az (au rfl) ?_;refine aC.go (f:=0) az (au rfl) ?_;refine aC.go (f:=0) az (au rfl) ?_;refine aC.go (f:=0) az (Cj rfl rfl kS rfl l5 he rfl) ?_;refine aC.go (f:=0) az ((by first|exact dR rfl (ld l5 rfl rfl)|exact dQ rfl (ld l5 rfl rfl))) ?_;refine aC.go (f:=0) az (XT rfl rfl) ?_;refine aC.nil ?_;refine AX.cond rfl (λh16=> ?_) (λh16=> ?_)
  ·skip;refine AX.seq ?_;refine AX.region ?_;refine aC.go (f:=0) az (au rfl) ?_;refine aC.go (f:=0) az (aB rfl) ?_;refine aC.nil ?_;refine AX.ret ?_;refine AX.bH ?_;refine AX.bQ ?_;refine AX.leave (e:=.ret) (by simp) ?_;refine AX.bH ?_;refine AX.bQ ?_;exact⟨_,.inl rfl⟩
  ·skip;refine AX.skip ?_;refine AX.jM ?_;refine AX.region ?_;refine aC.go (f:=0) az (FP rfl rfl (by omega) (by omega)) ?_;refine aC.go (f:=0) az (au rfl) ?_;refine aC.nil ?_;exact⟨.inl ⟨i+1,by show i+1<=_/\l.length - (i+1)<l.length - i;omega⟩,rfl,(Re.sq [] ⟨rfl,rfl,rfl,rfl,trivial⟩ trivial (by decide) rfl rfl (by decide))⟩
 ·skip;refine AX.exit ?_;refine AX.jG ?_;refine AX.leave (e:=.exit 0) (by simp) ?_;refine AX.lB ?_;refine AX.seq ?_;refine AX.region ?_;refine aC.go (f:=0) az (aB rfl) ?_;refine aC.nil ?_;refine AX.ret ?_;exact⟨_,.inl rfl⟩
theorem ZE {m:Int}{ev:aX}(az:aF (cf m) ev)(x y:Tree)(z:Int)(hI:ev 162 [.t x,.t y] []=some (.ret (.t (.int .i64 z)) [] [])):
 ∃r:Bool,ai (cf m) 179 [.t x,.t y] [] (.ret (.t (.bool r)) [] []):=by
 refine AX.start 9 2 Tryz.func179 rfl (by decide) rfl rfl (by decide) ?_
 refine AX.seq ?_
 refine AX.region ?_
 refine aC.go (f:=0) az (aB rfl) ?_
 refine aC.nil ?_
 refine AX.seq ?_
 refine AX.region ?_
 refine aC.go (f:=0) az (au rfl) ?_
 refine aC.go (f:=0) az (au rfl) ?_
 refine aC.go (f:=0) az (fk (XU rfl rfl) hI) ?_
 refine aC.go (f:=0) az (Ij rfl rfl) ?_
 refine aC.go (f:=0) az (aB rfl) ?_
 refine aC.nil ?_
 refine AX.ret ?_
 exact⟨_,.inl rfl⟩
theorem Wf {s:List UInt8}(h:(s==[])=false):∃b s',s=b::s':=by
 cases s with
 |nil=>simp at h
 |cons b s'=>exact⟨b,s',rfl⟩
theorem Wg {m:Int}{ev:aX}(az:aF (cf m) ev)(dg:Int->Bool)(cw nb:List UInt8->Bool)(hF:ev 184 [.t (.str QO)] []=some (.ret (.t (.sl (uL.map .str))) [] []))(hD:∀n,ev 185 [.t (.int .u8 n)] []=some (.ret (.t (.bool (dg n))) [] []))
 (hC:∀s,ev 179 [.t (.sl (uL.map .str)),.t (.str s)] []=some (.ret (.t (.bool (cw s))) [] []))(hB:∀s:List UInt8,s.length<=64->ev 186 [.t (.sl (s.map λb=>.int .u8 b.toNat)),.t (.fn (.func 187))] []=some (.ret (.t (.bool (nb s))) [] []))(s:List UInt8):
 ∃r:Bool,ai (cf m) 145 [.t (.str s)] [] (.ret (.t (.bool r)) [] []):=by
 refine AX.start 26 1 Tryz.func145 rfl (by decide) rfl rfl (by decide) ?_
 refine AX.seq ?_
 refine AX.region ?_
 refine aC.go (f:=0) az (aB rfl) ?_
 refine aC.nil ?_
 refine AX.seq ?_
 refine AX.region ?_
 refine aC.go (f:=0) az (fk (zn rfl) hF) ?_
 refine aC.go (f:=0) az (aB rfl) ?_
 refine aC.nil ?_
 refine AX.seq ?_
 refine AX.seq ?_
 refine AX.region ?_
 refine aC.go (f:=0) az (au rfl) ?_
 refine aC.go (f:=0) az (XT rfl rfl) ?_
 refine aC.go (f:=0) az (au rfl) ?_
 refine aC.split 7 rfl (λql=> ?_) (λql=> ?_)
 ·skip;refine aC.no rfl rfl rfl (aE ql) ?_;refine aC.no rfl rfl rfl (aE ql) ?_;refine aC.no rfl rfl rfl (aE ql) ?_;refine aC.go (f:=0) az (bw rfl ql rfl rfl) ?_;refine aC.go (f:=0) az (au rfl) ?_;refine aC.no rfl rfl rfl (aE rfl) ?_;refine aC.no rfl rfl rfl (aE rfl) ?_;refine aC.no rfl rfl rfl (aE rfl) ?_;refine aC.go (f:=0) az (bw rfl rfl rfl rfl) ?_;refine aC.go (f:=0) az (au rfl) ?_;refine aC.no rfl rfl rfl (aE rfl) ?_;refine aC.no rfl rfl rfl (aE rfl) ?_;refine aC.no rfl rfl rfl (aE rfl) ?_;refine aC.go (f:=0) az (bw rfl rfl rfl rfl) ?_;refine aC.nil ?_;refine AX.nc rfl rfl ?_;refine AX.seq ?_;refine AX.region ?_;refine aC.go (f:=0) az (aB rfl) ?_;refine aC.nil ?_;refine AX.ret ?_;refine AX.bQ ?_;exact⟨_,.inl rfl⟩
 ·obtain⟨b,s',rfl⟩:=Wf ql;refine aC.yes (f:=0) az rfl rfl rfl (aS ql) (au rfl) ?_;refine aC.yes (f:=0) az rfl rfl rfl (aS ql) (sQ rfl l5 rfl) ?_;refine aC.yes (f:=0) az rfl rfl rfl (aS ql) (Ii rfl rfl) ?_;refine aC.go (f:=0) az (cy rfl ql rfl rfl) ?_;refine aC.go (f:=0) az (au rfl) ?_;refine aC.split 12 rfl (λkT=> ?_) (λkT=> ?_)
  ·skip;refine aC.no rfl rfl rfl (aE kT) ?_;refine aC.no rfl rfl rfl (aE kT) ?_;refine aC.no rfl rfl rfl (aE kT) ?_;refine aC.go (f:=0) az (bw rfl kT rfl rfl) ?_;refine aC.go (f:=0) az (au rfl) ?_;refine aC.no rfl rfl rfl (aE rfl) ?_;refine aC.no rfl rfl rfl (aE rfl) ?_;refine aC.no rfl rfl rfl (aE rfl) ?_;refine aC.go (f:=0) az (bw rfl rfl rfl rfl) ?_;refine aC.nil ?_;refine AX.nc rfl rfl ?_;refine AX.seq ?_;refine AX.region ?_;refine aC.go (f:=0) az (aB rfl) ?_;refine aC.nil ?_;refine AX.ret ?_;refine AX.bQ ?_;exact⟨_,.inl rfl⟩
  ·have h64:(b::s').length<=64:=by have:=of_decide_eq_false kT;omega
   refine aC.yes (f:=0) az rfl rfl rfl (aS kT) (au rfl) ?_;refine aC.yes (f:=0) az rfl rfl rfl (aS kT) (iD rfl rfl l5 rfl rfl) ?_;refine aC.yes (f:=0) az rfl rfl rfl (aS kT) (fk (zn rfl) (hD _)) ?_;refine aC.go (f:=0) az (cy rfl kT rfl rfl) ?_;refine aC.go (f:=0) az (au rfl) ?_;refine aC.split 17 rfl (λq4=> ?_) (λq4=> ?_)
   ·skip;refine aC.no rfl rfl rfl (aE q4) ?_;refine aC.no rfl rfl rfl (aE q4) ?_;refine aC.no rfl rfl rfl (aE q4) ?_;refine aC.go (f:=0) az (bw rfl q4 rfl rfl) ?_;refine aC.nil ?_;refine AX.nc rfl rfl ?_;refine AX.seq ?_;refine AX.region ?_;refine aC.go (f:=0) az (aB rfl) ?_;refine aC.nil ?_;refine AX.ret ?_;refine AX.bQ ?_;exact⟨_,.inl rfl⟩
   ·skip;refine aC.yes (f:=0) az rfl rfl rfl (aS q4) (au rfl) ?_;refine aC.yes (f:=0) az rfl rfl rfl (aS q4) (au rfl) ?_;refine aC.yes (f:=0) az rfl rfl rfl (aS q4) (fk (XU rfl rfl) (hC _)) ?_;refine aC.go (f:=0) az (cy rfl q4 rfl rfl) ?_;refine aC.nil ?_;refine AX.cond rfl (λh21=> ?_) (λh21=> ?_)
    ·skip;refine AX.seq ?_;refine AX.region ?_;refine aC.go (f:=0) az (aB rfl) ?_;refine aC.nil ?_;refine AX.ret ?_;refine AX.bQ ?_;exact⟨_,.inl rfl⟩
    ·skip;refine AX.skip ?_;refine AX.seq ?_;refine AX.region ?_;refine aC.go (f:=0) az (au rfl) ?_;refine aC.go (f:=0) az (VI rfl rfl l5 rfl EF rfl Ht rfl) ?_;refine aC.go (f:=0) az (fk (XU rfl rfl) (hB _ h64)) ?_;refine aC.go (f:=0) az (ym rfl) ?_;refine aC.go (f:=0) az (aB rfl) ?_;refine aC.nil ?_;refine AX.ret ?_;exact⟨_,.inl rfl⟩
theorem Gt {m:Int}{ev:aX}(az:aF (cf m) ev)(nm:List UInt8->Bool)(hN:∀s,ev 145 [.t (.str s)] []=some (.ret (.t (.bool (nm s))) [] []))(s:List UInt8):
 ∃r:Bool,ai (cf m) 144 [.t (.str s)] [] (.ret (.t (.bool r)) [] []):=by
 refine AX.start 6 1 Tryz.func144 rfl (by decide) rfl rfl (by decide) ?_
 refine AX.seq ?_
 refine AX.region ?_
 refine aC.go (f:=0) az (aB rfl) ?_
 refine aC.nil ?_
 refine AX.seq ?_
 refine AX.region ?_
 refine aC.go (f:=0) az (au rfl) ?_
 refine aC.go (f:=0) az (fk (zn rfl) (hN _)) ?_
 refine aC.go (f:=0) az (ym rfl) ?_
 refine aC.go (f:=0) az (aB rfl) ?_
 refine aC.nil ?_
 refine AX.ret ?_
 exact⟨_,.inl rfl⟩
theorem I1 {m:Int}{ev:aX}(az:aF (cf m) ev)(pc:List UInt8->List (List UInt8))(ct:List UInt8->Bool)(hS:∀s:List UInt8,s.length<=64->ev 143 [.t (.str s),.t (.str [58,58])] []=some (.ret (.t (.sl ((pc s).map .str))) [] []))
 (hC:∀s:List UInt8,s.length<=64->ev 142 [.t (.sl ((pc s).map .str)),.t (.fn (.func 144))] []=some (.ret (.t (.bool (ct s))) [] []))(s:List UInt8):
 ∃r:Bool,ai (cf m) 88 [.t (.str s)] [] (.ret (.t (.bool r)) [] []):=by
 refine AX.start 12 1 Tryz.func88 rfl (by decide) rfl rfl (by decide) ?_
 refine AX.seq ?_
 refine AX.region ?_
 refine aC.go (f:=0) az (aB rfl) ?_
 refine aC.nil ?_
 refine AX.seq ?_
 refine AX.region ?_
 refine aC.go (f:=0) az (au rfl) ?_
 refine aC.go (f:=0) az (sQ rfl l5 rfl) ?_
 refine aC.go (f:=0) az (QC rfl rfl) ?_
 refine aC.go (f:=0) az (au rfl) ?_
 refine aC.split 6 rfl (λo4=> ?_) (λo4=> ?_)
 ·have h64:s.length<=64:=by have:=of_decide_eq_true o4;omega
  refine aC.yes (f:=0) az rfl rfl rfl (eu o4) (au rfl) ?_;refine aC.yes (f:=0) az rfl rfl rfl (eu o4) (fk (XU rfl rfl) (hS _ h64)) ?_;refine aC.yes (f:=0) az rfl rfl rfl (eu o4) (fk (XU rfl rfl) (hC _ h64)) ?_;refine aC.yes (f:=0) az rfl rfl rfl (eu o4) (ym rfl) ?_;refine aC.go (f:=0) az (bw rfl o4 rfl rfl) ?_;refine aC.go (f:=0) az (aB rfl) ?_;refine aC.nil ?_;refine AX.ret ?_;exact⟨_,.inl rfl⟩
 ·skip;refine aC.no rfl rfl rfl (ew o4) ?_;refine aC.no rfl rfl rfl (ew o4) ?_;refine aC.no rfl rfl rfl (ew o4) ?_;refine aC.no rfl rfl rfl (ew o4) ?_;refine aC.go (f:=0) az (cy rfl o4 rfl rfl) ?_;refine aC.go (f:=0) az (aB rfl) ?_;refine aC.nil ?_;refine AX.ret ?_;exact⟨_,.inl rfl⟩
end
end Go.Proofs.YtacmmaaabfhhoaaGreatDoor.w
