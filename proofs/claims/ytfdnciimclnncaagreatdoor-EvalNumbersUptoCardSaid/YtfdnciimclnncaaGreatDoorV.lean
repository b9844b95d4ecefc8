/- More of it. -/
import Derived.Test.YtfdnciimclnncaaGreatDoorU
import Derived.Test.YtfdnciimclnncaaGreatDoorJ
set_option linter.unusedVariables false
set_option linter.unusedSimpArgs false
namespace Go.Proofs.YtfdnciimclnncaaGreatDoor.w
open Go Go.Abs
set_option maxRecDepth 100000
set_option maxHeartbeats 1000000
noncomputable section
abbrev al4:TI:={size:=1,bytes:=24,agg:=false,zero:=some (.bW),desc:=.slice 5}
theorem Ms {m:Int}:(cf m).P.ty 161=some al4:=by kernel_rfl
theorem QJ {m:Int}{ev:bt}(aK:aD (cf m) ev)(n:Int):∃r:Bool,ai (cf m) 129 [.t (.int .u8 n)] [] (.ret (.t (.bool r)) [] []):=by
 refine AX.start 9 1 Tryz.func129 rfl (by decide) rfl rfl (by decide) ?_;refine AX.seq ?_;refine AX.region ?_;refine aO.go (f:=0) aK (aL rfl) ?_;refine aO.nil ?_;refine AX.seq ?_;refine AX.region ?_;refine aO.go (f:=0) aK (aJ rfl) ?_;refine aO.go (f:=0) aK (Qb rfl rfl) ?_;refine aO.go (f:=0) aK (aJ rfl) ?_;refine aO.split 5 rfl (λnO=> ?_) (λnO=> ?_)
 ·refine aO.yes (f:=0) aK rfl rfl rfl (fI nO) (aJ rfl) ?_;refine aO.yes (f:=0) aK rfl rfl rfl (fI nO) (Zr rfl rfl) ?_;refine aO.go (f:=0) aK (bY rfl nO rfl rfl) ?_;refine aO.go (f:=0) aK (aL rfl) ?_;refine aO.nil ?_;refine AX.ret ?_;exact⟨_,.inl rfl⟩
 ·refine aO.no rfl rfl rfl (fJ nO) ?_;refine aO.no rfl rfl rfl (fJ nO) ?_;refine aO.go (f:=0) aK (gh rfl nO rfl rfl) ?_;refine aO.go (f:=0) aK (aL rfl) ?_;refine aO.nil ?_;refine AX.ret ?_;exact⟨_,.inl rfl⟩
theorem Xz {m:Int}{ev:bt}(aK:aD (cf m) ev)(n:Int):∃r:Bool,ai (cf m) 132 [.t (.int .u8 n)] [] (.ret (.t (.bool r)) [] []):=by
 refine AX.start 15 1 Tryz.func132 rfl (by decide) rfl rfl (by decide) ?_;refine AX.seq ?_;refine AX.region ?_;refine aO.go (f:=0) aK (aL rfl) ?_;refine aO.nil ?_;refine AX.seq ?_;refine AX.region ?_;refine aO.go (f:=0) aK (aJ rfl) ?_;refine aO.go (f:=0) aK (iU rfl rfl rfl) ?_;refine aO.go (f:=0) aK (Qb rfl rfl) ?_;refine aO.go (f:=0) aK (aJ rfl) ?_;refine aO.split 6 rfl (λqL=> ?_) (λqL=> ?_)
 ·refine aO.yes (f:=0) aK rfl rfl rfl (fI qL) (aJ rfl) ?_;refine aO.yes (f:=0) aK rfl rfl rfl (fI qL) (iU rfl rfl rfl) ?_;refine aO.yes (f:=0) aK rfl rfl rfl (fI qL) (Zr rfl rfl) ?_;refine aO.go (f:=0) aK (bY rfl qL rfl rfl) ?_;refine aO.go (f:=0) aK (aJ rfl) ?_;refine aO.split 11 rfl (λeA=> ?_) (λeA=> ?_)
  ·refine aO.no rfl rfl rfl (aY eA) ?_;refine aO.no rfl rfl rfl (aY eA) ?_;refine aO.go (f:=0) aK (bY rfl eA rfl rfl) ?_;refine aO.go (f:=0) aK (aL rfl) ?_;refine aO.nil ?_;refine AX.ret ?_;exact⟨_,.inl rfl⟩
  ·refine aO.yes (f:=0) aK rfl rfl rfl (dS eA) (aJ rfl) ?_;refine aO.yes (f:=0) aK rfl rfl rfl (dS eA) (pI rfl rfl) ?_;refine aO.go (f:=0) aK (gh rfl eA rfl rfl) ?_;refine aO.go (f:=0) aK (aL rfl) ?_;refine aO.nil ?_;refine AX.ret ?_;exact⟨_,.inl rfl⟩
 ·refine aO.no rfl rfl rfl (fJ qL) ?_;refine aO.no rfl rfl rfl (fJ qL) ?_;refine aO.no rfl rfl rfl (fJ qL) ?_;refine aO.go (f:=0) aK (gh rfl qL rfl rfl) ?_;refine aO.go (f:=0) aK (aJ rfl) ?_;refine aO.yes (f:=0) aK rfl rfl rfl (dS rfl) (aJ rfl) ?_;refine aO.yes (f:=0) aK rfl rfl rfl (dS rfl) (pI rfl rfl) ?_;refine aO.go (f:=0) aK (gh rfl rfl rfl rfl) ?_;refine aO.go (f:=0) aK (aL rfl) ?_;refine aO.nil ?_;refine AX.ret ?_;exact⟨_,.inl rfl⟩
theorem aaA {m:Int}{ev:bt}(aK:aD (cf m) ev)(lt dg:Int->Bool)(hL:∀n,ev 132 [.t (.int .u8 n)] []=some (.ret (.t (.bool (lt n))) [] []))(hD:∀n,ev 129 [.t (.int .u8 n)] []=some (.ret (.t (.bool (dg n))) [] []))(n:Int):
 ∃r:Bool,ai (cf m) 131 [.t (.int .u8 n)] [] (.ret (.t (.bool r)) [] []):=by
 refine AX.start 11 1 Tryz.func131 rfl (by decide) rfl rfl (by decide) ?_
 refine AX.seq ?_
 refine AX.region ?_
 refine aO.go (f:=0) aK (aL rfl) ?_
 refine aO.nil ?_
 refine AX.seq ?_
 refine AX.region ?_
 refine aO.go (f:=0) aK (aJ rfl) ?_
 refine aO.go (f:=0) aK (iB (LA rfl) (hL _)) ?_
 refine aO.go (f:=0) aK (Mi rfl) ?_
 refine aO.go (f:=0) aK (aJ rfl) ?_
 refine aO.split 6 rfl (λqL=> ?_) (λqL=> ?_)
 ·refine aO.yes (f:=0) aK rfl rfl rfl (fI qL) (aJ rfl) ?_;refine aO.yes (f:=0) aK rfl rfl rfl (fI qL) (iB (LA rfl) (hD _)) ?_;refine aO.yes (f:=0) aK rfl rfl rfl (fI qL) (Mi rfl) ?_;refine aO.go (f:=0) aK (bY rfl qL rfl rfl) ?_;refine aO.go (f:=0) aK (aL rfl) ?_;refine aO.nil ?_;refine AX.ret ?_;exact⟨_,.inl rfl⟩
 ·refine aO.no rfl rfl rfl (fJ qL) ?_;refine aO.no rfl rfl rfl (fJ qL) ?_;refine aO.no rfl rfl rfl (fJ qL) ?_;refine aO.go (f:=0) aK (gh rfl qL rfl rfl) ?_;refine aO.go (f:=0) aK (aL rfl) ?_;refine aO.nil ?_;refine AX.ret ?_;exact⟨_,.inl rfl⟩
theorem aiP {m:Int}{ev:bt}(aK:aD (cf m) ev)(l:List Tree)(hl:l.length<=4194304)(hf:∀e∈l,∃n,e=.int .u8 n)(g:FuncId)(q:Tree->Bool)(hq:∀e∈l,ev g [.t e] []=some (.ret (.t (.bool (q e))) [] [])):
 ∃r:Int,ai (cf m) 179 [.t (.sl l),.t (.fn (.func g))] [] (.ret (.t (.int .i64 r)) [] []):=by
 refine AX.start 19 2 Tryz.func179 rfl (by decide) rfl rfl (by decide) ?_
 refine AX.seq ?_
 refine AX.region ?_
 refine aO.go (f:=0) aK (aL rfl) ?_
 refine aO.nil ?_
 refine AX.seq ?_
 refine AX.seq ?_
 refine AX.region ?_
 refine aO.go (f:=0) aK (aJ rfl) ?_
 refine aO.go (f:=0) aK ((by first|exact Jt rfl Ms rfl|exact NM rfl Ms rfl|exact Tc rfl Ms rfl|exact Td rfl Ms rfl)) ?_
 refine aO.go (f:=0) aK (aJ rfl) ?_
 refine aO.nil ?_
 refine AX.block ?_
 refine AX.loop (α:=Nat) (λi=>⟨eD 19 [(0,.t (.sl l)),(1,.t (.fn (.func g))),(7,.t (.int .i64 l.length)),(8,.t (.int .i64 i))],[],0⟩) (λi=>i<=l.length) (λi=>l.length - i) 0 (Re.sq [] ⟨rfl,rfl,rfl,rfl,trivial⟩ trivial (by decide) rfl rfl (by decide)) (Nat.zero_le _) (λi hok=> ?_)
 replace hok:i<=l.length:=hok
 refine AX.seq ?_
 refine AX.region ?_
 refine aO.go (f:=0) aK (pJ rfl rfl) ?_
 refine aO.nil ?_
 refine AX.seq ?_
 refine AX.cond rfl (λh9=> ?_) (λh9=> ?_)
 ·have hlt:i<l.length:=by have:=of_decide_eq_true h9;omega
  obtain⟨e,he⟩:∃e,l[i]?=some e:=⟨l[i],List.getElem?_eq_getElem hlt⟩;obtain⟨n,rfl⟩:=hf e (List.mem_of_getElem? he);refine AX.skip ?_;refine AX.seq ?_;refine AX.block ?_;refine AX.seq ?_;refine AX.region ?_;refine aO.go (f:=0) aK (aJ rfl) ?_;refine aO.go (f:=0) aK (aL rfl) ?_;refine aO.nil ?_;refine AX.seq ?_;refine AX.region ?_;refine aO.go (f:=0) aK (aJ rfl) ?_;refine aO.go (f:=0) aK (aJ rfl) ?_;refine aO.go (f:=0) aK (aJ rfl) ?_;refine aO.go (f:=0) aK (Ju rfl rfl Ms rfl Pn he rfl) ?_;refine aO.go (f:=0) aK ((by first|exact kX rfl (ld Pn rfl rfl)|exact mQ rfl (ld Pn rfl rfl))) ?_;refine aO.go (f:=0) aK (Vg rfl (LA rfl) (hq _ (List.mem_of_getElem? he))) ?_;refine aO.nil ?_;refine AX.cond rfl (λh16=> ?_) (λh16=> ?_)
  ·skip;refine AX.seq ?_;refine AX.region ?_;refine aO.go (f:=0) aK (aJ rfl) ?_;refine aO.go (f:=0) aK (aL rfl) ?_;refine aO.nil ?_;refine AX.ret ?_;refine AX.cD ?_;refine AX.cU ?_;refine AX.leave (e:=.ret) (by simp) ?_;refine AX.cD ?_;refine AX.cU ?_;exact⟨_,.inl rfl⟩
  ·skip;refine AX.skip ?_;refine AX.lH ?_;refine AX.region ?_;refine aO.go (f:=0) aK (NK rfl rfl (by omega) (by omega)) ?_;refine aO.go (f:=0) aK (aJ rfl) ?_;refine aO.nil ?_;exact⟨.inl ⟨i+1,by show i+1<=_/\l.length - (i+1)<l.length - i;omega⟩,rfl,(Re.sq [] ⟨rfl,rfl,rfl,rfl,trivial⟩ trivial (by decide) rfl rfl (by decide))⟩
 ·skip;refine AX.exit ?_;refine AX.lp ?_;refine AX.leave (e:=.exit 0) (by simp) ?_;refine AX.nB ?_;refine AX.seq ?_;refine AX.region ?_;refine aO.go (f:=0) aK (aL rfl) ?_;refine aO.nil ?_;refine AX.ret ?_;exact⟨_,.inl rfl⟩
theorem aiQ {m:Int}{ev:bt}(aK:aD (cf m) ev)(x y:Tree)(z:Int)(hI:ev 179 [.t x,.t y] []=some (.ret (.t (.int .i64 z)) [] [])):
 ∃r:Bool,ai (cf m) 130 [.t x,.t y] [] (.ret (.t (.bool r)) [] []):=by
 refine AX.start 9 2 Tryz.func130 rfl (by decide) rfl rfl (by decide) ?_
 refine AX.seq ?_
 refine AX.region ?_
 refine aO.go (f:=0) aK (aL rfl) ?_
 refine aO.nil ?_
 refine AX.seq ?_
 refine AX.region ?_
 refine aO.go (f:=0) aK (aJ rfl) ?_
 refine aO.go (f:=0) aK (aJ rfl) ?_
 refine aO.go (f:=0) aK (iB (rh2 rfl rfl) hI) ?_
 refine aO.go (f:=0) aK (Qb rfl rfl) ?_
 refine aO.go (f:=0) aK (aL rfl) ?_
 refine aO.nil ?_
 refine AX.ret ?_
 exact⟨_,.inl rfl⟩
theorem aiR {m:Int}{ev:bt}(aK:aD (cf m) ev)(l:List Tree)(hl:l.length<=4194304)(hf:∀e∈l,∃u,e=.str u)(g:FuncId)(q:Tree->Bool)(hq:∀e∈l,ev g [.t e] []=some (.ret (.t (.bool (q e))) [] [])):
 ∃r:Int,ai (cf m) 126 [.t (.sl l),.t (.fn (.func g))] [] (.ret (.t (.int .i64 r)) [] []):=by
 refine AX.start 19 2 Tryz.func126 rfl (by decide) rfl rfl (by decide) ?_
 refine AX.seq ?_
 refine AX.region ?_
 refine aO.go (f:=0) aK (aL rfl) ?_
 refine aO.nil ?_
 refine AX.seq ?_
 refine AX.seq ?_
 refine AX.region ?_
 refine aO.go (f:=0) aK (aJ rfl) ?_
 refine aO.go (f:=0) aK ((by first|exact Jt rfl qf rfl|exact NM rfl qf rfl|exact Tc rfl qf rfl|exact Td rfl qf rfl)) ?_
 refine aO.go (f:=0) aK (aJ rfl) ?_
 refine aO.nil ?_
 refine AX.block ?_
 refine AX.loop (α:=Nat) (λi=>⟨eD 19 [(0,.t (.sl l)),(1,.t (.fn (.func g))),(7,.t (.int .i64 l.length)),(8,.t (.int .i64 i))],[],0⟩) (λi=>i<=l.length) (λi=>l.length - i) 0 (Re.sq [] ⟨rfl,rfl,rfl,rfl,trivial⟩ trivial (by decide) rfl rfl (by decide)) (Nat.zero_le _) (λi hok=> ?_)
 replace hok:i<=l.length:=hok
 refine AX.seq ?_
 refine AX.region ?_
 refine aO.go (f:=0) aK (pJ rfl rfl) ?_
 refine aO.nil ?_
 refine AX.seq ?_
 refine AX.cond rfl (λh9=> ?_) (λh9=> ?_)
 ·have hlt:i<l.length:=by have:=of_decide_eq_true h9;omega
  obtain⟨e,he⟩:∃e,l[i]?=some e:=⟨l[i],List.getElem?_eq_getElem hlt⟩;obtain⟨u,rfl⟩:=hf e (List.mem_of_getElem? he);refine AX.skip ?_;refine AX.seq ?_;refine AX.block ?_;refine AX.seq ?_;refine AX.region ?_;refine aO.go (f:=0) aK (aJ rfl) ?_;refine aO.go (f:=0) aK (aL rfl) ?_;refine aO.nil ?_;refine AX.seq ?_;refine AX.region ?_;refine aO.go (f:=0) aK (aJ rfl) ?_;refine aO.go (f:=0) aK (aJ rfl) ?_;refine aO.go (f:=0) aK (aJ rfl) ?_;refine aO.go (f:=0) aK (Ju rfl rfl qf rfl qW he rfl) ?_;refine aO.go (f:=0) aK ((by first|exact kX rfl (ld qW rfl rfl)|exact mQ rfl (ld qW rfl rfl))) ?_;refine aO.go (f:=0) aK (Vg rfl (LA rfl) (hq _ (List.mem_of_getElem? he))) ?_;refine aO.nil ?_;refine AX.cond rfl (λh16=> ?_) (λh16=> ?_)
  ·skip;refine AX.seq ?_;refine AX.region ?_;refine aO.go (f:=0) aK (aJ rfl) ?_;refine aO.go (f:=0) aK (aL rfl) ?_;refine aO.nil ?_;refine AX.ret ?_;refine AX.cD ?_;refine AX.cU ?_;refine AX.leave (e:=.ret) (by simp) ?_;refine AX.cD ?_;refine AX.cU ?_;exact⟨_,.inl rfl⟩
  ·skip;refine AX.skip ?_;refine AX.lH ?_;refine AX.region ?_;refine aO.go (f:=0) aK (NK rfl rfl (by omega) (by omega)) ?_;refine aO.go (f:=0) aK (aJ rfl) ?_;refine aO.nil ?_;exact⟨.inl ⟨i+1,by show i+1<=_/\l.length - (i+1)<l.length - i;omega⟩,rfl,(Re.sq [] ⟨rfl,rfl,rfl,rfl,trivial⟩ trivial (by decide) rfl rfl (by decide))⟩
 ·skip;refine AX.exit ?_;refine AX.lp ?_;refine AX.leave (e:=.exit 0) (by simp) ?_;refine AX.nB ?_;refine AX.seq ?_;refine AX.region ?_;refine aO.go (f:=0) aK (aL rfl) ?_;refine aO.nil ?_;refine AX.ret ?_;exact⟨_,.inl rfl⟩
theorem aiS {m:Int}{ev:bt}(aK:aD (cf m) ev)(x y:Tree)(z:Int)(hI:ev 126 [.t x,.t y] []=some (.ret (.t (.int .i64 z)) [] [])):
 ∃r:Bool,ai (cf m) 79 [.t x,.t y] [] (.ret (.t (.bool r)) [] []):=by
 refine AX.start 9 2 Tryz.func79 rfl (by decide) rfl rfl (by decide) ?_
 refine AX.seq ?_
 refine AX.region ?_
 refine aO.go (f:=0) aK (aL rfl) ?_
 refine aO.nil ?_
 refine AX.seq ?_
 refine AX.region ?_
 refine aO.go (f:=0) aK (aJ rfl) ?_
 refine aO.go (f:=0) aK (aJ rfl) ?_
 refine aO.go (f:=0) aK (iB (rh2 rfl rfl) hI) ?_
 refine aO.go (f:=0) aK (Qb rfl rfl) ?_
 refine aO.go (f:=0) aK (aL rfl) ?_
 refine aO.nil ?_
 refine AX.ret ?_
 exact⟨_,.inl rfl⟩
theorem aiT {m:Int}{ev:bt}(aK:aD (cf m) ev)(l:List Tree)(hl:l.length<=4194304)(hf:∀e∈l,∃u,e=.str u)(v:List UInt8):
 ∃r:Int,ai (cf m) 101 [.t (.sl l),.t (.str v)] [] (.ret (.t (.int .i64 r)) [] []):=by
 refine AX.start 19 2 Tryz.func101 rfl (by decide) rfl rfl (by decide) ?_
 refine AX.seq ?_
 refine AX.region ?_
 refine aO.go (f:=0) aK (aL rfl) ?_
 refine aO.nil ?_
 refine AX.seq ?_
 refine AX.seq ?_
 refine AX.region ?_
 refine aO.go (f:=0) aK (aJ rfl) ?_
 refine aO.go (f:=0) aK ((by first|exact Jt rfl qf rfl|exact NM rfl qf rfl|exact Tc rfl qf rfl|exact Td rfl qf rfl)) ?_
 refine aO.go (f:=0) aK (aJ rfl) ?_
 refine aO.nil ?_
 refine AX.block ?_
 refine AX.loop (α:=Nat) (λi=>⟨eD 19 [(0,.t (.sl l)),(1,.t (.str v)),(7,.t (.int .i64 l.length)),(8,.t (.int .i64 i))],[],0⟩) (λi=>i<=l.length) (λi=>l.length - i) 0 (Re.sq [] ⟨rfl,rfl,rfl,rfl,trivial⟩ trivial (by decide) rfl rfl (by decide)) (Nat.zero_le _) (λi hok=> ?_)
 replace hok:i<=l.length:=hok
 refine AX.seq ?_
 refine AX.region ?_
 refine aO.go (f:=0) aK (pJ rfl rfl) ?_
 refine aO.nil ?_
 refine AX.seq ?_
 refine AX.cond rfl (λh9=> ?_) (λh9=> ?_)
 ·have hlt:i<l.length:=by have:=of_decide_eq_true h9;omega
  obtain⟨e,he⟩:∃e,l[i]?=some e:=⟨l[i],List.getElem?_eq_getElem hlt⟩;obtain⟨u,rfl⟩:=hf e (List.mem_of_getElem? he);refine AX.skip ?_;refine AX.seq ?_;refine AX.block ?_;refine AX.seq ?_;refine AX.region ?_;refine aO.go (f:=0) aK (aJ rfl) ?_;refine aO.go (f:=0) aK (aL rfl) ?_;refine aO.nil ?_;refine AX.seq ?_;refine AX.region ?_;refine aO.go (f:=0) aK (aJ rfl) ?_;refine aO.go (f:=0) aK (aJ rfl) ?_;refine aO.go (f:=0) aK (aJ rfl) ?_;refine aO.go (f:=0) aK (Ju rfl rfl qf rfl qW he rfl) ?_;refine aO.go (f:=0) aK ((by first|exact kX rfl (ld qW rfl rfl)|exact mQ rfl (ld qW rfl rfl))) ?_;refine aO.go (f:=0) aK (ahi rfl rfl) ?_;refine aO.nil ?_;refine AX.cond rfl (λh16=> ?_) (λh16=> ?_)
  ·skip;refine AX.seq ?_;refine AX.region ?_;refine aO.go (f:=0) aK (aJ rfl) ?_;refine aO.go (f:=0) aK (aL rfl) ?_;refine aO.nil ?_;refine AX.ret ?_;refine AX.cD ?_;refine AX.cU ?_;refine AX.leave (e:=.ret) (by simp) ?_;refine AX.cD ?_;refine AX.cU ?_;exact⟨_,.inl rfl⟩
  ·skip;refine AX.skip ?_;refine AX.lH ?_;refine AX.region ?_;refine aO.go (f:=0) aK (NK rfl rfl (by omega) (by omega)) ?_;refine aO.go (f:=0) aK (aJ rfl) ?_;refine aO.nil ?_;exact⟨.inl ⟨i+1,by show i+1<=_/\l.length - (i+1)<l.length - i;omega⟩,rfl,(Re.sq [] ⟨rfl,rfl,rfl,rfl,trivial⟩ trivial (by decide) rfl rfl (by decide))⟩
 ·skip;refine AX.exit ?_;refine AX.lp ?_;refine AX.leave (e:=.exit 0) (by simp) ?_;refine AX.nB ?_;refine AX.seq ?_;refine AX.region ?_;refine aO.go (f:=0) aK (aL rfl) ?_;refine aO.nil ?_;refine AX.ret ?_;exact⟨_,.inl rfl⟩
theorem aiU {m:Int}{ev:bt}(aK:aD (cf m) ev)(x y:Tree)(z:Int)(hI:ev 101 [.t x,.t y] []=some (.ret (.t (.int .i64 z)) [] [])):
 ∃r:Bool,ai (cf m) 76 [.t x,.t y] [] (.ret (.t (.bool r)) [] []):=by
 refine AX.start 9 2 Tryz.func76 rfl (by decide) rfl rfl (by decide) ?_
 refine AX.seq ?_
 refine AX.region ?_
 refine aO.go (f:=0) aK (aL rfl) ?_
 refine aO.nil ?_
 refine AX.seq ?_
 refine AX.region ?_
 refine aO.go (f:=0) aK (aJ rfl) ?_
 refine aO.go (f:=0) aK (aJ rfl) ?_
 refine aO.go (f:=0) aK (iB (rh2 rfl rfl) hI) ?_
 refine aO.go (f:=0) aK (Qb rfl rfl) ?_
 refine aO.go (f:=0) aK (aL rfl) ?_
 refine aO.nil ?_
 refine AX.ret ?_
 exact⟨_,.inl rfl⟩
theorem aeH {s:List UInt8}(h:(s==[])=false):∃b s',s=b::s':=by
 cases s with
 |nil=>simp at h
 |cons b s'=>exact⟨b,s',rfl⟩
theorem aeI {m:Int}{ev:bt}(aK:aD (cf m) ev)(dg:Int->Bool)(cw nb:List UInt8->Bool)(hF:ev 128 [.t (.str ZC)] []=some (.ret (.t (.sl (zn.map .str))) [] []))(hD:∀n,ev 129 [.t (.int .u8 n)] []=some (.ret (.t (.bool (dg n))) [] []))
 (hC:∀s,ev 76 [.t (.sl (zn.map .str)),.t (.str s)] []=some (.ret (.t (.bool (cw s))) [] []))(hB:∀s:List UInt8,s.length<=64->ev 130 [.t (.sl (s.map λb=>.int .u8 b.toNat)),.t (.fn (.func 131))] []=some (.ret (.t (.bool (nb s))) [] []))(s:List UInt8):
 ∃r:Bool,ai (cf m) 82 [.t (.str s)] [] (.ret (.t (.bool r)) [] []):=by
 refine AX.start 26 1 Tryz.func82 rfl (by decide) rfl rfl (by decide) ?_
 refine AX.seq ?_
 refine AX.region ?_
 refine aO.go (f:=0) aK (aL rfl) ?_
 refine aO.nil ?_
 refine AX.seq ?_
 refine AX.region ?_
 refine aO.go (f:=0) aK (iB (LA rfl) hF) ?_
 refine aO.go (f:=0) aK (aL rfl) ?_
 refine aO.nil ?_
 refine AX.seq ?_
 refine AX.seq ?_
 refine AX.region ?_
 refine aO.go (f:=0) aK (aJ rfl) ?_
 refine aO.go (f:=0) aK (ahi rfl rfl) ?_
 refine aO.go (f:=0) aK (aJ rfl) ?_
 refine aO.split 7 rfl (λSB=> ?_) (λSB=> ?_)
 ·skip;refine aO.no rfl rfl rfl (aY SB) ?_;refine aO.no rfl rfl rfl (aY SB) ?_;refine aO.no rfl rfl rfl (aY SB) ?_;refine aO.go (f:=0) aK (bY rfl SB rfl rfl) ?_;refine aO.go (f:=0) aK (aJ rfl) ?_;refine aO.no rfl rfl rfl (aY rfl) ?_;refine aO.no rfl rfl rfl (aY rfl) ?_;refine aO.no rfl rfl rfl (aY rfl) ?_;refine aO.go (f:=0) aK (bY rfl rfl rfl rfl) ?_;refine aO.go (f:=0) aK (aJ rfl) ?_;refine aO.no rfl rfl rfl (aY rfl) ?_;refine aO.no rfl rfl rfl (aY rfl) ?_;refine aO.no rfl rfl rfl (aY rfl) ?_;refine aO.go (f:=0) aK (bY rfl rfl rfl rfl) ?_;refine aO.nil ?_;refine AX.qp rfl rfl ?_;refine AX.seq ?_;refine AX.region ?_;refine aO.go (f:=0) aK (aL rfl) ?_;refine aO.nil ?_;refine AX.ret ?_;refine AX.cU ?_;exact⟨_,.inl rfl⟩
 ·obtain⟨b,s',rfl⟩:=aeH SB;refine aO.yes (f:=0) aK rfl rfl rfl (dS SB) (aJ rfl) ?_;refine aO.yes (f:=0) aK rfl rfl rfl (dS SB) (xK rfl qW rfl) ?_;refine aO.yes (f:=0) aK rfl rfl rfl (dS SB) (Qa rfl rfl) ?_;refine aO.go (f:=0) aK (gh rfl SB rfl rfl) ?_;refine aO.go (f:=0) aK (aJ rfl) ?_;refine aO.split 12 rfl (λcE=> ?_) (λcE=> ?_)
  ·skip;refine aO.no rfl rfl rfl (aY cE) ?_;refine aO.no rfl rfl rfl (aY cE) ?_;refine aO.no rfl rfl rfl (aY cE) ?_;refine aO.go (f:=0) aK (bY rfl cE rfl rfl) ?_;refine aO.go (f:=0) aK (aJ rfl) ?_;refine aO.no rfl rfl rfl (aY rfl) ?_;refine aO.no rfl rfl rfl (aY rfl) ?_;refine aO.no rfl rfl rfl (aY rfl) ?_;refine aO.go (f:=0) aK (bY rfl rfl rfl rfl) ?_;refine aO.nil ?_;refine AX.qp rfl rfl ?_;refine AX.seq ?_;refine AX.region ?_;refine aO.go (f:=0) aK (aL rfl) ?_;refine aO.nil ?_;refine AX.ret ?_;refine AX.cU ?_;exact⟨_,.inl rfl⟩
  ·have h64:(b::s').length<=64:=by have:=of_decide_eq_false cE;omega
   refine aO.yes (f:=0) aK rfl rfl rfl (dS cE) (aJ rfl) ?_;refine aO.yes (f:=0) aK rfl rfl rfl (dS cE) (jN rfl rfl qW rfl rfl) ?_;refine aO.yes (f:=0) aK rfl rfl rfl (dS cE) (iB (LA rfl) (hD _)) ?_;refine aO.go (f:=0) aK (gh rfl cE rfl rfl) ?_;refine aO.go (f:=0) aK (aJ rfl) ?_;refine aO.split 17 rfl (λsQ=> ?_) (λsQ=> ?_)
   ·skip;refine aO.no rfl rfl rfl (aY sQ) ?_;refine aO.no rfl rfl rfl (aY sQ) ?_;refine aO.no rfl rfl rfl (aY sQ) ?_;refine aO.go (f:=0) aK (bY rfl sQ rfl rfl) ?_;refine aO.nil ?_;refine AX.qp rfl rfl ?_;refine AX.seq ?_;refine AX.region ?_;refine aO.go (f:=0) aK (aL rfl) ?_;refine aO.nil ?_;refine AX.ret ?_;refine AX.cU ?_;exact⟨_,.inl rfl⟩
   ·skip;refine aO.yes (f:=0) aK rfl rfl rfl (dS sQ) (aJ rfl) ?_;refine aO.yes (f:=0) aK rfl rfl rfl (dS sQ) (aJ rfl) ?_;refine aO.yes (f:=0) aK rfl rfl rfl (dS sQ) (iB (rh2 rfl rfl) (hC _)) ?_;refine aO.go (f:=0) aK (gh rfl sQ rfl rfl) ?_;refine aO.nil ?_;refine AX.cond rfl (λh21=> ?_) (λh21=> ?_)
    ·skip;refine AX.seq ?_;refine AX.region ?_;refine aO.go (f:=0) aK (aL rfl) ?_;refine aO.nil ?_;refine AX.ret ?_;refine AX.cU ?_;exact⟨_,.inl rfl⟩
    ·skip;refine AX.skip ?_;refine AX.seq ?_;refine AX.region ?_;refine aO.go (f:=0) aK (aJ rfl) ?_;refine aO.go (f:=0) aK (aeh rfl rfl qW rfl Ms rfl Pn rfl) ?_;refine aO.go (f:=0) aK (iB (rh2 rfl rfl) (hB _ h64)) ?_;refine aO.go (f:=0) aK (Mi rfl) ?_;refine aO.go (f:=0) aK (aL rfl) ?_;refine aO.nil ?_;refine AX.ret ?_;exact⟨_,.inl rfl⟩
theorem Oj {m:Int}{ev:bt}(aK:aD (cf m) ev)(nm:List UInt8->Bool)(hN:∀s,ev 82 [.t (.str s)] []=some (.ret (.t (.bool (nm s))) [] []))(s:List UInt8):
 ∃r:Bool,ai (cf m) 81 [.t (.str s)] [] (.ret (.t (.bool r)) [] []):=by
 refine AX.start 6 1 Tryz.func81 rfl (by decide) rfl rfl (by decide) ?_
 refine AX.seq ?_
 refine AX.region ?_
 refine aO.go (f:=0) aK (aL rfl) ?_
 refine aO.nil ?_
 refine AX.seq ?_
 refine AX.region ?_
 refine aO.go (f:=0) aK (aJ rfl) ?_
 refine aO.go (f:=0) aK (iB (LA rfl) (hN _)) ?_
 refine aO.go (f:=0) aK (Mi rfl) ?_
 refine aO.go (f:=0) aK (aL rfl) ?_
 refine aO.nil ?_
 refine AX.ret ?_
 exact⟨_,.inl rfl⟩
theorem QK {m:Int}{ev:bt}(aK:aD (cf m) ev)(pc:List UInt8->List (List UInt8))(ct:List UInt8->Bool)(hS:∀s:List UInt8,s.length<=64->ev 80 [.t (.str s),.t (.str [58,58])] []=some (.ret (.t (.sl ((pc s).map .str))) [] []))
 (hC:∀s:List UInt8,s.length<=64->ev 79 [.t (.sl ((pc s).map .str)),.t (.fn (.func 81))] []=some (.ret (.t (.bool (ct s))) [] []))(s:List UInt8):
 ∃r:Bool,ai (cf m) 40 [.t (.str s)] [] (.ret (.t (.bool r)) [] []):=by
 refine AX.start 12 1 Tryz.func40 rfl (by decide) rfl rfl (by decide) ?_
 refine AX.seq ?_
 refine AX.region ?_
 refine aO.go (f:=0) aK (aL rfl) ?_
 refine aO.nil ?_
 refine AX.seq ?_
 refine AX.region ?_
 refine aO.go (f:=0) aK (aJ rfl) ?_
 refine aO.go (f:=0) aK (xK rfl qW rfl) ?_
 refine aO.go (f:=0) aK (Zr rfl rfl) ?_
 refine aO.go (f:=0) aK (aJ rfl) ?_
 refine aO.split 6 rfl (λqL=> ?_) (λqL=> ?_)
 ·have h64:s.length<=64:=by have:=of_decide_eq_true qL;omega
  refine aO.yes (f:=0) aK rfl rfl rfl (fI qL) (aJ rfl) ?_;refine aO.yes (f:=0) aK rfl rfl rfl (fI qL) (iB (rh2 rfl rfl) (hS _ h64)) ?_;refine aO.yes (f:=0) aK rfl rfl rfl (fI qL) (iB (rh2 rfl rfl) (hC _ h64)) ?_;refine aO.yes (f:=0) aK rfl rfl rfl (fI qL) (Mi rfl) ?_;refine aO.go (f:=0) aK (bY rfl qL rfl rfl) ?_;refine aO.go (f:=0) aK (aL rfl) ?_;refine aO.nil ?_;refine AX.ret ?_;exact⟨_,.inl rfl⟩
 ·skip;refine aO.no rfl rfl rfl (fJ qL) ?_;refine aO.no rfl rfl rfl (fJ qL) ?_;refine aO.no rfl rfl rfl (fJ qL) ?_;refine aO.no rfl rfl rfl (fJ qL) ?_;refine aO.go (f:=0) aK (gh rfl qL rfl rfl) ?_;refine aO.go (f:=0) aK (aL rfl) ?_;refine aO.nil ?_;refine AX.ret ?_;exact⟨_,.inl rfl⟩
end
end Go.Proofs.YtfdnciimclnncaaGreatDoor.w
