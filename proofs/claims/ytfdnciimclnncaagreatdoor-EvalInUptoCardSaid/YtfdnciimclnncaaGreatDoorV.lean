/- More of it. -/
import Derived.Test.YtfdnciimclnncaaGreatDoorU
import Derived.Test.YtfdnciimclnncaaGreatDoorJ
set_option linter.unusedVariables false
set_option linter.unusedSimpArgs false
namespace Go.Proofs.YtfdnciimclnncaaGreatDoor.w
open Go Go.Abs
set_option maxRecDepth 100000
set_option maxHeartbeats 1000000
noncomputable section
abbrev amk:TI:={size:=1,bytes:=24,agg:=false,zero:=some (.bX),desc:=.slice 5}
theorem Ml {m:Int}:(cf m).P.ty 161=some amk:=by kernel_rfl
theorem QH {m:Int}{ev:bp}(aI:aC (cf m) ev)(n:Int):∃r:Bool,ai (cf m) 129 [.t (.int .u8 n)] [] (.ret (.t (.bool r)) [] []):=by
 refine AX.start 9 1 Tryz.func129 rfl (by decide) rfl rfl (by decide) ?_;refine AX.seq ?_;refine AX.region ?_;refine aO.go (f:=0) aI (aJ rfl) ?_;refine aO.nil ?_;refine AX.seq ?_;refine AX.region ?_;refine aO.go (f:=0) aI (aH rfl) ?_;refine aO.go (f:=0) aI (P8 rfl rfl) ?_;refine aO.go (f:=0) aI (aH rfl) ?_;refine aO.split 5 rfl (λmI=> ?_) (λmI=> ?_)
 ·refine aO.yes (f:=0) aI rfl rfl rfl (fI mI) (aH rfl) ?_;refine aO.yes (f:=0) aI rfl rfl rfl (fI mI) (Zo rfl rfl) ?_;refine aO.go (f:=0) aI (b8 rfl mI rfl rfl) ?_;refine aO.go (f:=0) aI (aJ rfl) ?_;refine aO.nil ?_;refine AX.ret ?_;exact⟨_,.inl rfl⟩
 ·refine aO.no rfl rfl rfl (fJ mI) ?_;refine aO.no rfl rfl rfl (fJ mI) ?_;refine aO.go (f:=0) aI (fZ rfl mI rfl rfl) ?_;refine aO.go (f:=0) aI (aJ rfl) ?_;refine aO.nil ?_;refine AX.ret ?_;exact⟨_,.inl rfl⟩
theorem Xz {m:Int}{ev:bp}(aI:aC (cf m) ev)(n:Int):∃r:Bool,ai (cf m) 132 [.t (.int .u8 n)] [] (.ret (.t (.bool r)) [] []):=by
 refine AX.start 15 1 Tryz.func132 rfl (by decide) rfl rfl (by decide) ?_;refine AX.seq ?_;refine AX.region ?_;refine aO.go (f:=0) aI (aJ rfl) ?_;refine aO.nil ?_;refine AX.seq ?_;refine AX.region ?_;refine aO.go (f:=0) aI (aH rfl) ?_;refine aO.go (f:=0) aI (iV rfl rfl rfl) ?_;refine aO.go (f:=0) aI (P8 rfl rfl) ?_;refine aO.go (f:=0) aI (aH rfl) ?_;refine aO.split 6 rfl (λnT=> ?_) (λnT=> ?_)
 ·refine aO.yes (f:=0) aI rfl rfl rfl (fI nT) (aH rfl) ?_;refine aO.yes (f:=0) aI rfl rfl rfl (fI nT) (iV rfl rfl rfl) ?_;refine aO.yes (f:=0) aI rfl rfl rfl (fI nT) (Zo rfl rfl) ?_;refine aO.go (f:=0) aI (b8 rfl nT rfl rfl) ?_;refine aO.go (f:=0) aI (aH rfl) ?_;refine aO.split 11 rfl (λgC=> ?_) (λgC=> ?_)
  ·refine aO.no rfl rfl rfl (aX gC) ?_;refine aO.no rfl rfl rfl (aX gC) ?_;refine aO.go (f:=0) aI (b8 rfl gC rfl rfl) ?_;refine aO.go (f:=0) aI (aJ rfl) ?_;refine aO.nil ?_;refine AX.ret ?_;exact⟨_,.inl rfl⟩
  ·refine aO.yes (f:=0) aI rfl rfl rfl (dO gC) (aH rfl) ?_;refine aO.yes (f:=0) aI rfl rfl rfl (dO gC) (pR rfl rfl) ?_;refine aO.go (f:=0) aI (fZ rfl gC rfl rfl) ?_;refine aO.go (f:=0) aI (aJ rfl) ?_;refine aO.nil ?_;refine AX.ret ?_;exact⟨_,.inl rfl⟩
 ·refine aO.no rfl rfl rfl (fJ nT) ?_;refine aO.no rfl rfl rfl (fJ nT) ?_;refine aO.no rfl rfl rfl (fJ nT) ?_;refine aO.go (f:=0) aI (fZ rfl nT rfl rfl) ?_;refine aO.go (f:=0) aI (aH rfl) ?_;refine aO.yes (f:=0) aI rfl rfl rfl (dO rfl) (aH rfl) ?_;refine aO.yes (f:=0) aI rfl rfl rfl (dO rfl) (pR rfl rfl) ?_;refine aO.go (f:=0) aI (fZ rfl rfl rfl rfl) ?_;refine aO.go (f:=0) aI (aJ rfl) ?_;refine aO.nil ?_;refine AX.ret ?_;exact⟨_,.inl rfl⟩
theorem aax {m:Int}{ev:bp}(aI:aC (cf m) ev)(lt dg:Int->Bool)(hL:∀n,ev 132 [.t (.int .u8 n)] []=some (.ret (.t (.bool (lt n))) [] []))(hD:∀n,ev 129 [.t (.int .u8 n)] []=some (.ret (.t (.bool (dg n))) [] []))(n:Int):
 ∃r:Bool,ai (cf m) 131 [.t (.int .u8 n)] [] (.ret (.t (.bool r)) [] []):=by
 refine AX.start 11 1 Tryz.func131 rfl (by decide) rfl rfl (by decide) ?_
 refine AX.seq ?_
 refine AX.region ?_
 refine aO.go (f:=0) aI (aJ rfl) ?_
 refine aO.nil ?_
 refine AX.seq ?_
 refine AX.region ?_
 refine aO.go (f:=0) aI (aH rfl) ?_
 refine aO.go (f:=0) aI (iC (Ls rfl) (hL _)) ?_
 refine aO.go (f:=0) aI (Mc rfl) ?_
 refine aO.go (f:=0) aI (aH rfl) ?_
 refine aO.split 6 rfl (λnT=> ?_) (λnT=> ?_)
 ·refine aO.yes (f:=0) aI rfl rfl rfl (fI nT) (aH rfl) ?_;refine aO.yes (f:=0) aI rfl rfl rfl (fI nT) (iC (Ls rfl) (hD _)) ?_;refine aO.yes (f:=0) aI rfl rfl rfl (fI nT) (Mc rfl) ?_;refine aO.go (f:=0) aI (b8 rfl nT rfl rfl) ?_;refine aO.go (f:=0) aI (aJ rfl) ?_;refine aO.nil ?_;refine AX.ret ?_;exact⟨_,.inl rfl⟩
 ·refine aO.no rfl rfl rfl (fJ nT) ?_;refine aO.no rfl rfl rfl (fJ nT) ?_;refine aO.no rfl rfl rfl (fJ nT) ?_;refine aO.go (f:=0) aI (fZ rfl nT rfl rfl) ?_;refine aO.go (f:=0) aI (aJ rfl) ?_;refine aO.nil ?_;refine AX.ret ?_;exact⟨_,.inl rfl⟩
theorem aiT {m:Int}{ev:bp}(aI:aC (cf m) ev)(l:List Tree)(hl:l.length<=4194304)(hf:∀e∈l,∃n,e=.int .u8 n)(g:FuncId)(q:Tree->Bool)(hq:∀e∈l,ev g [.t e] []=some (.ret (.t (.bool (q e))) [] [])):
 ∃r:Int,ai (cf m) 179 [.t (.sl l),.t (.fn (.func g))] [] (.ret (.t (.int .i64 r)) [] []):=by
 refine AX.start 19 2 Tryz.func179 rfl (by decide) rfl rfl (by decide) ?_
 refine AX.seq ?_
 refine AX.region ?_
 refine aO.go (f:=0) aI (aJ rfl) ?_
 refine aO.nil ?_
 refine AX.seq ?_
 refine AX.seq ?_
 refine AX.region ?_
 refine aO.go (f:=0) aI (aH rfl) ?_
 refine aO.go (f:=0) aI ((by first|exact JB rfl Ml rfl|exact Ny rfl Ml rfl|exact Tc rfl Ml rfl|exact Td rfl Ml rfl)) ?_
 refine aO.go (f:=0) aI (aH rfl) ?_
 refine aO.nil ?_
 refine AX.block ?_
 refine AX.loop (α:=Nat) (λi=>⟨eA 19 [(0,.t (.sl l)),(1,.t (.fn (.func g))),(7,.t (.int .i64 l.length)),(8,.t (.int .i64 i))],[],0⟩) (λi=>i<=l.length) (λi=>l.length - i) 0 (Re.sq [] ⟨rfl,rfl,rfl,rfl,trivial⟩ trivial (by decide) rfl rfl (by decide)) (Nat.zero_le _) (λi hok=> ?_)
 replace hok:i<=l.length:=hok
 refine AX.seq ?_
 refine AX.region ?_
 refine aO.go (f:=0) aI (pT rfl rfl) ?_
 refine aO.nil ?_
 refine AX.seq ?_
 refine AX.cond rfl (λh9=> ?_) (λh9=> ?_)
 ·have hlt:i<l.length:=by have:=of_decide_eq_true h9;omega
  obtain⟨e,he⟩:∃e,l[i]?=some e:=⟨l[i],List.getElem?_eq_getElem hlt⟩;obtain⟨n,rfl⟩:=hf e (List.mem_of_getElem? he);refine AX.skip ?_;refine AX.seq ?_;refine AX.block ?_;refine AX.seq ?_;refine AX.region ?_;refine aO.go (f:=0) aI (aH rfl) ?_;refine aO.go (f:=0) aI (aJ rfl) ?_;refine aO.nil ?_;refine AX.seq ?_;refine AX.region ?_;refine aO.go (f:=0) aI (aH rfl) ?_;refine aO.go (f:=0) aI (aH rfl) ?_;refine aO.go (f:=0) aI (aH rfl) ?_;refine aO.go (f:=0) aI (JC rfl rfl Ml rfl Pg he rfl) ?_;refine aO.go (f:=0) aI ((by first|exact k6 rfl (ld Pg rfl rfl)|exact mV rfl (ld Pg rfl rfl))) ?_;refine aO.go (f:=0) aI (Vl rfl (Ls rfl) (hq _ (List.mem_of_getElem? he))) ?_;refine aO.nil ?_;refine AX.cond rfl (λh16=> ?_) (λh16=> ?_)
  ·skip;refine AX.seq ?_;refine AX.region ?_;refine aO.go (f:=0) aI (aH rfl) ?_;refine aO.go (f:=0) aI (aJ rfl) ?_;refine aO.nil ?_;refine AX.ret ?_;refine AX.cB ?_;refine AX.cR ?_;refine AX.leave (e:=.ret) (by simp) ?_;refine AX.cB ?_;refine AX.cR ?_;exact⟨_,.inl rfl⟩
  ·skip;refine AX.skip ?_;refine AX.lI ?_;refine AX.region ?_;refine aO.go (f:=0) aI (Nw rfl rfl (by omega) (by omega)) ?_;refine aO.go (f:=0) aI (aH rfl) ?_;refine aO.nil ?_;exact⟨.inl ⟨i+1,by show i+1<=_/\l.length - (i+1)<l.length - i;omega⟩,rfl,(Re.sq [] ⟨rfl,rfl,rfl,rfl,trivial⟩ trivial (by decide) rfl rfl (by decide))⟩
 ·skip;refine AX.exit ?_;refine AX.lC ?_;refine AX.leave (e:=.exit 0) (by simp) ?_;refine AX.nG ?_;refine AX.seq ?_;refine AX.region ?_;refine aO.go (f:=0) aI (aJ rfl) ?_;refine aO.nil ?_;refine AX.ret ?_;exact⟨_,.inl rfl⟩
theorem aiU {m:Int}{ev:bp}(aI:aC (cf m) ev)(x y:Tree)(z:Int)(hI:ev 179 [.t x,.t y] []=some (.ret (.t (.int .i64 z)) [] [])):
 ∃r:Bool,ai (cf m) 130 [.t x,.t y] [] (.ret (.t (.bool r)) [] []):=by
 refine AX.start 9 2 Tryz.func130 rfl (by decide) rfl rfl (by decide) ?_
 refine AX.seq ?_
 refine AX.region ?_
 refine aO.go (f:=0) aI (aJ rfl) ?_
 refine aO.nil ?_
 refine AX.seq ?_
 refine AX.region ?_
 refine aO.go (f:=0) aI (aH rfl) ?_
 refine aO.go (f:=0) aI (aH rfl) ?_
 refine aO.go (f:=0) aI (iC (rh2 rfl rfl) hI) ?_
 refine aO.go (f:=0) aI (P8 rfl rfl) ?_
 refine aO.go (f:=0) aI (aJ rfl) ?_
 refine aO.nil ?_
 refine AX.ret ?_
 exact⟨_,.inl rfl⟩
theorem aiV {m:Int}{ev:bp}(aI:aC (cf m) ev)(l:List Tree)(hl:l.length<=4194304)(hf:∀e∈l,∃u,e=.str u)(g:FuncId)(q:Tree->Bool)(hq:∀e∈l,ev g [.t e] []=some (.ret (.t (.bool (q e))) [] [])):
 ∃r:Int,ai (cf m) 126 [.t (.sl l),.t (.fn (.func g))] [] (.ret (.t (.int .i64 r)) [] []):=by
 refine AX.start 19 2 Tryz.func126 rfl (by decide) rfl rfl (by decide) ?_
 refine AX.seq ?_
 refine AX.region ?_
 refine aO.go (f:=0) aI (aJ rfl) ?_
 refine aO.nil ?_
 refine AX.seq ?_
 refine AX.seq ?_
 refine AX.region ?_
 refine aO.go (f:=0) aI (aH rfl) ?_
 refine aO.go (f:=0) aI ((by first|exact JB rfl qq rfl|exact Ny rfl qq rfl|exact Tc rfl qq rfl|exact Td rfl qq rfl)) ?_
 refine aO.go (f:=0) aI (aH rfl) ?_
 refine aO.nil ?_
 refine AX.block ?_
 refine AX.loop (α:=Nat) (λi=>⟨eA 19 [(0,.t (.sl l)),(1,.t (.fn (.func g))),(7,.t (.int .i64 l.length)),(8,.t (.int .i64 i))],[],0⟩) (λi=>i<=l.length) (λi=>l.length - i) 0 (Re.sq [] ⟨rfl,rfl,rfl,rfl,trivial⟩ trivial (by decide) rfl rfl (by decide)) (Nat.zero_le _) (λi hok=> ?_)
 replace hok:i<=l.length:=hok
 refine AX.seq ?_
 refine AX.region ?_
 refine aO.go (f:=0) aI (pT rfl rfl) ?_
 refine aO.nil ?_
 refine AX.seq ?_
 refine AX.cond rfl (λh9=> ?_) (λh9=> ?_)
 ·have hlt:i<l.length:=by have:=of_decide_eq_true h9;omega
  obtain⟨e,he⟩:∃e,l[i]?=some e:=⟨l[i],List.getElem?_eq_getElem hlt⟩;obtain⟨u,rfl⟩:=hf e (List.mem_of_getElem? he);refine AX.skip ?_;refine AX.seq ?_;refine AX.block ?_;refine AX.seq ?_;refine AX.region ?_;refine aO.go (f:=0) aI (aH rfl) ?_;refine aO.go (f:=0) aI (aJ rfl) ?_;refine aO.nil ?_;refine AX.seq ?_;refine AX.region ?_;refine aO.go (f:=0) aI (aH rfl) ?_;refine aO.go (f:=0) aI (aH rfl) ?_;refine aO.go (f:=0) aI (aH rfl) ?_;refine aO.go (f:=0) aI (JC rfl rfl qq rfl q3 he rfl) ?_;refine aO.go (f:=0) aI ((by first|exact k6 rfl (ld q3 rfl rfl)|exact mV rfl (ld q3 rfl rfl))) ?_;refine aO.go (f:=0) aI (Vl rfl (Ls rfl) (hq _ (List.mem_of_getElem? he))) ?_;refine aO.nil ?_;refine AX.cond rfl (λh16=> ?_) (λh16=> ?_)
  ·skip;refine AX.seq ?_;refine AX.region ?_;refine aO.go (f:=0) aI (aH rfl) ?_;refine aO.go (f:=0) aI (aJ rfl) ?_;refine aO.nil ?_;refine AX.ret ?_;refine AX.cB ?_;refine AX.cR ?_;refine AX.leave (e:=.ret) (by simp) ?_;refine AX.cB ?_;refine AX.cR ?_;exact⟨_,.inl rfl⟩
  ·skip;refine AX.skip ?_;refine AX.lI ?_;refine AX.region ?_;refine aO.go (f:=0) aI (Nw rfl rfl (by omega) (by omega)) ?_;refine aO.go (f:=0) aI (aH rfl) ?_;refine aO.nil ?_;exact⟨.inl ⟨i+1,by show i+1<=_/\l.length - (i+1)<l.length - i;omega⟩,rfl,(Re.sq [] ⟨rfl,rfl,rfl,rfl,trivial⟩ trivial (by decide) rfl rfl (by decide))⟩
 ·skip;refine AX.exit ?_;refine AX.lC ?_;refine AX.leave (e:=.exit 0) (by simp) ?_;refine AX.nG ?_;refine AX.seq ?_;refine AX.region ?_;refine aO.go (f:=0) aI (aJ rfl) ?_;refine aO.nil ?_;refine AX.ret ?_;exact⟨_,.inl rfl⟩
theorem aiW {m:Int}{ev:bp}(aI:aC (cf m) ev)(x y:Tree)(z:Int)(hI:ev 126 [.t x,.t y] []=some (.ret (.t (.int .i64 z)) [] [])):
 ∃r:Bool,ai (cf m) 79 [.t x,.t y] [] (.ret (.t (.bool r)) [] []):=by
 refine AX.start 9 2 Tryz.func79 rfl (by decide) rfl rfl (by decide) ?_
 refine AX.seq ?_
 refine AX.region ?_
 refine aO.go (f:=0) aI (aJ rfl) ?_
 refine aO.nil ?_
 refine AX.seq ?_
 refine AX.region ?_
 refine aO.go (f:=0) aI (aH rfl) ?_
 refine aO.go (f:=0) aI (aH rfl) ?_
 refine aO.go (f:=0) aI (iC (rh2 rfl rfl) hI) ?_
 refine aO.go (f:=0) aI (P8 rfl rfl) ?_
 refine aO.go (f:=0) aI (aJ rfl) ?_
 refine aO.nil ?_
 refine AX.ret ?_
 exact⟨_,.inl rfl⟩
theorem aiX {m:Int}{ev:bp}(aI:aC (cf m) ev)(l:List Tree)(hl:l.length<=4194304)(hf:∀e∈l,∃u,e=.str u)(v:List UInt8):
 ∃r:Int,ai (cf m) 101 [.t (.sl l),.t (.str v)] [] (.ret (.t (.int .i64 r)) [] []):=by
 refine AX.start 19 2 Tryz.func101 rfl (by decide) rfl rfl (by decide) ?_
 refine AX.seq ?_
 refine AX.region ?_
 refine aO.go (f:=0) aI (aJ rfl) ?_
 refine aO.nil ?_
 refine AX.seq ?_
 refine AX.seq ?_
 refine AX.region ?_
 refine aO.go (f:=0) aI (aH rfl) ?_
 refine aO.go (f:=0) aI ((by first|exact JB rfl qq rfl|exact Ny rfl qq rfl|exact Tc rfl qq rfl|exact Td rfl qq rfl)) ?_
 refine aO.go (f:=0) aI (aH rfl) ?_
 refine aO.nil ?_
 refine AX.block ?_
 refine AX.loop (α:=Nat) (λi=>⟨eA 19 [(0,.t (.sl l)),(1,.t (.str v)),(7,.t (.int .i64 l.length)),(8,.t (.int .i64 i))],[],0⟩) (λi=>i<=l.length) (λi=>l.length - i) 0 (Re.sq [] ⟨rfl,rfl,rfl,rfl,trivial⟩ trivial (by decide) rfl rfl (by decide)) (Nat.zero_le _) (λi hok=> ?_)
 replace hok:i<=l.length:=hok
 refine AX.seq ?_
 refine AX.region ?_
 refine aO.go (f:=0) aI (pT rfl rfl) ?_
 refine aO.nil ?_
 refine AX.seq ?_
 refine AX.cond rfl (λh9=> ?_) (λh9=> ?_)
 ·have hlt:i<l.length:=by have:=of_decide_eq_true h9;omega
  obtain⟨e,he⟩:∃e,l[i]?=some e:=⟨l[i],List.getElem?_eq_getElem hlt⟩;obtain⟨u,rfl⟩:=hf e (List.mem_of_getElem? he);refine AX.skip ?_;refine AX.seq ?_;refine AX.block ?_;refine AX.seq ?_;refine AX.region ?_;refine aO.go (f:=0) aI (aH rfl) ?_;refine aO.go (f:=0) aI (aJ rfl) ?_;refine aO.nil ?_;refine AX.seq ?_;refine AX.region ?_;refine aO.go (f:=0) aI (aH rfl) ?_;refine aO.go (f:=0) aI (aH rfl) ?_;refine aO.go (f:=0) aI (aH rfl) ?_;refine aO.go (f:=0) aI (JC rfl rfl qq rfl q3 he rfl) ?_;refine aO.go (f:=0) aI ((by first|exact k6 rfl (ld q3 rfl rfl)|exact mV rfl (ld q3 rfl rfl))) ?_;refine aO.go (f:=0) aI (ahf rfl rfl) ?_;refine aO.nil ?_;refine AX.cond rfl (λh16=> ?_) (λh16=> ?_)
  ·skip;refine AX.seq ?_;refine AX.region ?_;refine aO.go (f:=0) aI (aH rfl) ?_;refine aO.go (f:=0) aI (aJ rfl) ?_;refine aO.nil ?_;refine AX.ret ?_;refine AX.cB ?_;refine AX.cR ?_;refine AX.leave (e:=.ret) (by simp) ?_;refine AX.cB ?_;refine AX.cR ?_;exact⟨_,.inl rfl⟩
  ·skip;refine AX.skip ?_;refine AX.lI ?_;refine AX.region ?_;refine aO.go (f:=0) aI (Nw rfl rfl (by omega) (by omega)) ?_;refine aO.go (f:=0) aI (aH rfl) ?_;refine aO.nil ?_;exact⟨.inl ⟨i+1,by show i+1<=_/\l.length - (i+1)<l.length - i;omega⟩,rfl,(Re.sq [] ⟨rfl,rfl,rfl,rfl,trivial⟩ trivial (by decide) rfl rfl (by decide))⟩
 ·skip;refine AX.exit ?_;refine AX.lC ?_;refine AX.leave (e:=.exit 0) (by simp) ?_;refine AX.nG ?_;refine AX.seq ?_;refine AX.region ?_;refine aO.go (f:=0) aI (aJ rfl) ?_;refine aO.nil ?_;refine AX.ret ?_;exact⟨_,.inl rfl⟩
theorem aiY {m:Int}{ev:bp}(aI:aC (cf m) ev)(x y:Tree)(z:Int)(hI:ev 101 [.t x,.t y] []=some (.ret (.t (.int .i64 z)) [] [])):
 ∃r:Bool,ai (cf m) 76 [.t x,.t y] [] (.ret (.t (.bool r)) [] []):=by
 refine AX.start 9 2 Tryz.func76 rfl (by decide) rfl rfl (by decide) ?_
 refine AX.seq ?_
 refine AX.region ?_
 refine aO.go (f:=0) aI (aJ rfl) ?_
 refine aO.nil ?_
 refine AX.seq ?_
 refine AX.region ?_
 refine aO.go (f:=0) aI (aH rfl) ?_
 refine aO.go (f:=0) aI (aH rfl) ?_
 refine aO.go (f:=0) aI (iC (rh2 rfl rfl) hI) ?_
 refine aO.go (f:=0) aI (P8 rfl rfl) ?_
 refine aO.go (f:=0) aI (aJ rfl) ?_
 refine aO.nil ?_
 refine AX.ret ?_
 exact⟨_,.inl rfl⟩
theorem aeK {s:List UInt8}(h:(s==[])=false):∃b s',s=b::s':=by
 cases s with
 |nil=>simp at h
 |cons b s'=>exact⟨b,s',rfl⟩
theorem aeL {m:Int}{ev:bp}(aI:aC (cf m) ev)(dg:Int->Bool)(cw nb:List UInt8->Bool)(hF:ev 128 [.t (.str Zz)] []=some (.ret (.t (.sl (zC.map .str))) [] []))(hD:∀n,ev 129 [.t (.int .u8 n)] []=some (.ret (.t (.bool (dg n))) [] []))
 (hC:∀s,ev 76 [.t (.sl (zC.map .str)),.t (.str s)] []=some (.ret (.t (.bool (cw s))) [] []))(hB:∀s:List UInt8,s.length<=64->ev 130 [.t (.sl (s.map λb=>.int .u8 b.toNat)),.t (.fn (.func 131))] []=some (.ret (.t (.bool (nb s))) [] []))(s:List UInt8):
 ∃r:Bool,ai (cf m) 82 [.t (.str s)] [] (.ret (.t (.bool r)) [] []):=by
 refine AX.start 26 1 Tryz.func82 rfl (by decide) rfl rfl (by decide) ?_
 refine AX.seq ?_
 refine AX.region ?_
 refine aO.go (f:=0) aI (aJ rfl) ?_
 refine aO.nil ?_
 refine AX.seq ?_
 refine AX.region ?_
 refine aO.go (f:=0) aI (iC (Ls rfl) hF) ?_
 refine aO.go (f:=0) aI (aJ rfl) ?_
 refine aO.nil ?_
 refine AX.seq ?_
 refine AX.seq ?_
 refine AX.region ?_
 refine aO.go (f:=0) aI (aH rfl) ?_
 refine aO.go (f:=0) aI (ahf rfl rfl) ?_
 refine aO.go (f:=0) aI (aH rfl) ?_
 refine aO.split 7 rfl (λIo=> ?_) (λIo=> ?_)
 ·skip;refine aO.no rfl rfl rfl (aX Io) ?_;refine aO.no rfl rfl rfl (aX Io) ?_;refine aO.no rfl rfl rfl (aX Io) ?_;refine aO.go (f:=0) aI (b8 rfl Io rfl rfl) ?_;refine aO.go (f:=0) aI (aH rfl) ?_;refine aO.no rfl rfl rfl (aX rfl) ?_;refine aO.no rfl rfl rfl (aX rfl) ?_;refine aO.no rfl rfl rfl (aX rfl) ?_;refine aO.go (f:=0) aI (b8 rfl rfl rfl rfl) ?_;refine aO.go (f:=0) aI (aH rfl) ?_;refine aO.no rfl rfl rfl (aX rfl) ?_;refine aO.no rfl rfl rfl (aX rfl) ?_;refine aO.no rfl rfl rfl (aX rfl) ?_;refine aO.go (f:=0) aI (b8 rfl rfl rfl rfl) ?_;refine aO.nil ?_;refine AX.qA rfl rfl ?_;refine AX.seq ?_;refine AX.region ?_;refine aO.go (f:=0) aI (aJ rfl) ?_;refine aO.nil ?_;refine AX.ret ?_;refine AX.cR ?_;exact⟨_,.inl rfl⟩
 ·obtain⟨b,s',rfl⟩:=aeK Io;refine aO.yes (f:=0) aI rfl rfl rfl (dO Io) (aH rfl) ?_;refine aO.yes (f:=0) aI rfl rfl rfl (dO Io) (xQ rfl q3 rfl) ?_;refine aO.yes (f:=0) aI rfl rfl rfl (dO Io) (P7 rfl rfl) ?_;refine aO.go (f:=0) aI (fZ rfl Io rfl rfl) ?_;refine aO.go (f:=0) aI (aH rfl) ?_;refine aO.split 12 rfl (λeE=> ?_) (λeE=> ?_)
  ·skip;refine aO.no rfl rfl rfl (aX eE) ?_;refine aO.no rfl rfl rfl (aX eE) ?_;refine aO.no rfl rfl rfl (aX eE) ?_;refine aO.go (f:=0) aI (b8 rfl eE rfl rfl) ?_;refine aO.go (f:=0) aI (aH rfl) ?_;refine aO.no rfl rfl rfl (aX rfl) ?_;refine aO.no rfl rfl rfl (aX rfl) ?_;refine aO.no rfl rfl rfl (aX rfl) ?_;refine aO.go (f:=0) aI (b8 rfl rfl rfl rfl) ?_;refine aO.nil ?_;refine AX.qA rfl rfl ?_;refine AX.seq ?_;refine AX.region ?_;refine aO.go (f:=0) aI (aJ rfl) ?_;refine aO.nil ?_;refine AX.ret ?_;refine AX.cR ?_;exact⟨_,.inl rfl⟩
  ·have h64:(b::s').length<=64:=by have:=of_decide_eq_false eE;omega
   refine aO.yes (f:=0) aI rfl rfl rfl (dO eE) (aH rfl) ?_;refine aO.yes (f:=0) aI rfl rfl rfl (dO eE) (jN rfl rfl q3 rfl rfl) ?_;refine aO.yes (f:=0) aI rfl rfl rfl (dO eE) (iC (Ls rfl) (hD _)) ?_;refine aO.go (f:=0) aI (fZ rfl eE rfl rfl) ?_;refine aO.go (f:=0) aI (aH rfl) ?_;refine aO.split 17 rfl (λlg=> ?_) (λlg=> ?_)
   ·skip;refine aO.no rfl rfl rfl (aX lg) ?_;refine aO.no rfl rfl rfl (aX lg) ?_;refine aO.no rfl rfl rfl (aX lg) ?_;refine aO.go (f:=0) aI (b8 rfl lg rfl rfl) ?_;refine aO.nil ?_;refine AX.qA rfl rfl ?_;refine AX.seq ?_;refine AX.region ?_;refine aO.go (f:=0) aI (aJ rfl) ?_;refine aO.nil ?_;refine AX.ret ?_;refine AX.cR ?_;exact⟨_,.inl rfl⟩
   ·skip;refine aO.yes (f:=0) aI rfl rfl rfl (dO lg) (aH rfl) ?_;refine aO.yes (f:=0) aI rfl rfl rfl (dO lg) (aH rfl) ?_;refine aO.yes (f:=0) aI rfl rfl rfl (dO lg) (iC (rh2 rfl rfl) (hC _)) ?_;refine aO.go (f:=0) aI (fZ rfl lg rfl rfl) ?_;refine aO.nil ?_;refine AX.cond rfl (λh21=> ?_) (λh21=> ?_)
    ·skip;refine AX.seq ?_;refine AX.region ?_;refine aO.go (f:=0) aI (aJ rfl) ?_;refine aO.nil ?_;refine AX.ret ?_;refine AX.cR ?_;exact⟨_,.inl rfl⟩
    ·skip;refine AX.skip ?_;refine AX.seq ?_;refine AX.region ?_;refine aO.go (f:=0) aI (aH rfl) ?_;refine aO.go (f:=0) aI (aej rfl rfl q3 rfl Ml rfl Pg rfl) ?_;refine aO.go (f:=0) aI (iC (rh2 rfl rfl) (hB _ h64)) ?_;refine aO.go (f:=0) aI (Mc rfl) ?_;refine aO.go (f:=0) aI (aJ rfl) ?_;refine aO.nil ?_;refine AX.ret ?_;exact⟨_,.inl rfl⟩
theorem N7 {m:Int}{ev:bp}(aI:aC (cf m) ev)(nm:List UInt8->Bool)(hN:∀s,ev 82 [.t (.str s)] []=some (.ret (.t (.bool (nm s))) [] []))(s:List UInt8):
 ∃r:Bool,ai (cf m) 81 [.t (.str s)] [] (.ret (.t (.bool r)) [] []):=by
 refine AX.start 6 1 Tryz.func81 rfl (by decide) rfl rfl (by decide) ?_
 refine AX.seq ?_
 refine AX.region ?_
 refine aO.go (f:=0) aI (aJ rfl) ?_
 refine aO.nil ?_
 refine AX.seq ?_
 refine AX.region ?_
 refine aO.go (f:=0) aI (aH rfl) ?_
 refine aO.go (f:=0) aI (iC (Ls rfl) (hN _)) ?_
 refine aO.go (f:=0) aI (Mc rfl) ?_
 refine aO.go (f:=0) aI (aJ rfl) ?_
 refine aO.nil ?_
 refine AX.ret ?_
 exact⟨_,.inl rfl⟩
theorem QI {m:Int}{ev:bp}(aI:aC (cf m) ev)(pc:List UInt8->List (List UInt8))(ct:List UInt8->Bool)(hS:∀s:List UInt8,s.length<=64->ev 80 [.t (.str s),.t (.str [58,58])] []=some (.ret (.t (.sl ((pc s).map .str))) [] []))
 (hC:∀s:List UInt8,s.length<=64->ev 79 [.t (.sl ((pc s).map .str)),.t (.fn (.func 81))] []=some (.ret (.t (.bool (ct s))) [] []))(s:List UInt8):
 ∃r:Bool,ai (cf m) 40 [.t (.str s)] [] (.ret (.t (.bool r)) [] []):=by
 refine AX.start 12 1 Tryz.func40 rfl (by decide) rfl rfl (by decide) ?_
 refine AX.seq ?_
 refine AX.region ?_
 refine aO.go (f:=0) aI (aJ rfl) ?_
 refine aO.nil ?_
 refine AX.seq ?_
 refine AX.region ?_
 refine aO.go (f:=0) aI (aH rfl) ?_
 refine aO.go (f:=0) aI (xQ rfl q3 rfl) ?_
 refine aO.go (f:=0) aI (Zo rfl rfl) ?_
 refine aO.go (f:=0) aI (aH rfl) ?_
 refine aO.split 6 rfl (λnT=> ?_) (λnT=> ?_)
 ·have h64:s.length<=64:=by have:=of_decide_eq_true nT;omega
  refine aO.yes (f:=0) aI rfl rfl rfl (fI nT) (aH rfl) ?_;refine aO.yes (f:=0) aI rfl rfl rfl (fI nT) (iC (rh2 rfl rfl) (hS _ h64)) ?_;refine aO.yes (f:=0) aI rfl rfl rfl (fI nT) (iC (rh2 rfl rfl) (hC _ h64)) ?_;refine aO.yes (f:=0) aI rfl rfl rfl (fI nT) (Mc rfl) ?_;refine aO.go (f:=0) aI (b8 rfl nT rfl rfl) ?_;refine aO.go (f:=0) aI (aJ rfl) ?_;refine aO.nil ?_;refine AX.ret ?_;exact⟨_,.inl rfl⟩
 ·skip;refine aO.no rfl rfl rfl (fJ nT) ?_;refine aO.no rfl rfl rfl (fJ nT) ?_;refine aO.no rfl rfl rfl (fJ nT) ?_;refine aO.no rfl rfl rfl (fJ nT) ?_;refine aO.go (f:=0) aI (fZ rfl nT rfl rfl) ?_;refine aO.go (f:=0) aI (aJ rfl) ?_;refine aO.nil ?_;refine AX.ret ?_;exact⟨_,.inl rfl⟩
end
end Go.Proofs.YtfdnciimclnncaaGreatDoor.w
