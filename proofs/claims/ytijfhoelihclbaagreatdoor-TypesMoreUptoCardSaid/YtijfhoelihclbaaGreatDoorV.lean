/- More of it. -/
import Derived.Test.YtijfhoelihclbaaGreatDoorU
import Derived.Test.YtijfhoelihclbaaGreatDoorJ
namespace Go.Proofs.YtijfhoelihclbaaGreatDoor.w
open Go Go.Abs
set_option linter.unusedVariables false
set_option maxRecDepth 100000
set_option maxHeartbeats 1000000
noncomputable section
abbrev afi:TI:={size:=1,bytes:=24,agg:=false,zero:=some (.aL),desc:=.slice 5}
theorem Gf {m:Int}:(cf m).P.ty 204=some afi:=by kernel_rfl
theorem T4 {m:Int}:eX (cf m).P 45 0=some 0:=by kernel_rfl
theorem Kl {m:Int}{ev:aW}(ai:aF (cf m) ev)(n:Int):∃r:Bool,ay (cf m) 139 [.t (.int .u8 n)] [] (.ret (.t (.bool r)) [] []):=by
 refine AX.start 9 1 Tryz.func139 rfl (by decide) rfl rfl (by decide) ?_
 refine AX.seq ?_
 refine AX.region ?_
 refine ak.go (f:=0) ai (au rfl) ?_
 refine ak.nil ?_
 refine AX.seq ?_
 refine AX.region ?_
 refine ak.go (f:=0) ai (av rfl) ?_
 refine ak.go (f:=0) ai (FY rfl rfl) ?_
 refine ak.go (f:=0) ai (av rfl) ?_
 refine ak.split 5 rfl (fun bu=> ?_) (fun bu=> ?_)
 ·
  refine ak.yes (f:=0) ai rfl rfl rfl (cQ bu) (av rfl) ?_
  refine ak.yes (f:=0) ai rfl rfl rfl (cQ bu) (JO rfl rfl) ?_
  refine ak.go (f:=0) ai (bz rfl bu rfl rfl) ?_
  refine ak.go (f:=0) ai (au rfl) ?_
  refine ak.nil ?_
  refine AX.ret ?_
  exact⟨_,.inl rfl⟩
 ·
  refine ak.no rfl rfl rfl (dh bu) ?_
  refine ak.no rfl rfl rfl (dh bu) ?_
  refine ak.go (f:=0) ai (dU rfl bu rfl rfl) ?_
  refine ak.go (f:=0) ai (au rfl) ?_
  refine ak.nil ?_
  refine AX.ret ?_
  exact⟨_,.inl rfl⟩
theorem QW {m:Int}{ev:aW}(ai:aF (cf m) ev)(n:Int):∃r:Bool,ay (cf m) 142 [.t (.int .u8 n)] [] (.ret (.t (.bool r)) [] []):=by
 refine AX.start 15 1 Tryz.func142 rfl (by decide) rfl rfl (by decide) ?_
 refine AX.seq ?_
 refine AX.region ?_
 refine ak.go (f:=0) ai (au rfl) ?_
 refine ak.nil ?_
 refine AX.seq ?_
 refine AX.region ?_
 refine ak.go (f:=0) ai (av rfl) ?_
 refine ak.go (f:=0) ai (fZ rfl rfl rfl) ?_
 refine ak.go (f:=0) ai (FY rfl rfl) ?_
 refine ak.go (f:=0) ai (av rfl) ?_
 refine ak.split 6 rfl (fun gh=> ?_) (fun gh=> ?_)
 ·
  refine ak.yes (f:=0) ai rfl rfl rfl (cQ gh) (av rfl) ?_
  refine ak.yes (f:=0) ai rfl rfl rfl (cQ gh) (fZ rfl rfl rfl) ?_
  refine ak.yes (f:=0) ai rfl rfl rfl (cQ gh) (JO rfl rfl) ?_
  refine ak.go (f:=0) ai (bz rfl gh rfl rfl) ?_
  refine ak.go (f:=0) ai (av rfl) ?_
  refine ak.split 11 rfl (fun pg=> ?_) (fun pg=> ?_)
  ·
   refine ak.no rfl rfl rfl (aN pg) ?_
   refine ak.no rfl rfl rfl (aN pg) ?_
   refine ak.go (f:=0) ai (bz rfl pg rfl rfl) ?_
   refine ak.go (f:=0) ai (au rfl) ?_
   refine ak.nil ?_
   refine AX.ret ?_
   exact⟨_,.inl rfl⟩
  ·
   refine ak.yes (f:=0) ai rfl rfl rfl (cL pg) (av rfl) ?_
   refine ak.yes (f:=0) ai rfl rfl rfl (cL pg) (gR rfl rfl) ?_
   refine ak.go (f:=0) ai (dU rfl pg rfl rfl) ?_
   refine ak.go (f:=0) ai (au rfl) ?_
   refine ak.nil ?_
   refine AX.ret ?_
   exact⟨_,.inl rfl⟩
 ·
  refine ak.no rfl rfl rfl (dh gh) ?_
  refine ak.no rfl rfl rfl (dh gh) ?_
  refine ak.no rfl rfl rfl (dh gh) ?_
  refine ak.go (f:=0) ai (dU rfl gh rfl rfl) ?_
  refine ak.go (f:=0) ai (av rfl) ?_
  refine ak.yes (f:=0) ai rfl rfl rfl (cL rfl) (av rfl) ?_
  refine ak.yes (f:=0) ai rfl rfl rfl (cL rfl) (gR rfl rfl) ?_
  refine ak.go (f:=0) ai (dU rfl rfl rfl rfl) ?_
  refine ak.go (f:=0) ai (au rfl) ?_
  refine ak.nil ?_
  refine AX.ret ?_
  exact⟨_,.inl rfl⟩
theorem T5 {m:Int}{ev:aW}(ai:aF (cf m) ev)(lt dg:Int→Bool)(hL:∀n,ev 142 [.t (.int .u8 n)] []=some (.ret (.t (.bool (lt n))) [] []))(hD:∀n,ev 139 [.t (.int .u8 n)] []=some (.ret (.t (.bool (dg n))) [] []))(n:Int):
  ∃r:Bool,ay (cf m) 141 [.t (.int .u8 n)] [] (.ret (.t (.bool r)) [] []):=by
 refine AX.start 11 1 Tryz.func141 rfl (by decide) rfl rfl (by decide) ?_
 refine AX.seq ?_
 refine AX.region ?_
 refine ak.go (f:=0) ai (au rfl) ?_
 refine ak.nil ?_
 refine AX.seq ?_
 refine AX.region ?_
 refine ak.go (f:=0) ai (av rfl) ?_
 refine ak.go (f:=0) ai (bU (uQ rfl) (hL _)) ?_
 refine ak.go (f:=0) ai (w6 rfl) ?_
 refine ak.go (f:=0) ai (av rfl) ?_
 refine ak.split 6 rfl (fun gh=> ?_) (fun gh=> ?_)
 ·
  refine ak.yes (f:=0) ai rfl rfl rfl (cQ gh) (av rfl) ?_
  refine ak.yes (f:=0) ai rfl rfl rfl (cQ gh) (bU (uQ rfl) (hD _)) ?_
  refine ak.yes (f:=0) ai rfl rfl rfl (cQ gh) (w6 rfl) ?_
  refine ak.go (f:=0) ai (bz rfl gh rfl rfl) ?_
  refine ak.go (f:=0) ai (au rfl) ?_
  refine ak.nil ?_
  refine AX.ret ?_
  exact⟨_,.inl rfl⟩
 ·
  refine ak.no rfl rfl rfl (dh gh) ?_
  refine ak.no rfl rfl rfl (dh gh) ?_
  refine ak.no rfl rfl rfl (dh gh) ?_
  refine ak.go (f:=0) ai (dU rfl gh rfl rfl) ?_
  refine ak.go (f:=0) ai (au rfl) ?_
  refine ak.nil ?_
  refine AX.ret ?_
  exact⟨_,.inl rfl⟩
theorem abZ {m:Int}{ev:aW}(ai:aF (cf m) ev)(l:List Tree)(hl:l.length≤4194304)(hf:∀e∈l,∃n,e=.int .u8 n)(g:FuncId)(q:Tree→Bool)(hq:∀e∈l,ev g [.t e] []=some (.ret (.t (.bool (q e))) [] [])):
    ∃r:Int,ay (cf m) 181 [.t (.sl l),.t (.fn (.func g))] [] (.ret (.t (.int .i64 r)) [] []):=by
  refine AX.start 19 2 Tryz.func181 rfl (by decide) rfl rfl (by decide) ?_
  refine AX.seq ?_
  refine AX.region ?_
  refine ak.go (f:=0) ai (au rfl) ?_
  refine ak.nil ?_
  refine AX.seq ?_
  refine AX.seq ?_
  refine AX.region ?_
  refine ak.go (f:=0) ai (av rfl) ?_
  refine ak.go (f:=0) ai ((by first|exact gX rfl Gf rfl|exact xJ rfl Gf rfl|exact Ds rfl Gf rfl|exact Dt rfl Gf rfl)) ?_
  refine ak.go (f:=0) ai (av rfl) ?_
  refine ak.nil ?_
  refine AX.block ?_
  refine AX.loop (α:=Nat) (fun i=>⟨bH 19 [(0,.t (.sl l)),(1,.t (.fn (.func g))),(7,.t (.int .i64 l.length)),(8,.t (.int .i64 i))],[],0⟩) (fun i=>i≤l.length) (fun i=>l.length - i) 0 (Re.sq [] ⟨rfl,rfl,rfl,rfl,trivial⟩ trivial (by decide) rfl rfl (by decide)) (Nat.zero_le _) (fun i hok=> ?_)
  replace hok:i≤l.length:=hok
  refine AX.seq ?_
  refine AX.region ?_
  refine ak.go (f:=0) ai (ia rfl rfl) ?_
  refine ak.nil ?_
  refine AX.seq ?_
  refine AX.cond rfl (fun h9=> ?_) (fun h9=> ?_)
  · have hlt:i<l.length:=by have:=of_decide_eq_true h9;omega
    obtain⟨e,he⟩:∃e,l[i]?=some e:=⟨l[i],List.getElem?_eq_getElem hlt⟩
    obtain⟨n,rfl⟩:=hf e (List.mem_of_getElem? he)
    refine AX.skip ?_
    refine AX.seq ?_
    refine AX.block ?_
    refine AX.seq ?_
    refine AX.region ?_
    refine ak.go (f:=0) ai (av rfl) ?_
    refine ak.go (f:=0) ai (au rfl) ?_
    refine ak.nil ?_
    refine AX.seq ?_
    refine AX.region ?_
    refine ak.go (f:=0) ai (av rfl) ?_
    refine ak.go (f:=0) ai (av rfl) ?_
    refine ak.go (f:=0) ai (av rfl) ?_
    refine ak.go (f:=0) ai (gL rfl rfl Gf rfl Ja he rfl) ?_
    refine ak.go (f:=0) ai ((by first|exact cN rfl (ld Ja rfl rfl)|exact aS rfl (ld Ja rfl rfl))) ?_
    refine ak.go (f:=0) ai (zc rfl (uQ rfl) (hq _ (List.mem_of_getElem? he))) ?_
    refine ak.nil ?_
    refine AX.cond rfl (fun h16=> ?_) (fun h16=> ?_)
    · skip
      refine AX.seq ?_
      refine AX.region ?_
      refine ak.go (f:=0) ai (av rfl) ?_
      refine ak.go (f:=0) ai (au rfl) ?_
      refine ak.nil ?_
      refine AX.ret ?_
      refine AX.bx ?_
      refine AX.bt ?_
      refine AX.leave (e:=.ret) (by simp) ?_
      refine AX.bx ?_
      refine AX.bt ?_
      exact⟨_,.inl rfl⟩
    · skip
      refine AX.skip ?_
      refine AX.cC ?_
      refine AX.region ?_
      refine ak.go (f:=0) ai (kI rfl rfl (by omega) (by omega)) ?_
      refine ak.go (f:=0) ai (av rfl) ?_
      refine ak.nil ?_
      exact⟨.inl ⟨i+1,by show i+1≤_∧l.length - (i+1)<l.length - i;omega⟩,rfl,(Re.sq [] ⟨rfl,rfl,rfl,rfl,trivial⟩ trivial (by decide) rfl rfl (by decide))⟩
  · skip
    refine AX.exit ?_
    refine AX.eP ?_
    refine AX.leave (e:=.exit 0) (by simp) ?_
    refine AX.fV ?_
    refine AX.seq ?_
    refine AX.region ?_
    refine ak.go (f:=0) ai (au rfl) ?_
    refine ak.nil ?_
    refine AX.ret ?_
    exact⟨_,.inl rfl⟩
theorem ab0 {m:Int}{ev:aW}(ai:aF (cf m) ev)(x y:Tree)(z:Int)(hI:ev 181 [.t x,.t y] []=some (.ret (.t (.int .i64 z)) [] [])):
  ∃r:Bool,ay (cf m) 140 [.t x,.t y] [] (.ret (.t (.bool r)) [] []):=by
 refine AX.start 9 2 Tryz.func140 rfl (by decide) rfl rfl (by decide) ?_
 refine AX.seq ?_
 refine AX.region ?_
 refine ak.go (f:=0) ai (au rfl) ?_
 refine ak.nil ?_
 refine AX.seq ?_
 refine AX.region ?_
 refine ak.go (f:=0) ai (av rfl) ?_
 refine ak.go (f:=0) ai (av rfl) ?_
 refine ak.go (f:=0) ai (bU (Oa rfl rfl) hI) ?_
 refine ak.go (f:=0) ai (FY rfl rfl) ?_
 refine ak.go (f:=0) ai (au rfl) ?_
 refine ak.nil ?_
 refine AX.ret ?_
 exact⟨_,.inl rfl⟩
theorem ab1 {m:Int}{ev:aW}(ai:aF (cf m) ev)(l:List Tree)(hl:l.length≤4194304)(hf:∀e∈l,∃u,e=.str u)(g:FuncId)(q:Tree→Bool)(hq:∀e∈l,ev g [.t e] []=some (.ret (.t (.bool (q e))) [] [])):
    ∃r:Int,ay (cf m) 112 [.t (.sl l),.t (.fn (.func g))] [] (.ret (.t (.int .i64 r)) [] []):=by
  refine AX.start 19 2 Tryz.func112 rfl (by decide) rfl rfl (by decide) ?_
  refine AX.seq ?_
  refine AX.region ?_
  refine ak.go (f:=0) ai (au rfl) ?_
  refine ak.nil ?_
  refine AX.seq ?_
  refine AX.seq ?_
  refine AX.region ?_
  refine ak.go (f:=0) ai (av rfl) ?_
  refine ak.go (f:=0) ai ((by first|exact gX rfl kJ rfl|exact xJ rfl kJ rfl|exact Ds rfl kJ rfl|exact Dt rfl kJ rfl)) ?_
  refine ak.go (f:=0) ai (av rfl) ?_
  refine ak.nil ?_
  refine AX.block ?_
  refine AX.loop (α:=Nat) (fun i=>⟨bH 19 [(0,.t (.sl l)),(1,.t (.fn (.func g))),(7,.t (.int .i64 l.length)),(8,.t (.int .i64 i))],[],0⟩) (fun i=>i≤l.length) (fun i=>l.length - i) 0 (Re.sq [] ⟨rfl,rfl,rfl,rfl,trivial⟩ trivial (by decide) rfl rfl (by decide)) (Nat.zero_le _) (fun i hok=> ?_)
  replace hok:i≤l.length:=hok
  refine AX.seq ?_
  refine AX.region ?_
  refine ak.go (f:=0) ai (ia rfl rfl) ?_
  refine ak.nil ?_
  refine AX.seq ?_
  refine AX.cond rfl (fun h9=> ?_) (fun h9=> ?_)
  · have hlt:i<l.length:=by have:=of_decide_eq_true h9;omega
    obtain⟨e,he⟩:∃e,l[i]?=some e:=⟨l[i],List.getElem?_eq_getElem hlt⟩
    obtain⟨u,rfl⟩:=hf e (List.mem_of_getElem? he)
    refine AX.skip ?_
    refine AX.seq ?_
    refine AX.block ?_
    refine AX.seq ?_
    refine AX.region ?_
    refine ak.go (f:=0) ai (av rfl) ?_
    refine ak.go (f:=0) ai (au rfl) ?_
    refine ak.nil ?_
    refine AX.seq ?_
    refine AX.region ?_
    refine ak.go (f:=0) ai (av rfl) ?_
    refine ak.go (f:=0) ai (av rfl) ?_
    refine ak.go (f:=0) ai (av rfl) ?_
    refine ak.go (f:=0) ai (gL rfl rfl kJ rfl kB he rfl) ?_
    refine ak.go (f:=0) ai ((by first|exact cN rfl (ld kB rfl rfl)|exact aS rfl (ld kB rfl rfl))) ?_
    refine ak.go (f:=0) ai (zc rfl (uQ rfl) (hq _ (List.mem_of_getElem? he))) ?_
    refine ak.nil ?_
    refine AX.cond rfl (fun h16=> ?_) (fun h16=> ?_)
    · skip
      refine AX.seq ?_
      refine AX.region ?_
      refine ak.go (f:=0) ai (av rfl) ?_
      refine ak.go (f:=0) ai (au rfl) ?_
      refine ak.nil ?_
      refine AX.ret ?_
      refine AX.bx ?_
      refine AX.bt ?_
      refine AX.leave (e:=.ret) (by simp) ?_
      refine AX.bx ?_
      refine AX.bt ?_
      exact⟨_,.inl rfl⟩
    · skip
      refine AX.skip ?_
      refine AX.cC ?_
      refine AX.region ?_
      refine ak.go (f:=0) ai (kI rfl rfl (by omega) (by omega)) ?_
      refine ak.go (f:=0) ai (av rfl) ?_
      refine ak.nil ?_
      exact⟨.inl ⟨i+1,by show i+1≤_∧l.length - (i+1)<l.length - i;omega⟩,rfl,(Re.sq [] ⟨rfl,rfl,rfl,rfl,trivial⟩ trivial (by decide) rfl rfl (by decide))⟩
  · skip
    refine AX.exit ?_
    refine AX.eP ?_
    refine AX.leave (e:=.exit 0) (by simp) ?_
    refine AX.fV ?_
    refine AX.seq ?_
    refine AX.region ?_
    refine ak.go (f:=0) ai (au rfl) ?_
    refine ak.nil ?_
    refine AX.ret ?_
    exact⟨_,.inl rfl⟩
theorem ab2 {m:Int}{ev:aW}(ai:aF (cf m) ev)(x y:Tree)(z:Int)(hI:ev 112 [.t x,.t y] []=some (.ret (.t (.int .i64 z)) [] [])):
  ∃r:Bool,ay (cf m) 77 [.t x,.t y] [] (.ret (.t (.bool r)) [] []):=by
 refine AX.start 9 2 Tryz.func77 rfl (by decide) rfl rfl (by decide) ?_
 refine AX.seq ?_
 refine AX.region ?_
 refine ak.go (f:=0) ai (au rfl) ?_
 refine ak.nil ?_
 refine AX.seq ?_
 refine AX.region ?_
 refine ak.go (f:=0) ai (av rfl) ?_
 refine ak.go (f:=0) ai (av rfl) ?_
 refine ak.go (f:=0) ai (bU (Oa rfl rfl) hI) ?_
 refine ak.go (f:=0) ai (FY rfl rfl) ?_
 refine ak.go (f:=0) ai (au rfl) ?_
 refine ak.nil ?_
 refine AX.ret ?_
 exact⟨_,.inl rfl⟩
theorem MU {m:Int}{ev:aW}(ai:aF (cf m) ev)(l:List Tree)(hl:l.length≤4194304)(hf:∀e∈l,∃nm k s o a,e=.agg [.str nm,.int .u8 k,.str s,.sl o,.sl a])(g:FuncId)(q:Tree→Bool)(hq:∀e∈l,ev g [.t e] []=some (.ret (.t (.bool (q e))) [] [])):
    ∃r:Int,ay (cf m) 99 [.t (.sl l),.t (.fn (.func g))] [] (.ret (.t (.int .i64 r)) [] []):=by
  refine AX.start 19 2 Tryz.func99 rfl (by decide) rfl rfl (by decide) ?_
  refine AX.seq ?_
  refine AX.region ?_
  refine ak.go (f:=0) ai (au rfl) ?_
  refine ak.nil ?_
  refine AX.seq ?_
  refine AX.seq ?_
  refine AX.region ?_
  refine ak.go (f:=0) ai (av rfl) ?_
  refine ak.go (f:=0) ai ((by first|exact gX rfl iH rfl|exact xJ rfl iH rfl|exact Ds rfl iH rfl|exact Dt rfl iH rfl)) ?_
  refine ak.go (f:=0) ai (av rfl) ?_
  refine ak.nil ?_
  refine AX.block ?_
  refine AX.loop (α:=Nat) (fun i=>⟨bH 19 [(0,.t (.sl l)),(1,.t (.fn (.func g))),(7,.t (.int .i64 l.length)),(8,.t (.int .i64 i))],[],0⟩) (fun i=>i≤l.length) (fun i=>l.length - i) 0 (Re.sq [] ⟨rfl,rfl,rfl,rfl,trivial⟩ trivial (by decide) rfl rfl (by decide)) (Nat.zero_le _) (fun i hok=> ?_)
  replace hok:i≤l.length:=hok
  refine AX.seq ?_
  refine AX.region ?_
  refine ak.go (f:=0) ai (ia rfl rfl) ?_
  refine ak.nil ?_
  refine AX.seq ?_
  refine AX.cond rfl (fun h9=> ?_) (fun h9=> ?_)
  · have hlt:i<l.length:=by have:=of_decide_eq_true h9;omega
    obtain⟨e,he⟩:∃e,l[i]?=some e:=⟨l[i],List.getElem?_eq_getElem hlt⟩
    obtain⟨nm,k,s,o,a,rfl⟩:=hf e (List.mem_of_getElem? he)
    refine AX.skip ?_
    refine AX.seq ?_
    refine AX.block ?_
    refine AX.seq ?_
    refine AX.region ?_
    refine ak.go (f:=0) ai (av rfl) ?_
    refine ak.go (f:=0) ai (au rfl) ?_
    refine ak.nil ?_
    refine AX.seq ?_
    refine AX.region ?_
    refine ak.go (f:=0) ai (av rfl) ?_
    refine ak.go (f:=0) ai (av rfl) ?_
    refine ak.go (f:=0) ai (av rfl) ?_
    refine ak.go (f:=0) ai (gL rfl rfl iH rfl tN he rfl) ?_
    refine ak.go (f:=0) ai ((by first|exact cN rfl (ld tN rfl rfl)|exact aS rfl (ld tN rfl rfl))) ?_
    refine ak.go (f:=0) ai (zc rfl (uQ rfl) (hq _ (List.mem_of_getElem? he))) ?_
    refine ak.nil ?_
    refine AX.cond rfl (fun h16=> ?_) (fun h16=> ?_)
    · skip
      refine AX.seq ?_
      refine AX.region ?_
      refine ak.go (f:=0) ai (av rfl) ?_
      refine ak.go (f:=0) ai (au rfl) ?_
      refine ak.nil ?_
      refine AX.ret ?_
      refine AX.bx ?_
      refine AX.bt ?_
      refine AX.leave (e:=.ret) (by simp) ?_
      refine AX.bx ?_
      refine AX.bt ?_
      exact⟨_,.inl rfl⟩
    · skip
      refine AX.skip ?_
      refine AX.cC ?_
      refine AX.region ?_
      refine ak.go (f:=0) ai (kI rfl rfl (by omega) (by omega)) ?_
      refine ak.go (f:=0) ai (av rfl) ?_
      refine ak.nil ?_
      exact⟨.inl ⟨i+1,by show i+1≤_∧l.length - (i+1)<l.length - i;omega⟩,rfl,(Re.sq [] ⟨rfl,rfl,rfl,rfl,trivial⟩ trivial (by decide) rfl rfl (by decide))⟩
  · skip
    refine AX.exit ?_
    refine AX.eP ?_
    refine AX.leave (e:=.exit 0) (by simp) ?_
    refine AX.fV ?_
    refine AX.seq ?_
    refine AX.region ?_
    refine ak.go (f:=0) ai (au rfl) ?_
    refine ak.nil ?_
    refine AX.ret ?_
    exact⟨_,.inl rfl⟩
theorem ab3 {m:Int}{ev:aW}(ai:aF (cf m) ev)(x y:Tree)(z:Int)(hI:ev 99 [.t x,.t y] []=some (.ret (.t (.int .i64 z)) [] [])):
  ∃r:Bool,ay (cf m) 81 [.t x,.t y] [] (.ret (.t (.bool r)) [] []):=by
 refine AX.start 9 2 Tryz.func81 rfl (by decide) rfl rfl (by decide) ?_
 refine AX.seq ?_
 refine AX.region ?_
 refine ak.go (f:=0) ai (au rfl) ?_
 refine ak.nil ?_
 refine AX.seq ?_
 refine AX.region ?_
 refine ak.go (f:=0) ai (av rfl) ?_
 refine ak.go (f:=0) ai (av rfl) ?_
 refine ak.go (f:=0) ai (bU (Oa rfl rfl) hI) ?_
 refine ak.go (f:=0) ai (FY rfl rfl) ?_
 refine ak.go (f:=0) ai (au rfl) ?_
 refine ak.nil ?_
 refine AX.ret ?_
 exact⟨_,.inl rfl⟩
theorem ab4 {m:Int}{ev:aW}(ai:aF (cf m) ev)(l:List Tree)(hl:l.length≤4194304)(hf:∀e∈l,∃u,e=.str u)(v:List UInt8):
    ∃r:Int,ay (cf m) 108 [.t (.sl l),.t (.str v)] [] (.ret (.t (.int .i64 r)) [] []):=by
  refine AX.start 19 2 Tryz.func108 rfl (by decide) rfl rfl (by decide) ?_
  refine AX.seq ?_
  refine AX.region ?_
  refine ak.go (f:=0) ai (au rfl) ?_
  refine ak.nil ?_
  refine AX.seq ?_
  refine AX.seq ?_
  refine AX.region ?_
  refine ak.go (f:=0) ai (av rfl) ?_
  refine ak.go (f:=0) ai ((by first|exact gX rfl kJ rfl|exact xJ rfl kJ rfl|exact Ds rfl kJ rfl|exact Dt rfl kJ rfl)) ?_
  refine ak.go (f:=0) ai (av rfl) ?_
  refine ak.nil ?_
  refine AX.block ?_
  refine AX.loop (α:=Nat) (fun i=>⟨bH 19 [(0,.t (.sl l)),(1,.t (.str v)),(7,.t (.int .i64 l.length)),(8,.t (.int .i64 i))],[],0⟩) (fun i=>i≤l.length) (fun i=>l.length - i) 0 (Re.sq [] ⟨rfl,rfl,rfl,rfl,trivial⟩ trivial (by decide) rfl rfl (by decide)) (Nat.zero_le _) (fun i hok=> ?_)
  replace hok:i≤l.length:=hok
  refine AX.seq ?_
  refine AX.region ?_
  refine ak.go (f:=0) ai (ia rfl rfl) ?_
  refine ak.nil ?_
  refine AX.seq ?_
  refine AX.cond rfl (fun h9=> ?_) (fun h9=> ?_)
  · have hlt:i<l.length:=by have:=of_decide_eq_true h9;omega
    obtain⟨e,he⟩:∃e,l[i]?=some e:=⟨l[i],List.getElem?_eq_getElem hlt⟩
    obtain⟨u,rfl⟩:=hf e (List.mem_of_getElem? he)
    refine AX.skip ?_
    refine AX.seq ?_
    refine AX.block ?_
    refine AX.seq ?_
    refine AX.region ?_
    refine ak.go (f:=0) ai (av rfl) ?_
    refine ak.go (f:=0) ai (au rfl) ?_
    refine ak.nil ?_
    refine AX.seq ?_
    refine AX.region ?_
    refine ak.go (f:=0) ai (av rfl) ?_
    refine ak.go (f:=0) ai (av rfl) ?_
    refine ak.go (f:=0) ai (av rfl) ?_
    refine ak.go (f:=0) ai (gL rfl rfl kJ rfl kB he rfl) ?_
    refine ak.go (f:=0) ai ((by first|exact cN rfl (ld kB rfl rfl)|exact aS rfl (ld kB rfl rfl))) ?_
    refine ak.go (f:=0) ai (SP rfl rfl) ?_
    refine ak.nil ?_
    refine AX.cond rfl (fun h16=> ?_) (fun h16=> ?_)
    · skip
      refine AX.seq ?_
      refine AX.region ?_
      refine ak.go (f:=0) ai (av rfl) ?_
      refine ak.go (f:=0) ai (au rfl) ?_
      refine ak.nil ?_
      refine AX.ret ?_
      refine AX.bx ?_
      refine AX.bt ?_
      refine AX.leave (e:=.ret) (by simp) ?_
      refine AX.bx ?_
      refine AX.bt ?_
      exact⟨_,.inl rfl⟩
    · skip
      refine AX.skip ?_
      refine AX.cC ?_
      refine AX.region ?_
      refine ak.go (f:=0) ai (kI rfl rfl (by omega) (by omega)) ?_
      refine ak.go (f:=0) ai (av rfl) ?_
      refine ak.nil ?_
      exact⟨.inl ⟨i+1,by show i+1≤_∧l.length - (i+1)<l.length - i;omega⟩,rfl,(Re.sq [] ⟨rfl,rfl,rfl,rfl,trivial⟩ trivial (by decide) rfl rfl (by decide))⟩
  · skip
    refine AX.exit ?_
    refine AX.eP ?_
    refine AX.leave (e:=.exit 0) (by simp) ?_
    refine AX.fV ?_
    refine AX.seq ?_
    refine AX.region ?_
    refine ak.go (f:=0) ai (au rfl) ?_
    refine ak.nil ?_
    refine AX.ret ?_
    exact⟨_,.inl rfl⟩
theorem ab5 {m:Int}{ev:aW}(ai:aF (cf m) ev)(x y:Tree)(z:Int)(hI:ev 108 [.t x,.t y] []=some (.ret (.t (.int .i64 z)) [] [])):
  ∃r:Bool,ay (cf m) 69 [.t x,.t y] [] (.ret (.t (.bool r)) [] []):=by
 refine AX.start 9 2 Tryz.func69 rfl (by decide) rfl rfl (by decide) ?_
 refine AX.seq ?_
 refine AX.region ?_
 refine ak.go (f:=0) ai (au rfl) ?_
 refine ak.nil ?_
 refine AX.seq ?_
 refine AX.region ?_
 refine ak.go (f:=0) ai (av rfl) ?_
 refine ak.go (f:=0) ai (av rfl) ?_
 refine ak.go (f:=0) ai (bU (Oa rfl rfl) hI) ?_
 refine ak.go (f:=0) ai (FY rfl rfl) ?_
 refine ak.go (f:=0) ai (au rfl) ?_
 refine ak.nil ?_
 refine AX.ret ?_
 exact⟨_,.inl rfl⟩
theorem Yt {s:List UInt8}(h:(s==[])=false):∃b s',s=b::s':=by
 cases s with
 |nil=>simp at h
 |cons b s'=>exact⟨b,s',rfl⟩
theorem Yu {m:Int}{ev:aW}(ai:aF (cf m) ev)(dg:Int→Bool)(cw nb:List UInt8→Bool)(hF:ev 70 [.t (.str S1)] []=some (.ret (.t (.sl (vB.map .str))) [] []))(hD:∀n,ev 139 [.t (.int .u8 n)] []=some (.ret (.t (.bool (dg n))) [] []))
    (hC:∀s,ev 69 [.t (.sl (vB.map .str)),.t (.str s)] []=some (.ret (.t (.bool (cw s))) [] []))(hB:∀s:List UInt8,s.length≤64→ev 140 [.t (.sl (s.map fun b=>.int .u8 b.toNat)),.t (.fn (.func 141))] []=some (.ret (.t (.bool (nb s))) [] []))(s:List UInt8):
    ∃r:Bool,ay (cf m) 107 [.t (.str s)] [] (.ret (.t (.bool r)) [] []):=by
  refine AX.start 26 1 Tryz.func107 rfl (by decide) rfl rfl (by decide) ?_
  refine AX.seq ?_
  refine AX.region ?_
  refine ak.go (f:=0) ai (au rfl) ?_
  refine ak.nil ?_
  refine AX.seq ?_
  refine AX.region ?_
  refine ak.go (f:=0) ai (bU (uQ rfl) hF) ?_
  refine ak.go (f:=0) ai (au rfl) ?_
  refine ak.nil ?_
  refine AX.seq ?_
  refine AX.seq ?_
  refine AX.region ?_
  refine ak.go (f:=0) ai (av rfl) ?_
  refine ak.go (f:=0) ai (SP rfl rfl) ?_
  refine ak.go (f:=0) ai (av rfl) ?_
  refine ak.split 7 rfl (fun rK=> ?_) (fun rK=> ?_)
  · skip
    refine ak.no rfl rfl rfl (aN rK) ?_
    refine ak.no rfl rfl rfl (aN rK) ?_
    refine ak.no rfl rfl rfl (aN rK) ?_
    refine ak.go (f:=0) ai (bz rfl rK rfl rfl) ?_
    refine ak.go (f:=0) ai (av rfl) ?_
    refine ak.no rfl rfl rfl (aN rfl) ?_
    refine ak.no rfl rfl rfl (aN rfl) ?_
    refine ak.no rfl rfl rfl (aN rfl) ?_
    refine ak.go (f:=0) ai (bz rfl rfl rfl rfl) ?_
    refine ak.go (f:=0) ai (av rfl) ?_
    refine ak.no rfl rfl rfl (aN rfl) ?_
    refine ak.no rfl rfl rfl (aN rfl) ?_
    refine ak.no rfl rfl rfl (aN rfl) ?_
    refine ak.go (f:=0) ai (bz rfl rfl rfl rfl) ?_
    refine ak.nil ?_
    refine AX.nu rfl rfl ?_
    refine AX.seq ?_
    refine AX.region ?_
    refine ak.go (f:=0) ai (au rfl) ?_
    refine ak.nil ?_
    refine AX.ret ?_
    refine AX.bt ?_
    exact⟨_,.inl rfl⟩
  · obtain⟨b,s',rfl⟩:=Yt rK
    refine ak.yes (f:=0) ai rfl rfl rfl (cL rK) (av rfl) ?_
    refine ak.yes (f:=0) ai rfl rfl rfl (cL rK) (rW rfl kB rfl) ?_
    refine ak.yes (f:=0) ai rfl rfl rfl (cL rK) (FX rfl rfl) ?_
    refine ak.go (f:=0) ai (dU rfl rK rfl rfl) ?_
    refine ak.go (f:=0) ai (av rfl) ?_
    refine ak.split 12 rfl (fun l5=> ?_) (fun l5=> ?_)
    · skip
      refine ak.no rfl rfl rfl (aN l5) ?_
      refine ak.no rfl rfl rfl (aN l5) ?_
      refine ak.no rfl rfl rfl (aN l5) ?_
      refine ak.go (f:=0) ai (bz rfl l5 rfl rfl) ?_
      refine ak.go (f:=0) ai (av rfl) ?_
      refine ak.no rfl rfl rfl (aN rfl) ?_
      refine ak.no rfl rfl rfl (aN rfl) ?_
      refine ak.no rfl rfl rfl (aN rfl) ?_
      refine ak.go (f:=0) ai (bz rfl rfl rfl rfl) ?_
      refine ak.nil ?_
      refine AX.nu rfl rfl ?_
      refine AX.seq ?_
      refine AX.region ?_
      refine ak.go (f:=0) ai (au rfl) ?_
      refine ak.nil ?_
      refine AX.ret ?_
      refine AX.bt ?_
      exact⟨_,.inl rfl⟩
    · have h64:(b::s').length≤64:=by have:=of_decide_eq_false l5;omega
      refine ak.yes (f:=0) ai rfl rfl rfl (cL l5) (av rfl) ?_
      refine ak.yes (f:=0) ai rfl rfl rfl (cL l5) (iL rfl rfl kB rfl rfl) ?_
      refine ak.yes (f:=0) ai rfl rfl rfl (cL l5) (bU (uQ rfl) (hD _)) ?_
      refine ak.go (f:=0) ai (dU rfl l5 rfl rfl) ?_
      refine ak.go (f:=0) ai (av rfl) ?_
      refine ak.split 17 rfl (fun qC=> ?_) (fun qC=> ?_)
      · skip
        refine ak.no rfl rfl rfl (aN qC) ?_
        refine ak.no rfl rfl rfl (aN qC) ?_
        refine ak.no rfl rfl rfl (aN qC) ?_
        refine ak.go (f:=0) ai (bz rfl qC rfl rfl) ?_
        refine ak.nil ?_
        refine AX.nu rfl rfl ?_
        refine AX.seq ?_
        refine AX.region ?_
        refine ak.go (f:=0) ai (au rfl) ?_
        refine ak.nil ?_
        refine AX.ret ?_
        refine AX.bt ?_
        exact⟨_,.inl rfl⟩
      · skip
        refine ak.yes (f:=0) ai rfl rfl rfl (cL qC) (av rfl) ?_
        refine ak.yes (f:=0) ai rfl rfl rfl (cL qC) (av rfl) ?_
        refine ak.yes (f:=0) ai rfl rfl rfl (cL qC) (bU (Oa rfl rfl) (hC _)) ?_
        refine ak.go (f:=0) ai (dU rfl qC rfl rfl) ?_
        refine ak.nil ?_
        refine AX.cond rfl (fun h21=> ?_) (fun h21=> ?_)
        · skip
          refine AX.seq ?_
          refine AX.region ?_
          refine ak.go (f:=0) ai (au rfl) ?_
          refine ak.nil ?_
          refine AX.ret ?_
          refine AX.bt ?_
          exact⟨_,.inl rfl⟩
        · skip
          refine AX.skip ?_
          refine AX.seq ?_
          refine AX.region ?_
          refine ak.go (f:=0) ai (av rfl) ?_
          refine ak.go (f:=0) ai (X2 rfl rfl kB rfl Gf rfl Ja rfl) ?_
          refine ak.go (f:=0) ai (bU (Oa rfl rfl) (hB _ h64)) ?_
          refine ak.go (f:=0) ai (w6 rfl) ?_
          refine ak.go (f:=0) ai (au rfl) ?_
          refine ak.nil ?_
          refine AX.ret ?_
          exact⟨_,.inl rfl⟩
theorem HO {m:Int}{ev:aW}(ai:aF (cf m) ev)(nm:List UInt8→Bool)(hN:∀s,ev 107 [.t (.str s)] []=some (.ret (.t (.bool (nm s))) [] []))(s:List UInt8):
  ∃r:Bool,ay (cf m) 106 [.t (.str s)] [] (.ret (.t (.bool r)) [] []):=by
 refine AX.start 6 1 Tryz.func106 rfl (by decide) rfl rfl (by decide) ?_
 refine AX.seq ?_
 refine AX.region ?_
 refine ak.go (f:=0) ai (au rfl) ?_
 refine ak.nil ?_
 refine AX.seq ?_
 refine AX.region ?_
 refine ak.go (f:=0) ai (av rfl) ?_
 refine ak.go (f:=0) ai (bU (uQ rfl) (hN _)) ?_
 refine ak.go (f:=0) ai (w6 rfl) ?_
 refine ak.go (f:=0) ai (au rfl) ?_
 refine ak.nil ?_
 refine AX.ret ?_
 exact⟨_,.inl rfl⟩
theorem Km {m:Int}{ev:aW}(ai:aF (cf m) ev)(pc:List UInt8→List (List UInt8))(ct:List UInt8→Bool)(hS:∀s:List UInt8,s.length≤64→ev 105 [.t (.str s),.t (.str [58,58])] []=some (.ret (.t (.sl ((pc s).map .str))) [] []))
    (hC:∀s:List UInt8,s.length≤64→ev 77 [.t (.sl ((pc s).map .str)),.t (.fn (.func 106))] []=some (.ret (.t (.bool (ct s))) [] []))(s:List UInt8):
    ∃r:Bool,ay (cf m) 68 [.t (.str s)] [] (.ret (.t (.bool r)) [] []):=by
  refine AX.start 12 1 Tryz.func68 rfl (by decide) rfl rfl (by decide) ?_
  refine AX.seq ?_
  refine AX.region ?_
  refine ak.go (f:=0) ai (au rfl) ?_
  refine ak.nil ?_
  refine AX.seq ?_
  refine AX.region ?_
  refine ak.go (f:=0) ai (av rfl) ?_
  refine ak.go (f:=0) ai (rW rfl kB rfl) ?_
  refine ak.go (f:=0) ai (JO rfl rfl) ?_
  refine ak.go (f:=0) ai (av rfl) ?_
  refine ak.split 6 rfl (fun gh=> ?_) (fun gh=> ?_)
  · have h64:s.length≤64:=by have:=of_decide_eq_true gh;omega
    refine ak.yes (f:=0) ai rfl rfl rfl (cQ gh) (av rfl) ?_
    refine ak.yes (f:=0) ai rfl rfl rfl (cQ gh) (bU (Oa rfl rfl) (hS _ h64)) ?_
    refine ak.yes (f:=0) ai rfl rfl rfl (cQ gh) (bU (Oa rfl rfl) (hC _ h64)) ?_
    refine ak.yes (f:=0) ai rfl rfl rfl (cQ gh) (w6 rfl) ?_
    refine ak.go (f:=0) ai (bz rfl gh rfl rfl) ?_
    refine ak.go (f:=0) ai (au rfl) ?_
    refine ak.nil ?_
    refine AX.ret ?_
    exact⟨_,.inl rfl⟩
  · skip
    refine ak.no rfl rfl rfl (dh gh) ?_
    refine ak.no rfl rfl rfl (dh gh) ?_
    refine ak.no rfl rfl rfl (dh gh) ?_
    refine ak.no rfl rfl rfl (dh gh) ?_
    refine ak.go (f:=0) ai (dU rfl gh rfl rfl) ?_
    refine ak.go (f:=0) ai (au rfl) ?_
    refine ak.nil ?_
    refine AX.ret ?_
    exact⟨_,.inl rfl⟩
theorem T6 {m:Int}{ev:aW}(ai:aF (cf m) ev)(va:List UInt8→Bool)(hV:∀s,ev 29 [.t (.str s)] []=some (.ret (.t (.bool (va s))) [] []))(s:List UInt8):
  ∃r:Bool,ay (cf m) 83 [.t (.str s)] [] (.ret (.t (.bool r)) [] []):=by
 refine AX.start 14 1 Tryz.func83 rfl (by decide) rfl rfl (by decide) ?_
 refine AX.seq ?_
 refine AX.region ?_
 refine ak.go (f:=0) ai (au rfl) ?_
 refine ak.nil ?_
 refine AX.seq ?_
 refine AX.region ?_
 refine ak.go (f:=0) ai (av rfl) ?_
 refine ak.go (f:=0) ai (ZW rfl rfl) ?_
 refine ak.go (f:=0) ai (av rfl) ?_
 refine ak.split 5 rfl (fun bu=> ?_) (fun bu=> ?_)
 ·
  refine ak.yes (f:=0) ai rfl rfl rfl (cQ bu) (av rfl) ?_
  refine ak.yes (f:=0) ai rfl rfl rfl (cQ bu) (rW rfl kB rfl) ?_
  refine ak.yes (f:=0) ai rfl rfl rfl (cQ bu) (JO rfl rfl) ?_
  refine ak.go (f:=0) ai (bz rfl bu rfl rfl) ?_
  refine ak.go (f:=0) ai (av rfl) ?_
  refine ak.split 10 rfl (fun lD=> ?_) (fun lD=> ?_)
  ·
   refine ak.yes (f:=0) ai rfl rfl rfl (cQ lD) (av rfl) ?_
   refine ak.yes (f:=0) ai rfl rfl rfl (cQ lD) (bU (uQ rfl) (hV _)) ?_
   refine ak.go (f:=0) ai (bz rfl lD rfl rfl) ?_
   refine ak.go (f:=0) ai (au rfl) ?_
   refine ak.nil ?_
   refine AX.ret ?_
   exact⟨_,.inl rfl⟩
  ·
   refine ak.no rfl rfl rfl (dh lD) ?_
   refine ak.no rfl rfl rfl (dh lD) ?_
   refine ak.go (f:=0) ai (dU rfl lD rfl rfl) ?_
   refine ak.go (f:=0) ai (au rfl) ?_
   refine ak.nil ?_
   refine AX.ret ?_
   exact⟨_,.inl rfl⟩
 ·
  refine ak.no rfl rfl rfl (dh bu) ?_
  refine ak.no rfl rfl rfl (dh bu) ?_
  refine ak.no rfl rfl rfl (dh bu) ?_
  refine ak.go (f:=0) ai (dU rfl bu rfl rfl) ?_
  refine ak.go (f:=0) ai (av rfl) ?_
  refine ak.no rfl rfl rfl (dh rfl) ?_
  refine ak.no rfl rfl rfl (dh rfl) ?_
  refine ak.go (f:=0) ai (dU rfl rfl rfl rfl) ?_
  refine ak.go (f:=0) ai (au rfl) ?_
  refine ak.nil ?_
  refine AX.ret ?_
  exact⟨_,.inl rfl⟩
theorem T7 {m:Int}{ev:aW}(ai:aF (cf m) ev)(la:List UInt8→Bool)(hLb:∀s,ev 83 [.t (.str s)] []=some (.ret (.t (.bool (la s))) [] []))(nm s:List UInt8)(k:Int)(o a:List Tree):
  ∃r:Bool,ay (cf m) 82 [.t (.agg [.str nm,.int .u8 k,.str s,.sl o,.sl a])] [] (.ret (.t (.bool r)) [] []):=by
 refine AX.start 7 1 Tryz.func82 rfl (by decide) rfl rfl (by decide) ?_
 refine AX.seq ?_
 refine AX.region ?_
 refine ak.go (f:=0) ai (FW rfl rfl) ?_
 refine ak.go (f:=0) ai (au rfl) ?_
 refine ak.nil ?_
 refine AX.seq ?_
 refine AX.region ?_
 refine ak.go (f:=0) ai (aB rfl T4 rfl) ?_
 refine ak.go (f:=0) ai ((by first|exact cN rfl (ld kB rfl rfl)|exact aS rfl (ld kB rfl rfl))) ?_
 refine ak.go (f:=0) ai (bU (uQ rfl) (hLb _)) ?_
 refine ak.go (f:=0) ai (w6 rfl) ?_
 refine ak.go (f:=0) ai (au rfl) ?_
 refine ak.nil ?_
 refine AX.ret ?_
 exact⟨_,.inl rfl⟩
theorem QX {m:Int}{ev:aW}(ai:aF (cf m) ev)(nm s:List UInt8)(k:Int)(o a:List Tree):
  ∃r:List UInt8,ay (cf m) 80 [.t (.agg [.str nm,.int .u8 k,.str s,.sl o,.sl a])] [] (.ret (.t (.str r)) [] []):=by
 refine AX.start 5 1 Tryz.func80 rfl (by decide) rfl rfl (by decide) ?_
 refine AX.seq ?_
 refine AX.region ?_
 refine ak.go (f:=0) ai (FW rfl rfl) ?_
 refine ak.go (f:=0) ai (au rfl) ?_
 refine ak.nil ?_
 refine AX.seq ?_
 refine AX.region ?_
 refine ak.go (f:=0) ai (aB rfl T4 rfl) ?_
 refine ak.go (f:=0) ai ((by first|exact cN rfl (ld kB rfl rfl)|exact aS rfl (ld kB rfl rfl))) ?_
 refine ak.go (f:=0) ai (au rfl) ?_
 refine ak.nil ?_
 refine AX.ret ?_
 exact⟨_,.inl rfl⟩
theorem QY {m:Int}{ev:aW}(ai:aF (cf m) ev)(l:List Tree)(hl:l.length≤4194304)(hf:∀e∈l,∃nm k s o a,e=.agg [.str nm,.int .u8 k,.str s,.sl o,.sl a])(g:FuncId)(q:Tree→List UInt8)(hq:∀e∈l,ev g [.t e] []=some (.ret (.t (.str (q e))) [] [])):
    ∃r:Bool,ay (cf m) 79 [.t (.sl l),.t (.fn (.func g))] [] (.ret (.t (.bool r)) [] []):=by
  refine AX.start 26 2 Tryz.func79 rfl (by decide) rfl rfl (by decide) ?_
  refine AX.seq ?_
  refine AX.region ?_
  refine ak.go (f:=0) ai (au rfl) ?_
  refine ak.nil ?_
  refine AX.seq ?_
  refine AX.seq ?_
  refine AX.region ?_
  refine ak.go (f:=0) ai (au rfl) ?_
  refine ak.nil ?_
  refine AX.block ?_
  refine AX.loop (α:=Nat) (fun j=>⟨bH 26 [(0,.t (.sl l)),(1,.t (.fn (.func g))),(5,.t (.int .i64 ((j+1:Nat):Int)))],[],0⟩) (fun j=>j≤l.length) (fun j=>l.length - j) 0 (Re.sq [] ⟨rfl,rfl,rfl,trivial⟩ trivial (by decide) rfl rfl (by decide)) (Nat.zero_le _) (fun j hok=> ?_)
  replace hok:j≤l.length:=hok
  refine AX.seq ?_
  refine AX.seq ?_
  refine AX.region ?_
  refine ak.go (f:=0) ai (av rfl) ?_
  refine ak.go (f:=0) ai (av rfl) ?_
  refine ak.go (f:=0) ai ((by first|exact gX rfl iH rfl|exact xJ rfl iH rfl|exact Ds rfl iH rfl|exact Dt rfl iH rfl)) ?_
  refine ak.go (f:=0) ai (ia rfl rfl) ?_
  refine ak.nil ?_
  refine AX.cond rfl (fun h9=> ?_) (fun h9=> ?_)
  · have hlt:j+1<l.length:=by have:=of_decide_eq_true h9;omega
    obtain⟨e0,he0⟩:∃e,l[j]?=some e:=⟨l[j],List.getElem?_eq_getElem (by omega)⟩
    obtain⟨e1,Si⟩:∃e,l[j+1]?=some e:=⟨l[j+1],List.getElem?_eq_getElem hlt⟩
    obtain⟨n0,k0,s0,o0,a0,rfl⟩:=hf e0 (List.mem_of_getElem? he0)
    obtain⟨n1,k1,s1,o1,a1,rfl⟩:=hf e1 (List.mem_of_getElem? Si)
    refine AX.skip ?_
    refine AX.seq ?_
    refine AX.block ?_
    refine AX.seq ?_
    refine AX.draw (f:=0) ah ai ?_
    refine aJ.go rfl (av rfl) ?_
    refine aJ.go rfl (av rfl) ?_
    refine aJ.go rfl (av rfl) ?_
    refine aJ.go rfl (abF rfl rfl (by omega)) ?_
    refine aJ.go rfl (gL rfl rfl iH rfl tN he0 rfl) ?_
    refine aJ.go rfl ((by first|exact cN rfl (ld tN rfl rfl)|exact aS rfl (ld tN rfl rfl))) ?_
    refine aJ.go rfl (zc rfl (uQ rfl) (hq _ (List.mem_of_getElem? he0))) ?_
    refine aJ.go rfl (av rfl) ?_
    refine aJ.go rfl (av rfl) ?_
    refine aJ.go rfl (av rfl) ?_
    refine aJ.go rfl (gL rfl rfl iH rfl tN Si rfl) ?_
    refine aJ.go rfl ((by first|exact cN rfl (ld tN rfl rfl)|exact aS rfl (ld tN rfl rfl))) ?_
    refine aJ.go rfl (zc rfl (uQ rfl) (hq _ (List.mem_of_getElem? Si))) ?_
    refine aJ.go rfl (aeR rfl rfl) ?_
    refine aJ.nil (eE rfl rfl ?_)
    refine AX.cond rfl (fun h25=> ?_) (fun h25=> ?_)
    · skip
      refine AX.seq ?_
      refine AX.region ?_
      refine ak.go (f:=0) ai (au rfl) ?_
      refine ak.nil ?_
      refine AX.ret ?_
      refine AX.bx ?_
      refine AX.bt ?_
      refine AX.leave (e:=.ret) (by simp) ?_
      refine AX.bx ?_
      refine AX.bt ?_
      exact⟨_,.inl rfl⟩
    · skip
      refine AX.skip ?_
      refine AX.cC ?_
      refine AX.region ?_
      refine ak.go (f:=0) ai (av rfl) ?_
      refine ak.go (f:=0) ai (kI rfl rfl (by omega) (by omega)) ?_
      refine ak.go (f:=0) ai (au rfl) ?_
      refine ak.nil ?_
      exact⟨.inl ⟨j+1,by show j+1≤_∧l.length - (j+1)<l.length - j;omega⟩,rfl,(Re.sq [] ⟨rfl,rfl,rfl,trivial⟩ trivial (by decide) rfl rfl (by decide))⟩
  · skip
    refine AX.exit ?_
    refine AX.eP ?_
    refine AX.leave (e:=.exit 0) (by simp) ?_
    refine AX.fV ?_
    refine AX.seq ?_
    refine AX.region ?_
    refine ak.go (f:=0) ai (au rfl) ?_
    refine ak.nil ?_
    refine AX.ret ?_
    exact⟨_,.inl rfl⟩
end
end Go.Proofs.YtijfhoelihclbaaGreatDoor.w
