/- More of it. -/
import Derived.Test.YtijfhoelihclbaaGreatDoorU
import Derived.Test.YtijfhoelihclbaaGreatDoorJ
namespace Go.Proofs.YtijfhoelihclbaaGreatDoor.w
open Go Go.Abs
set_option linter.unusedVariables false
set_option maxRecDepth 100000
set_option maxHeartbeats 1000000
noncomputable section
abbrev aea:TI:={size:=1,bytes:=24,agg:=false,zero:=some (.bl),desc:=.slice 5}
theorem FA {m:Int}:(cf m).P.ty 204=some aea:=by kernel_rfl
theorem Tf {m:Int}:fN (cf m).P 45 0=some 0:=by kernel_rfl
theorem JH {m:Int}{ev:aS}(ai:aF (cf m) ev)(n:Int):∃r:Bool,ay (cf m) 139 [.t (.int .u8 n)] [] (.ret (.t (.bool r)) [] []):=by
 refine AX.start 9 1 Tryz.func139 rfl (by decide) rfl rfl (by decide) ?_
 refine AX.seq ?_
 refine AX.region ?_
 refine au.go (f:=0) ai (aj rfl) ?_
 refine au.nil ?_
 refine AX.seq ?_
 refine AX.region ?_
 refine au.go (f:=0) ai (ak rfl) ?_
 refine au.go (f:=0) ai (Fk rfl rfl) ?_
 refine au.go (f:=0) ai (ak rfl) ?_
 refine au.split 5 rfl (fun bw=> ?_) (fun bw=> ?_)
 ·
  refine au.yes (f:=0) ai rfl rfl rfl (cE bw) (ak rfl) ?_
  refine au.yes (f:=0) ai rfl rfl rfl (cE bw) (I4 rfl rfl) ?_
  refine au.go (f:=0) ai (bq rfl bw rfl rfl) ?_
  refine au.go (f:=0) ai (aj rfl) ?_
  refine au.nil ?_
  refine AX.ret ?_
  exact⟨_,.inl rfl⟩
 ·
  refine au.no rfl rfl rfl (cM bw) ?_
  refine au.no rfl rfl rfl (cM bw) ?_
  refine au.go (f:=0) ai (dI rfl bw rfl rfl) ?_
  refine au.go (f:=0) ai (aj rfl) ?_
  refine au.nil ?_
  refine AX.ret ?_
  exact⟨_,.inl rfl⟩
theorem Qe {m:Int}{ev:aS}(ai:aF (cf m) ev)(n:Int):∃r:Bool,ay (cf m) 142 [.t (.int .u8 n)] [] (.ret (.t (.bool r)) [] []):=by
 refine AX.start 15 1 Tryz.func142 rfl (by decide) rfl rfl (by decide) ?_
 refine AX.seq ?_
 refine AX.region ?_
 refine au.go (f:=0) ai (aj rfl) ?_
 refine au.nil ?_
 refine AX.seq ?_
 refine AX.region ?_
 refine au.go (f:=0) ai (ak rfl) ?_
 refine au.go (f:=0) ai (fu rfl rfl rfl) ?_
 refine au.go (f:=0) ai (Fk rfl rfl) ?_
 refine au.go (f:=0) ai (ak rfl) ?_
 refine au.split 6 rfl (fun fB=> ?_) (fun fB=> ?_)
 ·
  refine au.yes (f:=0) ai rfl rfl rfl (cE fB) (ak rfl) ?_
  refine au.yes (f:=0) ai rfl rfl rfl (cE fB) (fu rfl rfl rfl) ?_
  refine au.yes (f:=0) ai rfl rfl rfl (cE fB) (I4 rfl rfl) ?_
  refine au.go (f:=0) ai (bq rfl fB rfl rfl) ?_
  refine au.go (f:=0) ai (ak rfl) ?_
  refine au.split 11 rfl (fun Mb=> ?_) (fun Mb=> ?_)
  ·
   refine au.no rfl rfl rfl (aM Mb) ?_
   refine au.no rfl rfl rfl (aM Mb) ?_
   refine au.go (f:=0) ai (bq rfl Mb rfl rfl) ?_
   refine au.go (f:=0) ai (aj rfl) ?_
   refine au.nil ?_
   refine AX.ret ?_
   exact⟨_,.inl rfl⟩
  ·
   refine au.yes (f:=0) ai rfl rfl rfl (cz Mb) (ak rfl) ?_
   refine au.yes (f:=0) ai rfl rfl rfl (cz Mb) (fT rfl rfl) ?_
   refine au.go (f:=0) ai (dI rfl Mb rfl rfl) ?_
   refine au.go (f:=0) ai (aj rfl) ?_
   refine au.nil ?_
   refine AX.ret ?_
   exact⟨_,.inl rfl⟩
 ·
  refine au.no rfl rfl rfl (cM fB) ?_
  refine au.no rfl rfl rfl (cM fB) ?_
  refine au.no rfl rfl rfl (cM fB) ?_
  refine au.go (f:=0) ai (dI rfl fB rfl rfl) ?_
  refine au.go (f:=0) ai (ak rfl) ?_
  refine au.yes (f:=0) ai rfl rfl rfl (cz rfl) (ak rfl) ?_
  refine au.yes (f:=0) ai rfl rfl rfl (cz rfl) (fT rfl rfl) ?_
  refine au.go (f:=0) ai (dI rfl rfl rfl rfl) ?_
  refine au.go (f:=0) ai (aj rfl) ?_
  refine au.nil ?_
  refine AX.ret ?_
  exact⟨_,.inl rfl⟩
theorem Tg {m:Int}{ev:aS}(ai:aF (cf m) ev)(lt dg:Int→Bool)(hL:∀n,ev 142 [.t (.int .u8 n)] []=some (.ret (.t (.bool (lt n))) [] []))(hD:∀n,ev 139 [.t (.int .u8 n)] []=some (.ret (.t (.bool (dg n))) [] []))(n:Int):
  ∃r:Bool,ay (cf m) 141 [.t (.int .u8 n)] [] (.ret (.t (.bool r)) [] []):=by
 refine AX.start 11 1 Tryz.func141 rfl (by decide) rfl rfl (by decide) ?_
 refine AX.seq ?_
 refine AX.region ?_
 refine au.go (f:=0) ai (aj rfl) ?_
 refine au.nil ?_
 refine AX.seq ?_
 refine AX.region ?_
 refine au.go (f:=0) ai (ak rfl) ?_
 refine au.go (f:=0) ai (bU (tJ rfl) (hL _)) ?_
 refine au.go (f:=0) ai (vH rfl) ?_
 refine au.go (f:=0) ai (ak rfl) ?_
 refine au.split 6 rfl (fun fB=> ?_) (fun fB=> ?_)
 ·
  refine au.yes (f:=0) ai rfl rfl rfl (cE fB) (ak rfl) ?_
  refine au.yes (f:=0) ai rfl rfl rfl (cE fB) (bU (tJ rfl) (hD _)) ?_
  refine au.yes (f:=0) ai rfl rfl rfl (cE fB) (vH rfl) ?_
  refine au.go (f:=0) ai (bq rfl fB rfl rfl) ?_
  refine au.go (f:=0) ai (aj rfl) ?_
  refine au.nil ?_
  refine AX.ret ?_
  exact⟨_,.inl rfl⟩
 ·
  refine au.no rfl rfl rfl (cM fB) ?_
  refine au.no rfl rfl rfl (cM fB) ?_
  refine au.no rfl rfl rfl (cM fB) ?_
  refine au.go (f:=0) ai (dI rfl fB rfl rfl) ?_
  refine au.go (f:=0) ai (aj rfl) ?_
  refine au.nil ?_
  refine AX.ret ?_
  exact⟨_,.inl rfl⟩
theorem aaW {m:Int}{ev:aS}(ai:aF (cf m) ev)(l:List Tree)(hl:l.length≤4194304)(hf:∀e∈l,∃n,e=.int .u8 n)(g:FuncId)(q:Tree→Bool)(hq:∀e∈l,ev g [.t e] []=some (.ret (.t (.bool (q e))) [] [])):
    ∃r:Int,ay (cf m) 181 [.t (.sl l),.t (.fn (.func g))] [] (.ret (.t (.int .i64 r)) [] []):=by
  refine AX.start 19 2 Tryz.func181 rfl (by decide) rfl rfl (by decide) ?_
  refine AX.seq ?_
  refine AX.region ?_
  refine au.go (f:=0) ai (aj rfl) ?_
  refine au.nil ?_
  refine AX.seq ?_
  refine AX.seq ?_
  refine AX.region ?_
  refine au.go (f:=0) ai (ak rfl) ?_
  refine au.go (f:=0) ai ((by first|exact gh rfl FA rfl|exact wu rfl FA rfl|exact CQ rfl FA rfl|exact CR rfl FA rfl)) ?_
  refine au.go (f:=0) ai (ak rfl) ?_
  refine au.nil ?_
  refine AX.block ?_
  refine AX.loop (α:=Nat) (fun i=>⟨bX 19 [(0,.t (.sl l)),(1,.t (.fn (.func g))),(7,.t (.int .i64 l.length)),(8,.t (.int .i64 i))],[],0⟩) (fun i=>i≤l.length) (fun i=>l.length - i) 0 (Re.sq [] ⟨rfl,rfl,rfl,rfl,trivial⟩ trivial (by decide) rfl rfl (by decide)) (Nat.zero_le _) (fun i hok=> ?_)
  replace hok:i≤l.length:=hok
  refine AX.seq ?_
  refine AX.region ?_
  refine au.go (f:=0) ai (gi rfl rfl) ?_
  refine au.nil ?_
  refine AX.seq ?_
  refine AX.cond rfl (fun h9=> ?_) (fun h9=> ?_)
  · have hlt:i<l.length:=by have:=of_decide_eq_true h9;omega
    obtain⟨e,he⟩:∃e,l[i]?=some e:=⟨l[i],List.getElem?_eq_getElem hlt⟩
    obtain⟨n,rfl⟩:=hf e (List.mem_of_getElem? he)
    refine AX.skip ?_
    refine AX.seq ?_
    refine AX.block ?_
    refine AX.seq ?_
    refine AX.region ?_
    refine au.go (f:=0) ai (ak rfl) ?_
    refine au.go (f:=0) ai (aj rfl) ?_
    refine au.nil ?_
    refine AX.seq ?_
    refine AX.region ?_
    refine au.go (f:=0) ai (ak rfl) ?_
    refine au.go (f:=0) ai (ak rfl) ?_
    refine au.go (f:=0) ai (ak rfl) ?_
    refine au.go (f:=0) ai (fO rfl rfl FA rfl Ip he rfl) ?_
    refine au.go (f:=0) ai ((by first|exact cD rfl (ld Ip rfl rfl)|exact bg rfl (ld Ip rfl rfl))) ?_
    refine au.go (f:=0) ai (yh rfl (tJ rfl) (hq _ (List.mem_of_getElem? he))) ?_
    refine au.nil ?_
    refine AX.cond rfl (fun h16=> ?_) (fun h16=> ?_)
    · skip
      refine AX.seq ?_
      refine AX.region ?_
      refine au.go (f:=0) ai (ak rfl) ?_
      refine au.go (f:=0) ai (aj rfl) ?_
      refine au.nil ?_
      refine AX.ret ?_
      refine AX.bp ?_
      refine AX.bn ?_
      refine AX.leave (e:=.ret) (by simp) ?_
      refine AX.bp ?_
      refine AX.bn ?_
      exact⟨_,.inl rfl⟩
    · skip
      refine AX.skip ?_
      refine AX.b9 ?_
      refine AX.region ?_
      refine au.go (f:=0) ai (jP rfl rfl (by omega) (by omega)) ?_
      refine au.go (f:=0) ai (ak rfl) ?_
      refine au.nil ?_
      exact⟨.inl ⟨i+1,by show i+1≤_∧l.length - (i+1)<l.length - i;omega⟩,rfl,(Re.sq [] ⟨rfl,rfl,rfl,rfl,trivial⟩ trivial (by decide) rfl rfl (by decide))⟩
  · skip
    refine AX.exit ?_
    refine AX.dU ?_
    refine AX.leave (e:=.exit 0) (by simp) ?_
    refine AX.fk ?_
    refine AX.seq ?_
    refine AX.region ?_
    refine au.go (f:=0) ai (aj rfl) ?_
    refine au.nil ?_
    refine AX.ret ?_
    exact⟨_,.inl rfl⟩
theorem aaX {m:Int}{ev:aS}(ai:aF (cf m) ev)(x y:Tree)(z:Int)(hI:ev 181 [.t x,.t y] []=some (.ret (.t (.int .i64 z)) [] [])):
  ∃r:Bool,ay (cf m) 140 [.t x,.t y] [] (.ret (.t (.bool r)) [] []):=by
 refine AX.start 9 2 Tryz.func140 rfl (by decide) rfl rfl (by decide) ?_
 refine AX.seq ?_
 refine AX.region ?_
 refine au.go (f:=0) ai (aj rfl) ?_
 refine au.nil ?_
 refine AX.seq ?_
 refine AX.region ?_
 refine au.go (f:=0) ai (ak rfl) ?_
 refine au.go (f:=0) ai (ak rfl) ?_
 refine au.go (f:=0) ai (bU (Ns rfl rfl) hI) ?_
 refine au.go (f:=0) ai (Fk rfl rfl) ?_
 refine au.go (f:=0) ai (aj rfl) ?_
 refine au.nil ?_
 refine AX.ret ?_
 exact⟨_,.inl rfl⟩
theorem aaY {m:Int}{ev:aS}(ai:aF (cf m) ev)(l:List Tree)(hl:l.length≤4194304)(hf:∀e∈l,∃u,e=.str u)(g:FuncId)(q:Tree→Bool)(hq:∀e∈l,ev g [.t e] []=some (.ret (.t (.bool (q e))) [] [])):
    ∃r:Int,ay (cf m) 112 [.t (.sl l),.t (.fn (.func g))] [] (.ret (.t (.int .i64 r)) [] []):=by
  refine AX.start 19 2 Tryz.func112 rfl (by decide) rfl rfl (by decide) ?_
  refine AX.seq ?_
  refine AX.region ?_
  refine au.go (f:=0) ai (aj rfl) ?_
  refine au.nil ?_
  refine AX.seq ?_
  refine AX.seq ?_
  refine AX.region ?_
  refine au.go (f:=0) ai (ak rfl) ?_
  refine au.go (f:=0) ai ((by first|exact gh rfl sI rfl|exact wu rfl sI rfl|exact CQ rfl sI rfl|exact CR rfl sI rfl)) ?_
  refine au.go (f:=0) ai (ak rfl) ?_
  refine au.nil ?_
  refine AX.block ?_
  refine AX.loop (α:=Nat) (fun i=>⟨bX 19 [(0,.t (.sl l)),(1,.t (.fn (.func g))),(7,.t (.int .i64 l.length)),(8,.t (.int .i64 i))],[],0⟩) (fun i=>i≤l.length) (fun i=>l.length - i) 0 (Re.sq [] ⟨rfl,rfl,rfl,rfl,trivial⟩ trivial (by decide) rfl rfl (by decide)) (Nat.zero_le _) (fun i hok=> ?_)
  replace hok:i≤l.length:=hok
  refine AX.seq ?_
  refine AX.region ?_
  refine au.go (f:=0) ai (gi rfl rfl) ?_
  refine au.nil ?_
  refine AX.seq ?_
  refine AX.cond rfl (fun h9=> ?_) (fun h9=> ?_)
  · have hlt:i<l.length:=by have:=of_decide_eq_true h9;omega
    obtain⟨e,he⟩:∃e,l[i]?=some e:=⟨l[i],List.getElem?_eq_getElem hlt⟩
    obtain⟨u,rfl⟩:=hf e (List.mem_of_getElem? he)
    refine AX.skip ?_
    refine AX.seq ?_
    refine AX.block ?_
    refine AX.seq ?_
    refine AX.region ?_
    refine au.go (f:=0) ai (ak rfl) ?_
    refine au.go (f:=0) ai (aj rfl) ?_
    refine au.nil ?_
    refine AX.seq ?_
    refine AX.region ?_
    refine au.go (f:=0) ai (ak rfl) ?_
    refine au.go (f:=0) ai (ak rfl) ?_
    refine au.go (f:=0) ai (ak rfl) ?_
    refine au.go (f:=0) ai (fO rfl rfl sI rfl j9 he rfl) ?_
    refine au.go (f:=0) ai ((by first|exact cD rfl (ld j9 rfl rfl)|exact bg rfl (ld j9 rfl rfl))) ?_
    refine au.go (f:=0) ai (yh rfl (tJ rfl) (hq _ (List.mem_of_getElem? he))) ?_
    refine au.nil ?_
    refine AX.cond rfl (fun h16=> ?_) (fun h16=> ?_)
    · skip
      refine AX.seq ?_
      refine AX.region ?_
      refine au.go (f:=0) ai (ak rfl) ?_
      refine au.go (f:=0) ai (aj rfl) ?_
      refine au.nil ?_
      refine AX.ret ?_
      refine AX.bp ?_
      refine AX.bn ?_
      refine AX.leave (e:=.ret) (by simp) ?_
      refine AX.bp ?_
      refine AX.bn ?_
      exact⟨_,.inl rfl⟩
    · skip
      refine AX.skip ?_
      refine AX.b9 ?_
      refine AX.region ?_
      refine au.go (f:=0) ai (jP rfl rfl (by omega) (by omega)) ?_
      refine au.go (f:=0) ai (ak rfl) ?_
      refine au.nil ?_
      exact⟨.inl ⟨i+1,by show i+1≤_∧l.length - (i+1)<l.length - i;omega⟩,rfl,(Re.sq [] ⟨rfl,rfl,rfl,rfl,trivial⟩ trivial (by decide) rfl rfl (by decide))⟩
  · skip
    refine AX.exit ?_
    refine AX.dU ?_
    refine AX.leave (e:=.exit 0) (by simp) ?_
    refine AX.fk ?_
    refine AX.seq ?_
    refine AX.region ?_
    refine au.go (f:=0) ai (aj rfl) ?_
    refine au.nil ?_
    refine AX.ret ?_
    exact⟨_,.inl rfl⟩
theorem aaZ {m:Int}{ev:aS}(ai:aF (cf m) ev)(x y:Tree)(z:Int)(hI:ev 112 [.t x,.t y] []=some (.ret (.t (.int .i64 z)) [] [])):
  ∃r:Bool,ay (cf m) 77 [.t x,.t y] [] (.ret (.t (.bool r)) [] []):=by
 refine AX.start 9 2 Tryz.func77 rfl (by decide) rfl rfl (by decide) ?_
 refine AX.seq ?_
 refine AX.region ?_
 refine au.go (f:=0) ai (aj rfl) ?_
 refine au.nil ?_
 refine AX.seq ?_
 refine AX.region ?_
 refine au.go (f:=0) ai (ak rfl) ?_
 refine au.go (f:=0) ai (ak rfl) ?_
 refine au.go (f:=0) ai (bU (Ns rfl rfl) hI) ?_
 refine au.go (f:=0) ai (Fk rfl rfl) ?_
 refine au.go (f:=0) ai (aj rfl) ?_
 refine au.nil ?_
 refine AX.ret ?_
 exact⟨_,.inl rfl⟩
theorem Mc {m:Int}{ev:aS}(ai:aF (cf m) ev)(l:List Tree)(hl:l.length≤4194304)(hf:∀e∈l,∃nm k s o a,e=.agg [.str nm,.int .u8 k,.str s,.sl o,.sl a])(g:FuncId)(q:Tree→Bool)(hq:∀e∈l,ev g [.t e] []=some (.ret (.t (.bool (q e))) [] [])):
    ∃r:Int,ay (cf m) 99 [.t (.sl l),.t (.fn (.func g))] [] (.ret (.t (.int .i64 r)) [] []):=by
  refine AX.start 19 2 Tryz.func99 rfl (by decide) rfl rfl (by decide) ?_
  refine AX.seq ?_
  refine AX.region ?_
  refine au.go (f:=0) ai (aj rfl) ?_
  refine au.nil ?_
  refine AX.seq ?_
  refine AX.seq ?_
  refine AX.region ?_
  refine au.go (f:=0) ai (ak rfl) ?_
  refine au.go (f:=0) ai ((by first|exact gh rfl gK rfl|exact wu rfl gK rfl|exact CQ rfl gK rfl|exact CR rfl gK rfl)) ?_
  refine au.go (f:=0) ai (ak rfl) ?_
  refine au.nil ?_
  refine AX.block ?_
  refine AX.loop (α:=Nat) (fun i=>⟨bX 19 [(0,.t (.sl l)),(1,.t (.fn (.func g))),(7,.t (.int .i64 l.length)),(8,.t (.int .i64 i))],[],0⟩) (fun i=>i≤l.length) (fun i=>l.length - i) 0 (Re.sq [] ⟨rfl,rfl,rfl,rfl,trivial⟩ trivial (by decide) rfl rfl (by decide)) (Nat.zero_le _) (fun i hok=> ?_)
  replace hok:i≤l.length:=hok
  refine AX.seq ?_
  refine AX.region ?_
  refine au.go (f:=0) ai (gi rfl rfl) ?_
  refine au.nil ?_
  refine AX.seq ?_
  refine AX.cond rfl (fun h9=> ?_) (fun h9=> ?_)
  · have hlt:i<l.length:=by have:=of_decide_eq_true h9;omega
    obtain⟨e,he⟩:∃e,l[i]?=some e:=⟨l[i],List.getElem?_eq_getElem hlt⟩
    obtain⟨nm,k,s,o,a,rfl⟩:=hf e (List.mem_of_getElem? he)
    refine AX.skip ?_
    refine AX.seq ?_
    refine AX.block ?_
    refine AX.seq ?_
    refine AX.region ?_
    refine au.go (f:=0) ai (ak rfl) ?_
    refine au.go (f:=0) ai (aj rfl) ?_
    refine au.nil ?_
    refine AX.seq ?_
    refine AX.region ?_
    refine au.go (f:=0) ai (ak rfl) ?_
    refine au.go (f:=0) ai (ak rfl) ?_
    refine au.go (f:=0) ai (ak rfl) ?_
    refine au.go (f:=0) ai (fO rfl rfl gK rfl sJ he rfl) ?_
    refine au.go (f:=0) ai ((by first|exact cD rfl (ld sJ rfl rfl)|exact bg rfl (ld sJ rfl rfl))) ?_
    refine au.go (f:=0) ai (yh rfl (tJ rfl) (hq _ (List.mem_of_getElem? he))) ?_
    refine au.nil ?_
    refine AX.cond rfl (fun h16=> ?_) (fun h16=> ?_)
    · skip
      refine AX.seq ?_
      refine AX.region ?_
      refine au.go (f:=0) ai (ak rfl) ?_
      refine au.go (f:=0) ai (aj rfl) ?_
      refine au.nil ?_
      refine AX.ret ?_
      refine AX.bp ?_
      refine AX.bn ?_
      refine AX.leave (e:=.ret) (by simp) ?_
      refine AX.bp ?_
      refine AX.bn ?_
      exact⟨_,.inl rfl⟩
    · skip
      refine AX.skip ?_
      refine AX.b9 ?_
      refine AX.region ?_
      refine au.go (f:=0) ai (jP rfl rfl (by omega) (by omega)) ?_
      refine au.go (f:=0) ai (ak rfl) ?_
      refine au.nil ?_
      exact⟨.inl ⟨i+1,by show i+1≤_∧l.length - (i+1)<l.length - i;omega⟩,rfl,(Re.sq [] ⟨rfl,rfl,rfl,rfl,trivial⟩ trivial (by decide) rfl rfl (by decide))⟩
  · skip
    refine AX.exit ?_
    refine AX.dU ?_
    refine AX.leave (e:=.exit 0) (by simp) ?_
    refine AX.fk ?_
    refine AX.seq ?_
    refine AX.region ?_
    refine au.go (f:=0) ai (aj rfl) ?_
    refine au.nil ?_
    refine AX.ret ?_
    exact⟨_,.inl rfl⟩
theorem aa0 {m:Int}{ev:aS}(ai:aF (cf m) ev)(x y:Tree)(z:Int)(hI:ev 99 [.t x,.t y] []=some (.ret (.t (.int .i64 z)) [] [])):
  ∃r:Bool,ay (cf m) 81 [.t x,.t y] [] (.ret (.t (.bool r)) [] []):=by
 refine AX.start 9 2 Tryz.func81 rfl (by decide) rfl rfl (by decide) ?_
 refine AX.seq ?_
 refine AX.region ?_
 refine au.go (f:=0) ai (aj rfl) ?_
 refine au.nil ?_
 refine AX.seq ?_
 refine AX.region ?_
 refine au.go (f:=0) ai (ak rfl) ?_
 refine au.go (f:=0) ai (ak rfl) ?_
 refine au.go (f:=0) ai (bU (Ns rfl rfl) hI) ?_
 refine au.go (f:=0) ai (Fk rfl rfl) ?_
 refine au.go (f:=0) ai (aj rfl) ?_
 refine au.nil ?_
 refine AX.ret ?_
 exact⟨_,.inl rfl⟩
theorem aa1 {m:Int}{ev:aS}(ai:aF (cf m) ev)(l:List Tree)(hl:l.length≤4194304)(hf:∀e∈l,∃u,e=.str u)(v:List UInt8):
    ∃r:Int,ay (cf m) 108 [.t (.sl l),.t (.str v)] [] (.ret (.t (.int .i64 r)) [] []):=by
  refine AX.start 19 2 Tryz.func108 rfl (by decide) rfl rfl (by decide) ?_
  refine AX.seq ?_
  refine AX.region ?_
  refine au.go (f:=0) ai (aj rfl) ?_
  refine au.nil ?_
  refine AX.seq ?_
  refine AX.seq ?_
  refine AX.region ?_
  refine au.go (f:=0) ai (ak rfl) ?_
  refine au.go (f:=0) ai ((by first|exact gh rfl sI rfl|exact wu rfl sI rfl|exact CQ rfl sI rfl|exact CR rfl sI rfl)) ?_
  refine au.go (f:=0) ai (ak rfl) ?_
  refine au.nil ?_
  refine AX.block ?_
  refine AX.loop (α:=Nat) (fun i=>⟨bX 19 [(0,.t (.sl l)),(1,.t (.str v)),(7,.t (.int .i64 l.length)),(8,.t (.int .i64 i))],[],0⟩) (fun i=>i≤l.length) (fun i=>l.length - i) 0 (Re.sq [] ⟨rfl,rfl,rfl,rfl,trivial⟩ trivial (by decide) rfl rfl (by decide)) (Nat.zero_le _) (fun i hok=> ?_)
  replace hok:i≤l.length:=hok
  refine AX.seq ?_
  refine AX.region ?_
  refine au.go (f:=0) ai (gi rfl rfl) ?_
  refine au.nil ?_
  refine AX.seq ?_
  refine AX.cond rfl (fun h9=> ?_) (fun h9=> ?_)
  · have hlt:i<l.length:=by have:=of_decide_eq_true h9;omega
    obtain⟨e,he⟩:∃e,l[i]?=some e:=⟨l[i],List.getElem?_eq_getElem hlt⟩
    obtain⟨u,rfl⟩:=hf e (List.mem_of_getElem? he)
    refine AX.skip ?_
    refine AX.seq ?_
    refine AX.block ?_
    refine AX.seq ?_
    refine AX.region ?_
    refine au.go (f:=0) ai (ak rfl) ?_
    refine au.go (f:=0) ai (aj rfl) ?_
    refine au.nil ?_
    refine AX.seq ?_
    refine AX.region ?_
    refine au.go (f:=0) ai (ak rfl) ?_
    refine au.go (f:=0) ai (ak rfl) ?_
    refine au.go (f:=0) ai (ak rfl) ?_
    refine au.go (f:=0) ai (fO rfl rfl sI rfl j9 he rfl) ?_
    refine au.go (f:=0) ai ((by first|exact cD rfl (ld j9 rfl rfl)|exact bg rfl (ld j9 rfl rfl))) ?_
    refine au.go (f:=0) ai (R4 rfl rfl) ?_
    refine au.nil ?_
    refine AX.cond rfl (fun h16=> ?_) (fun h16=> ?_)
    · skip
      refine AX.seq ?_
      refine AX.region ?_
      refine au.go (f:=0) ai (ak rfl) ?_
      refine au.go (f:=0) ai (aj rfl) ?_
      refine au.nil ?_
      refine AX.ret ?_
      refine AX.bp ?_
      refine AX.bn ?_
      refine AX.leave (e:=.ret) (by simp) ?_
      refine AX.bp ?_
      refine AX.bn ?_
      exact⟨_,.inl rfl⟩
    · skip
      refine AX.skip ?_
      refine AX.b9 ?_
      refine AX.region ?_
      refine au.go (f:=0) ai (jP rfl rfl (by omega) (by omega)) ?_
      refine au.go (f:=0) ai (ak rfl) ?_
      refine au.nil ?_
      exact⟨.inl ⟨i+1,by show i+1≤_∧l.length - (i+1)<l.length - i;omega⟩,rfl,(Re.sq [] ⟨rfl,rfl,rfl,rfl,trivial⟩ trivial (by decide) rfl rfl (by decide))⟩
  · skip
    refine AX.exit ?_
    refine AX.dU ?_
    refine AX.leave (e:=.exit 0) (by simp) ?_
    refine AX.fk ?_
    refine AX.seq ?_
    refine AX.region ?_
    refine au.go (f:=0) ai (aj rfl) ?_
    refine au.nil ?_
    refine AX.ret ?_
    exact⟨_,.inl rfl⟩
theorem aa2 {m:Int}{ev:aS}(ai:aF (cf m) ev)(x y:Tree)(z:Int)(hI:ev 108 [.t x,.t y] []=some (.ret (.t (.int .i64 z)) [] [])):
  ∃r:Bool,ay (cf m) 69 [.t x,.t y] [] (.ret (.t (.bool r)) [] []):=by
 refine AX.start 9 2 Tryz.func69 rfl (by decide) rfl rfl (by decide) ?_
 refine AX.seq ?_
 refine AX.region ?_
 refine au.go (f:=0) ai (aj rfl) ?_
 refine au.nil ?_
 refine AX.seq ?_
 refine AX.region ?_
 refine au.go (f:=0) ai (ak rfl) ?_
 refine au.go (f:=0) ai (ak rfl) ?_
 refine au.go (f:=0) ai (bU (Ns rfl rfl) hI) ?_
 refine au.go (f:=0) ai (Fk rfl rfl) ?_
 refine au.go (f:=0) ai (aj rfl) ?_
 refine au.nil ?_
 refine AX.ret ?_
 exact⟨_,.inl rfl⟩
theorem Xw {s:List UInt8}(h:(s==[])=false):∃b s',s=b::s':=by
 cases s with
 |nil=>simp at h
 |cons b s'=>exact⟨b,s',rfl⟩
theorem Xx {m:Int}{ev:aS}(ai:aF (cf m) ev)(dg:Int→Bool)(cw nb:List UInt8→Bool)(hF:ev 70 [.t (.str Se)] []=some (.ret (.t (.sl (ur.map .str))) [] []))(hD:∀n,ev 139 [.t (.int .u8 n)] []=some (.ret (.t (.bool (dg n))) [] []))
    (hC:∀s,ev 69 [.t (.sl (ur.map .str)),.t (.str s)] []=some (.ret (.t (.bool (cw s))) [] []))(hB:∀s:List UInt8,s.length≤64→ev 140 [.t (.sl (s.map fun b=>.int .u8 b.toNat)),.t (.fn (.func 141))] []=some (.ret (.t (.bool (nb s))) [] []))(s:List UInt8):
    ∃r:Bool,ay (cf m) 107 [.t (.str s)] [] (.ret (.t (.bool r)) [] []):=by
  refine AX.start 26 1 Tryz.func107 rfl (by decide) rfl rfl (by decide) ?_
  refine AX.seq ?_
  refine AX.region ?_
  refine au.go (f:=0) ai (aj rfl) ?_
  refine au.nil ?_
  refine AX.seq ?_
  refine AX.region ?_
  refine au.go (f:=0) ai (bU (tJ rfl) hF) ?_
  refine au.go (f:=0) ai (aj rfl) ?_
  refine au.nil ?_
  refine AX.seq ?_
  refine AX.seq ?_
  refine AX.region ?_
  refine au.go (f:=0) ai (ak rfl) ?_
  refine au.go (f:=0) ai (R4 rfl rfl) ?_
  refine au.go (f:=0) ai (ak rfl) ?_
  refine au.split 7 rfl (fun A5=> ?_) (fun A5=> ?_)
  · skip
    refine au.no rfl rfl rfl (aM A5) ?_
    refine au.no rfl rfl rfl (aM A5) ?_
    refine au.no rfl rfl rfl (aM A5) ?_
    refine au.go (f:=0) ai (bq rfl A5 rfl rfl) ?_
    refine au.go (f:=0) ai (ak rfl) ?_
    refine au.no rfl rfl rfl (aM rfl) ?_
    refine au.no rfl rfl rfl (aM rfl) ?_
    refine au.no rfl rfl rfl (aM rfl) ?_
    refine au.go (f:=0) ai (bq rfl rfl rfl rfl) ?_
    refine au.go (f:=0) ai (ak rfl) ?_
    refine au.no rfl rfl rfl (aM rfl) ?_
    refine au.no rfl rfl rfl (aM rfl) ?_
    refine au.no rfl rfl rfl (aM rfl) ?_
    refine au.go (f:=0) ai (bq rfl rfl rfl rfl) ?_
    refine au.nil ?_
    refine AX.l9 rfl rfl ?_
    refine AX.seq ?_
    refine AX.region ?_
    refine au.go (f:=0) ai (aj rfl) ?_
    refine au.nil ?_
    refine AX.ret ?_
    refine AX.bn ?_
    exact⟨_,.inl rfl⟩
  · obtain⟨b,s',rfl⟩:=Xw A5
    refine au.yes (f:=0) ai rfl rfl rfl (cz A5) (ak rfl) ?_
    refine au.yes (f:=0) ai rfl rfl rfl (cz A5) (qE rfl j9 rfl) ?_
    refine au.yes (f:=0) ai rfl rfl rfl (cz A5) (Fj rfl rfl) ?_
    refine au.go (f:=0) ai (dI rfl A5 rfl rfl) ?_
    refine au.go (f:=0) ai (ak rfl) ?_
    refine au.split 12 rfl (fun kZ=> ?_) (fun kZ=> ?_)
    · skip
      refine au.no rfl rfl rfl (aM kZ) ?_
      refine au.no rfl rfl rfl (aM kZ) ?_
      refine au.no rfl rfl rfl (aM kZ) ?_
      refine au.go (f:=0) ai (bq rfl kZ rfl rfl) ?_
      refine au.go (f:=0) ai (ak rfl) ?_
      refine au.no rfl rfl rfl (aM rfl) ?_
      refine au.no rfl rfl rfl (aM rfl) ?_
      refine au.no rfl rfl rfl (aM rfl) ?_
      refine au.go (f:=0) ai (bq rfl rfl rfl rfl) ?_
      refine au.nil ?_
      refine AX.l9 rfl rfl ?_
      refine AX.seq ?_
      refine AX.region ?_
      refine au.go (f:=0) ai (aj rfl) ?_
      refine au.nil ?_
      refine AX.ret ?_
      refine AX.bn ?_
      exact⟨_,.inl rfl⟩
    · have h64:(b::s').length≤64:=by have:=of_decide_eq_false kZ;omega
      refine au.yes (f:=0) ai rfl rfl rfl (cz kZ) (ak rfl) ?_
      refine au.yes (f:=0) ai rfl rfl rfl (cz kZ) (gP rfl rfl j9 rfl rfl) ?_
      refine au.yes (f:=0) ai rfl rfl rfl (cz kZ) (bU (tJ rfl) (hD _)) ?_
      refine au.go (f:=0) ai (dI rfl kZ rfl rfl) ?_
      refine au.go (f:=0) ai (ak rfl) ?_
      refine au.split 17 rfl (fun pJ=> ?_) (fun pJ=> ?_)
      · skip
        refine au.no rfl rfl rfl (aM pJ) ?_
        refine au.no rfl rfl rfl (aM pJ) ?_
        refine au.no rfl rfl rfl (aM pJ) ?_
        refine au.go (f:=0) ai (bq rfl pJ rfl rfl) ?_
        refine au.nil ?_
        refine AX.l9 rfl rfl ?_
        refine AX.seq ?_
        refine AX.region ?_
        refine au.go (f:=0) ai (aj rfl) ?_
        refine au.nil ?_
        refine AX.ret ?_
        refine AX.bn ?_
        exact⟨_,.inl rfl⟩
      · skip
        refine au.yes (f:=0) ai rfl rfl rfl (cz pJ) (ak rfl) ?_
        refine au.yes (f:=0) ai rfl rfl rfl (cz pJ) (ak rfl) ?_
        refine au.yes (f:=0) ai rfl rfl rfl (cz pJ) (bU (Ns rfl rfl) (hC _)) ?_
        refine au.go (f:=0) ai (dI rfl pJ rfl rfl) ?_
        refine au.nil ?_
        refine AX.cond rfl (fun h21=> ?_) (fun h21=> ?_)
        · skip
          refine AX.seq ?_
          refine AX.region ?_
          refine au.go (f:=0) ai (aj rfl) ?_
          refine au.nil ?_
          refine AX.ret ?_
          refine AX.bn ?_
          exact⟨_,.inl rfl⟩
        · skip
          refine AX.skip ?_
          refine AX.seq ?_
          refine AX.region ?_
          refine au.go (f:=0) ai (ak rfl) ?_
          refine au.go (f:=0) ai (W6 rfl rfl j9 rfl FA rfl Ip rfl) ?_
          refine au.go (f:=0) ai (bU (Ns rfl rfl) (hB _ h64)) ?_
          refine au.go (f:=0) ai (vH rfl) ?_
          refine au.go (f:=0) ai (aj rfl) ?_
          refine au.nil ?_
          refine AX.ret ?_
          exact⟨_,.inl rfl⟩
theorem G4 {m:Int}{ev:aS}(ai:aF (cf m) ev)(nm:List UInt8→Bool)(hN:∀s,ev 107 [.t (.str s)] []=some (.ret (.t (.bool (nm s))) [] []))(s:List UInt8):
  ∃r:Bool,ay (cf m) 106 [.t (.str s)] [] (.ret (.t (.bool r)) [] []):=by
 refine AX.start 6 1 Tryz.func106 rfl (by decide) rfl rfl (by decide) ?_
 refine AX.seq ?_
 refine AX.region ?_
 refine au.go (f:=0) ai (aj rfl) ?_
 refine au.nil ?_
 refine AX.seq ?_
 refine AX.region ?_
 refine au.go (f:=0) ai (ak rfl) ?_
 refine au.go (f:=0) ai (bU (tJ rfl) (hN _)) ?_
 refine au.go (f:=0) ai (vH rfl) ?_
 refine au.go (f:=0) ai (aj rfl) ?_
 refine au.nil ?_
 refine AX.ret ?_
 exact⟨_,.inl rfl⟩
theorem JI {m:Int}{ev:aS}(ai:aF (cf m) ev)(pc:List UInt8→List (List UInt8))(ct:List UInt8→Bool)(hS:∀s:List UInt8,s.length≤64→ev 105 [.t (.str s),.t (.str [58,58])] []=some (.ret (.t (.sl ((pc s).map .str))) [] []))
    (hC:∀s:List UInt8,s.length≤64→ev 77 [.t (.sl ((pc s).map .str)),.t (.fn (.func 106))] []=some (.ret (.t (.bool (ct s))) [] []))(s:List UInt8):
    ∃r:Bool,ay (cf m) 68 [.t (.str s)] [] (.ret (.t (.bool r)) [] []):=by
  refine AX.start 12 1 Tryz.func68 rfl (by decide) rfl rfl (by decide) ?_
  refine AX.seq ?_
  refine AX.region ?_
  refine au.go (f:=0) ai (aj rfl) ?_
  refine au.nil ?_
  refine AX.seq ?_
  refine AX.region ?_
  refine au.go (f:=0) ai (ak rfl) ?_
  refine au.go (f:=0) ai (qE rfl j9 rfl) ?_
  refine au.go (f:=0) ai (I4 rfl rfl) ?_
  refine au.go (f:=0) ai (ak rfl) ?_
  refine au.split 6 rfl (fun fB=> ?_) (fun fB=> ?_)
  · have h64:s.length≤64:=by have:=of_decide_eq_true fB;omega
    refine au.yes (f:=0) ai rfl rfl rfl (cE fB) (ak rfl) ?_
    refine au.yes (f:=0) ai rfl rfl rfl (cE fB) (bU (Ns rfl rfl) (hS _ h64)) ?_
    refine au.yes (f:=0) ai rfl rfl rfl (cE fB) (bU (Ns rfl rfl) (hC _ h64)) ?_
    refine au.yes (f:=0) ai rfl rfl rfl (cE fB) (vH rfl) ?_
    refine au.go (f:=0) ai (bq rfl fB rfl rfl) ?_
    refine au.go (f:=0) ai (aj rfl) ?_
    refine au.nil ?_
    refine AX.ret ?_
    exact⟨_,.inl rfl⟩
  · skip
    refine au.no rfl rfl rfl (cM fB) ?_
    refine au.no rfl rfl rfl (cM fB) ?_
    refine au.no rfl rfl rfl (cM fB) ?_
    refine au.no rfl rfl rfl (cM fB) ?_
    refine au.go (f:=0) ai (dI rfl fB rfl rfl) ?_
    refine au.go (f:=0) ai (aj rfl) ?_
    refine au.nil ?_
    refine AX.ret ?_
    exact⟨_,.inl rfl⟩
theorem Ti {m:Int}{ev:aS}(ai:aF (cf m) ev)(va:List UInt8→Bool)(hV:∀s,ev 29 [.t (.str s)] []=some (.ret (.t (.bool (va s))) [] []))(s:List UInt8):
  ∃r:Bool,ay (cf m) 83 [.t (.str s)] [] (.ret (.t (.bool r)) [] []):=by
 refine AX.start 14 1 Tryz.func83 rfl (by decide) rfl rfl (by decide) ?_
 refine AX.seq ?_
 refine AX.region ?_
 refine au.go (f:=0) ai (aj rfl) ?_
 refine au.nil ?_
 refine AX.seq ?_
 refine AX.region ?_
 refine au.go (f:=0) ai (ak rfl) ?_
 refine au.go (f:=0) ai (YN rfl rfl) ?_
 refine au.go (f:=0) ai (ak rfl) ?_
 refine au.split 5 rfl (fun bw=> ?_) (fun bw=> ?_)
 ·
  refine au.yes (f:=0) ai rfl rfl rfl (cE bw) (ak rfl) ?_
  refine au.yes (f:=0) ai rfl rfl rfl (cE bw) (qE rfl j9 rfl) ?_
  refine au.yes (f:=0) ai rfl rfl rfl (cE bw) (I4 rfl rfl) ?_
  refine au.go (f:=0) ai (bq rfl bw rfl rfl) ?_
  refine au.go (f:=0) ai (ak rfl) ?_
  refine au.split 10 rfl (fun kG=> ?_) (fun kG=> ?_)
  ·
   refine au.yes (f:=0) ai rfl rfl rfl (cE kG) (ak rfl) ?_
   refine au.yes (f:=0) ai rfl rfl rfl (cE kG) (bU (tJ rfl) (hV _)) ?_
   refine au.go (f:=0) ai (bq rfl kG rfl rfl) ?_
   refine au.go (f:=0) ai (aj rfl) ?_
   refine au.nil ?_
   refine AX.ret ?_
   exact⟨_,.inl rfl⟩
  ·
   refine au.no rfl rfl rfl (cM kG) ?_
   refine au.no rfl rfl rfl (cM kG) ?_
   refine au.go (f:=0) ai (dI rfl kG rfl rfl) ?_
   refine au.go (f:=0) ai (aj rfl) ?_
   refine au.nil ?_
   refine AX.ret ?_
   exact⟨_,.inl rfl⟩
 ·
  refine au.no rfl rfl rfl (cM bw) ?_
  refine au.no rfl rfl rfl (cM bw) ?_
  refine au.no rfl rfl rfl (cM bw) ?_
  refine au.go (f:=0) ai (dI rfl bw rfl rfl) ?_
  refine au.go (f:=0) ai (ak rfl) ?_
  refine au.no rfl rfl rfl (cM rfl) ?_
  refine au.no rfl rfl rfl (cM rfl) ?_
  refine au.go (f:=0) ai (dI rfl rfl rfl rfl) ?_
  refine au.go (f:=0) ai (aj rfl) ?_
  refine au.nil ?_
  refine AX.ret ?_
  exact⟨_,.inl rfl⟩
theorem Tj {m:Int}{ev:aS}(ai:aF (cf m) ev)(la:List UInt8→Bool)(hLb:∀s,ev 83 [.t (.str s)] []=some (.ret (.t (.bool (la s))) [] []))(nm s:List UInt8)(k:Int)(o a:List Tree):
  ∃r:Bool,ay (cf m) 82 [.t (.agg [.str nm,.int .u8 k,.str s,.sl o,.sl a])] [] (.ret (.t (.bool r)) [] []):=by
 refine AX.start 7 1 Tryz.func82 rfl (by decide) rfl rfl (by decide) ?_
 refine AX.seq ?_
 refine AX.region ?_
 refine au.go (f:=0) ai (Fi rfl rfl) ?_
 refine au.go (f:=0) ai (aj rfl) ?_
 refine au.nil ?_
 refine AX.seq ?_
 refine AX.region ?_
 refine au.go (f:=0) ai (aD rfl Tf rfl) ?_
 refine au.go (f:=0) ai ((by first|exact cD rfl (ld j9 rfl rfl)|exact bg rfl (ld j9 rfl rfl))) ?_
 refine au.go (f:=0) ai (bU (tJ rfl) (hLb _)) ?_
 refine au.go (f:=0) ai (vH rfl) ?_
 refine au.go (f:=0) ai (aj rfl) ?_
 refine au.nil ?_
 refine AX.ret ?_
 exact⟨_,.inl rfl⟩
theorem Qf {m:Int}{ev:aS}(ai:aF (cf m) ev)(nm s:List UInt8)(k:Int)(o a:List Tree):
  ∃r:List UInt8,ay (cf m) 80 [.t (.agg [.str nm,.int .u8 k,.str s,.sl o,.sl a])] [] (.ret (.t (.str r)) [] []):=by
 refine AX.start 5 1 Tryz.func80 rfl (by decide) rfl rfl (by decide) ?_
 refine AX.seq ?_
 refine AX.region ?_
 refine au.go (f:=0) ai (Fi rfl rfl) ?_
 refine au.go (f:=0) ai (aj rfl) ?_
 refine au.nil ?_
 refine AX.seq ?_
 refine AX.region ?_
 refine au.go (f:=0) ai (aD rfl Tf rfl) ?_
 refine au.go (f:=0) ai ((by first|exact cD rfl (ld j9 rfl rfl)|exact bg rfl (ld j9 rfl rfl))) ?_
 refine au.go (f:=0) ai (aj rfl) ?_
 refine au.nil ?_
 refine AX.ret ?_
 exact⟨_,.inl rfl⟩
theorem Qg {m:Int}{ev:aS}(ai:aF (cf m) ev)(l:List Tree)(hl:l.length≤4194304)(hf:∀e∈l,∃nm k s o a,e=.agg [.str nm,.int .u8 k,.str s,.sl o,.sl a])(g:FuncId)(q:Tree→List UInt8)(hq:∀e∈l,ev g [.t e] []=some (.ret (.t (.str (q e))) [] [])):
    ∃r:Bool,ay (cf m) 79 [.t (.sl l),.t (.fn (.func g))] [] (.ret (.t (.bool r)) [] []):=by
  refine AX.start 26 2 Tryz.func79 rfl (by decide) rfl rfl (by decide) ?_
  refine AX.seq ?_
  refine AX.region ?_
  refine au.go (f:=0) ai (aj rfl) ?_
  refine au.nil ?_
  refine AX.seq ?_
  refine AX.seq ?_
  refine AX.region ?_
  refine au.go (f:=0) ai (aj rfl) ?_
  refine au.nil ?_
  refine AX.block ?_
  refine AX.loop (α:=Nat) (fun j=>⟨bX 26 [(0,.t (.sl l)),(1,.t (.fn (.func g))),(5,.t (.int .i64 ((j+1:Nat):Int)))],[],0⟩) (fun j=>j≤l.length) (fun j=>l.length - j) 0 (Re.sq [] ⟨rfl,rfl,rfl,trivial⟩ trivial (by decide) rfl rfl (by decide)) (Nat.zero_le _) (fun j hok=> ?_)
  replace hok:j≤l.length:=hok
  refine AX.seq ?_
  refine AX.seq ?_
  refine AX.region ?_
  refine au.go (f:=0) ai (ak rfl) ?_
  refine au.go (f:=0) ai (ak rfl) ?_
  refine au.go (f:=0) ai ((by first|exact gh rfl gK rfl|exact wu rfl gK rfl|exact CQ rfl gK rfl|exact CR rfl gK rfl)) ?_
  refine au.go (f:=0) ai (gi rfl rfl) ?_
  refine au.nil ?_
  refine AX.cond rfl (fun h9=> ?_) (fun h9=> ?_)
  · have hlt:j+1<l.length:=by have:=of_decide_eq_true h9;omega
    obtain⟨e0,he0⟩:∃e,l[j]?=some e:=⟨l[j],List.getElem?_eq_getElem (by omega)⟩
    obtain⟨e1,Rx⟩:∃e,l[j+1]?=some e:=⟨l[j+1],List.getElem?_eq_getElem hlt⟩
    obtain⟨n0,k0,s0,o0,a0,rfl⟩:=hf e0 (List.mem_of_getElem? he0)
    obtain⟨n1,k1,s1,o1,a1,rfl⟩:=hf e1 (List.mem_of_getElem? Rx)
    refine AX.skip ?_
    refine AX.seq ?_
    refine AX.block ?_
    refine AX.seq ?_
    refine AX.draw (f:=0) ah ai ?_
    refine aJ.go rfl (ak rfl) ?_
    refine aJ.go rfl (ak rfl) ?_
    refine aJ.go rfl (ak rfl) ?_
    refine aJ.go rfl (aaB rfl rfl (by omega)) ?_
    refine aJ.go rfl (fO rfl rfl gK rfl sJ he0 rfl) ?_
    refine aJ.go rfl ((by first|exact cD rfl (ld sJ rfl rfl)|exact bg rfl (ld sJ rfl rfl))) ?_
    refine aJ.go rfl (yh rfl (tJ rfl) (hq _ (List.mem_of_getElem? he0))) ?_
    refine aJ.go rfl (ak rfl) ?_
    refine aJ.go rfl (ak rfl) ?_
    refine aJ.go rfl (ak rfl) ?_
    refine aJ.go rfl (fO rfl rfl gK rfl sJ Rx rfl) ?_
    refine aJ.go rfl ((by first|exact cD rfl (ld sJ rfl rfl)|exact bg rfl (ld sJ rfl rfl))) ?_
    refine aJ.go rfl (yh rfl (tJ rfl) (hq _ (List.mem_of_getElem? Rx))) ?_
    refine aJ.go rfl (adJ rfl rfl) ?_
    refine aJ.nil (dP rfl rfl ?_)
    refine AX.cond rfl (fun h25=> ?_) (fun h25=> ?_)
    · skip
      refine AX.seq ?_
      refine AX.region ?_
      refine au.go (f:=0) ai (aj rfl) ?_
      refine au.nil ?_
      refine AX.ret ?_
      refine AX.bp ?_
      refine AX.bn ?_
      refine AX.leave (e:=.ret) (by simp) ?_
      refine AX.bp ?_
      refine AX.bn ?_
      exact⟨_,.inl rfl⟩
    · skip
      refine AX.skip ?_
      refine AX.b9 ?_
      refine AX.region ?_
      refine au.go (f:=0) ai (ak rfl) ?_
      refine au.go (f:=0) ai (jP rfl rfl (by omega) (by omega)) ?_
      refine au.go (f:=0) ai (aj rfl) ?_
      refine au.nil ?_
      exact⟨.inl ⟨j+1,by show j+1≤_∧l.length - (j+1)<l.length - j;omega⟩,rfl,(Re.sq [] ⟨rfl,rfl,rfl,trivial⟩ trivial (by decide) rfl rfl (by decide))⟩
  · skip
    refine AX.exit ?_
    refine AX.dU ?_
    refine AX.leave (e:=.exit 0) (by simp) ?_
    refine AX.fk ?_
    refine AX.seq ?_
    refine AX.region ?_
    refine au.go (f:=0) ai (aj rfl) ?_
    refine au.nil ?_
    refine AX.ret ?_
    exact⟨_,.inl rfl⟩
end
end Go.Proofs.YtijfhoelihclbaaGreatDoor.w
