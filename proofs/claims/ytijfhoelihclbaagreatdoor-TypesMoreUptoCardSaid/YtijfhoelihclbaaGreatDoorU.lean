/- More of it. -/
import Derived.Test.YtijfhoelihclbaaGreatDoorN
namespace Go.Proofs.YtijfhoelihclbaaGreatDoor.w
open Go Go.Abs
set_option linter.unusedVariables false
set_option maxRecDepth 100000
set_option maxHeartbeats 1000000
noncomputable section
abbrev ti5:TI:={size:=1,bytes:=1,agg:=false,zero:=some (.t (.int .u8 0)),desc:=.int .u8}
theorem Ja {m:Int}:(cf m).P.ty 5=some ti5:=by kernel_rfl
abbrev afe:TI:={size:=256,bytes:=256,agg:=true,zero:=some (.t (.agg [.int .u8 0,.int .u8 0,.int .u8 0,.int .u8 0,.int .u8 0,.int .u8 0,.int .u8 0,.int .u8 0,.int .u8 0,.int .u8 0,.int .u8 0,.int .u8 0,.int .u8 0,.int .u8 0,.int .u8 0,.int .u8 0,.int .u8 0,.int .u8 0,.int .u8 0,.int .u8 0,.int .u8 0,.int .u8 0,.int .u8 0,.int .u8 0,.int .u8 0,.int .u8 0,.int .u8 0,.int .u8 0,.int .u8 0,.int .u8 0,.int .u8 0,.int .u8 0,.int .u8 0,.int .u8 0,.int .u8 0,.int .u8 0,.int .u8 0,.int .u8 0,.int .u8 0,.int .u8 0,.int .u8 0,.int .u8 0,.int .u8 0,.int .u8 0,.int .u8 0,.int .u8 0,.int .u8 0,.int .u8 0,.int .u8 0,.int .u8 0,.int .u8 0,.int .u8 0,.int .u8 0,.int .u8 0,.int .u8 0,.int .u8 0,.int .u8 0,.int .u8 0,.int .u8 0,.int .u8 0,.int .u8 0,.int .u8 0,.int .u8 0,.int .u8 0,.int .u8 0,.int .u8 0,.int .u8 0,.int .u8 0,.int .u8 0,.int .u8 0,.int .u8 0,.int .u8 0,.int .u8 0,.int .u8 0,.int .u8 0,.int .u8 0,.int .u8 0,.int .u8 0,.int .u8 0,.int .u8 0,.int .u8 0,.int .u8 0,.int .u8 0,.int .u8 0,.int .u8 0,.int .u8 0,.int .u8 0,.int .u8 0,.int .u8 0,.int .u8 0,.int .u8 0,.int .u8 0,.int .u8 0,.int .u8 0,.int .u8 0,.int .u8 0,.int .u8 0,.int .u8 0,.int .u8 0,.int .u8 0,.int .u8 0,.int .u8 0,.int .u8 0,.int .u8 0,.int .u8 0,.int .u8 0,.int .u8 0,.int .u8 0,.int .u8 0,.int .u8 0,.int .u8 0,.int .u8 0,.int .u8 0,.int .u8 0,.int .u8 0,.int .u8 0,.int .u8 0,.int .u8 0,.int .u8 0,.int .u8 0,.int .u8 0,.int .u8 0,.int .u8 0,.int .u8 0,.int .u8 0,.int .u8 0,.int .u8 0,.int .u8 0,.int .u8 0,.int .u8 0,.int .u8 0,.int .u8 0,.int .u8 0,.int .u8 0,.int .u8 0,.int .u8 0,.int .u8 0,.int .u8 0,.int .u8 0,.int .u8 0,.int .u8 0,.int .u8 0,.int .u8 0,.int .u8 0,.int .u8 0,.int .u8 0,.int .u8 0,.int .u8 0,.int .u8 0,.int .u8 0,.int .u8 0,.int .u8 0,.int .u8 0,.int .u8 0,.int .u8 0,.int .u8 0,.int .u8 0,.int .u8 0,.int .u8 0,.int .u8 0,.int .u8 0,.int .u8 0,.int .u8 0,.int .u8 0,.int .u8 0,.int .u8 0,.int .u8 0,.int .u8 0,.int .u8 0,.int .u8 0,.int .u8 0,.int .u8 0,.int .u8 0,.int .u8 0,.int .u8 0,.int .u8 0,.int .u8 0,.int .u8 0,.int .u8 0,.int .u8 0,.int .u8 0,.int .u8 0,.int .u8 0,.int .u8 0,.int .u8 0,.int .u8 0,.int .u8 0,.int .u8 0,.int .u8 0,.int .u8 0,.int .u8 0,.int .u8 0,.int .u8 0,.int .u8 0,.int .u8 0,.int .u8 0,.int .u8 0,.int .u8 0,.int .u8 0,.int .u8 0,.int .u8 0,.int .u8 0,.int .u8 0,.int .u8 0,.int .u8 0,.int .u8 0,.int .u8 0,.int .u8 0,.int .u8 0,.int .u8 0,.int .u8 0,.int .u8 0,.int .u8 0,.int .u8 0,.int .u8 0,.int .u8 0,.int .u8 0,.int .u8 0,.int .u8 0,.int .u8 0,.int .u8 0,.int .u8 0,.int .u8 0,.int .u8 0,.int .u8 0,.int .u8 0,.int .u8 0,.int .u8 0,.int .u8 0,.int .u8 0,.int .u8 0,.int .u8 0,.int .u8 0,.int .u8 0,.int .u8 0,.int .u8 0,.int .u8 0,.int .u8 0,.int .u8 0,.int .u8 0,.int .u8 0,.int .u8 0,.int .u8 0,.int .u8 0,.int .u8 0,.int .u8 0,.int .u8 0,.int .u8 0,.int .u8 0,.int .u8 0,.int .u8 0,.int .u8 0,.int .u8 0,.int .u8 0,.int .u8 0,.int .u8 0])),desc:=descOf 127}
theorem aff {m:Int}:(cf m).P.ty 127=some afe:=by kernel_rfl
abbrev afg:TI:={size:=2,bytes:=2,agg:=true,zero:=some (.t (.agg [.int .u8 0,.int .u8 0])),desc:=descOf 129}
theorem qB {m:Int}:(cf m).P.ty 129=some afg:=by kernel_rfl
abbrev afh:TI:={size:=32,bytes:=32,agg:=true,zero:=some (.t (.agg [.int .u8 0,.int .u8 0,.int .u8 0,.int .u8 0,.int .u8 0,.int .u8 0,.int .u8 0,.int .u8 0,.int .u8 0,.int .u8 0,.int .u8 0,.int .u8 0,.int .u8 0,.int .u8 0,.int .u8 0,.int .u8 0,.int .u8 0,.int .u8 0,.int .u8 0,.int .u8 0,.int .u8 0,.int .u8 0,.int .u8 0,.int .u8 0,.int .u8 0,.int .u8 0,.int .u8 0,.int .u8 0,.int .u8 0,.int .u8 0,.int .u8 0,.int .u8 0])),desc:=descOf 130}
theorem Kj {m:Int}:(cf m).P.ty 130=some afh:=by kernel_rfl
theorem HM {m:Int}:eX (cf m).P 129 0=some 0:=by kernel_rfl
theorem HN {m:Int}:eX (cf m).P 129 1=some 1:=by kernel_rfl
theorem TY {s:List UInt8}(h:(s.length:Int)>0):∃b s',s=b::s':=by
 cases s with
 |nil=>simp at h
 |cons b s'=>exact⟨b,s',rfl⟩
theorem QU:((List.range 256).all fun i=>match live.sH[i]? with|some (.int .u8 x)=>[240,241,2,19,3,35,52,4,68].contains x|_=>false)=true:=by kernel_rfl
theorem T3 (b:UInt8):∃x:Int,live.sH[0+b.toNat*1]?=some (.int .u8 x)∧x∈([240,241,2,19,3,35,52,4,68]:List Int):=by
  have h:=List.all_eq_true.1 QU b.toNat (by simpa using b.toNat_lt)
  rw[Nat.zero_add,Nat.mul_one]
  split at h
  · rename_i x hx
    exact⟨x,hx,by simpa using h⟩
  · cases h
theorem QV {m:Int}{x:Int}(h:x∈([240,241,2,19,3,35,52,4,68]:List Int)):∃(n:Int) (mm:Nat) (lo hi:Int),(∀a b,GL (cf m).P .and 5 a b (.t (.int .u8 x)) (.t (.int .u8 7))=some (.t (.int .u8 n)))∧(∀a b,GL (cf m).P .shr 5 a b (.t (.int .u8 x)) (.t (.int .u64 4))=some (.t (.int .u8 (mm:Int))))∧
  mm<16∧(∀H,loadT (cf m).P H 129 (.kD live.sI (0+mm*2))=some (.t (.agg [.int .u8 lo,.int .u8 hi])))∧n∈([0,1,2,3,4]:List Int):=by
 simp only[List.mem_cons,List.not_mem_nil,or_false] at h
 rcases h with rfl|rfl|rfl|rfl|rfl|rfl|rfl|rfl|rfl
 · exact⟨0,15,0,0,fun _ _=>by kernel_rfl,fun _ _=>by kernel_rfl,by decide,fun _=>by kernel_rfl,by decide⟩
 · exact⟨1,15,0,0,fun _ _=>by kernel_rfl,fun _ _=>by kernel_rfl,by decide,fun _=>by kernel_rfl,by decide⟩
 · exact⟨2,0,128,191,fun _ _=>by kernel_rfl,fun _ _=>by kernel_rfl,by decide,fun _=>by kernel_rfl,by decide⟩
 · exact⟨3,1,160,191,fun _ _=>by kernel_rfl,fun _ _=>by kernel_rfl,by decide,fun _=>by kernel_rfl,by decide⟩
 · exact⟨3,0,128,191,fun _ _=>by kernel_rfl,fun _ _=>by kernel_rfl,by decide,fun _=>by kernel_rfl,by decide⟩
 · exact⟨3,2,128,159,fun _ _=>by kernel_rfl,fun _ _=>by kernel_rfl,by decide,fun _=>by kernel_rfl,by decide⟩
 · exact⟨4,3,144,191,fun _ _=>by kernel_rfl,fun _ _=>by kernel_rfl,by decide,fun _=>by kernel_rfl,by decide⟩
 · exact⟨4,0,128,191,fun _ _=>by kernel_rfl,fun _ _=>by kernel_rfl,by decide,fun _=>by kernel_rfl,by decide⟩
 · exact⟨4,4,128,143,fun _ _=>by kernel_rfl,fun _ _=>by kernel_rfl,by decide,fun _=>by kernel_rfl,by decide⟩
theorem Kk {m       : Int}(ev:aW)(ai:aF (cf m) ev)(wz:List UInt8→Int)(hw:∀s,8≤s.length→ev 73 [.t (.str s)] []=some (.ret (.t (.int .u64 (wz s))) [] []))(s0:List UInt8):
    ∃r:Bool,ay (cf m) 29 [.t (.str s0)] [] (.ret (.t (.bool r)) [] []):=by
  refine AX.start 169 1 Tryz.func29 rfl (by decide) rfl rfl (by decide) ?_
  refine AX.seq ?_
  refine AX.region ?_
  refine ak.go (f:=0) ai (au rfl) ?_
  refine ak.nil ?_
  refine AX.seq ?_
  refine AX.block ?_
  refine AX.loop (α:=List UInt8) (fun s=>⟨bH 169 [(0,.t (.str s))],[],0⟩) (fun s=>True) (fun s=>s.length) s0 (Re.sq [] ⟨rfl,trivial⟩ trivial (by decide) rfl rfl (by decide)) trivial (fun s hok=> ?_)
  refine AX.seq ?_
  refine AX.seq ?_
  refine AX.region ?_
  refine ak.go (f:=0) ai (av rfl) ?_
  refine ak.go (f:=0) ai (rW rfl kB rfl) ?_
  refine ak.go (f:=0) ai (FX rfl rfl) ?_
  refine ak.nil ?_
  refine AX.cond rfl (fun h9=> ?_) (fun h9=> ?_)
  · obtain⟨ b,s',rfl⟩:=TY (of_decide_eq_true h9)
    refine AX.skip ?_
    refine AX.block ?_
    refine AX.seq ?_
    refine AX.region ?_
    refine ak.go (f:=0) ai (av rfl) ?_
    refine ak.go (f:=0) ai (iL rfl rfl kB rfl rfl) ?_
    refine ak.go (f:=0) ai (au rfl) ?_
    refine ak.nil ?_
    refine AX.seq ?_
    refine AX.seq ?_
    refine AX.region ?_
    refine ak.go (f:=0) ai (av rfl) ?_
    refine ak.go (f:=0) ai (ia rfl rfl) ?_
    refine ak.nil ?_
    refine AX.cond rfl (fun h13=> ?_) (fun h13=> ?_)
    · skip
      refine AX.seq ?_
      refine AX.region ?_
      refine ak.go (f:=0) ai (av rfl) ?_
      refine ak.go (f:=0) ai ((show cF _ _ _ _ _ _ _ _ _ (.t (.str s')) _ from qy (s:=(b::s')) (m:=1) rfl rfl kB rfl (by simp))) ?_
      refine ak.go (f:=0) ai (au rfl) ?_
      refine ak.nil ?_
      refine AX.seq ?_
      refine AX.seq ?_
      refine AX.region ?_
      refine ak.go (f:=0) ai (av rfl) ?_
      refine ak.go (f:=0) ai (rW rfl kB rfl) ?_
      refine ak.go (f:=0) ai (FX rfl rfl) ?_
      refine ak.go (f:=0) ai (av rfl) ?_
      refine ak.split 19 rfl (fun Cc=> ?_) (fun Cc=> ?_)
      · have alK:8<s'.length:=by have:=of_decide_eq_true Cc;omega
        refine ak.yes (f:=0) ai rfl rfl rfl (cQ Cc) (av rfl) ?_
        refine ak.yes (f:=0) ai rfl rfl rfl (cQ Cc) (bU (uQ rfl) (hw _ (by first|omega|(simp only[List.length_drop];omega)))) ?_
        refine ak.yes (f:=0) ai rfl rfl rfl (cQ Cc) (fZ rfl rfl rfl) ?_
        refine ak.yes (f:=0) ai rfl rfl rfl (cQ Cc) (gR rfl rfl) ?_
        refine ak.go (f:=0) ai (bz rfl Cc rfl rfl) ?_
        refine ak.nil ?_
        refine AX.cond rfl (fun h24=> ?_) (fun h24=> ?_)
        · skip
          refine AX.seq ?_
          refine AX.region ?_
          refine ak.go (f:=0) ai (av rfl) ?_
          refine ak.go (f:=0) ai ((show cF _ _ _ _ _ _ _ _ _ (.t (.str (s'.drop 8))) _ from qy (s:=s') (m:=8) rfl rfl kB rfl (by first|omega|(simp only[List.length_drop];omega)))) ?_
          refine ak.go (f:=0) ai (au rfl) ?_
          refine ak.nil ?_
          refine AX.seq ?_
          refine AX.draw (f:=0) ah ai ?_
          refine aJ.go rfl (av rfl) ?_
          refine aJ.go rfl (rW rfl kB rfl) ?_
          refine aJ.go rfl (FX rfl rfl) ?_
          refine aJ.go rfl (av rfl) ?_
          refine aJ.split 30 rfl (fun ij=> ?_) (fun ij=> ?_)
          · have ajT:16+8<s'.length:=by have:=of_decide_eq_true ij;simp only[List.length_drop] at this;omega
            refine aJ.yes rfl rfl rfl (cQ ij) rfl (av rfl) ?_
            refine aJ.yes rfl rfl rfl (cQ ij) rfl (bU (uQ rfl) (hw _ (by first|omega|(simp only[List.length_drop];omega)))) ?_
            refine aJ.yes rfl rfl rfl (cQ ij) rfl (av rfl) ?_
            refine aJ.yes rfl rfl rfl (cQ ij) rfl (qy (m:=8) rfl rfl kB rfl (by first|omega|(simp only[List.length_drop];omega))) ?_
            refine aJ.yes rfl rfl rfl (cQ ij) rfl (bU (uQ rfl) (hw _ (by first|omega|(simp only[List.length_drop];omega)))) ?_
            refine aJ.yes rfl rfl rfl (cQ ij) rfl (fZ rfl rfl rfl) ?_
            refine aJ.yes rfl rfl rfl (cQ ij) rfl (fZ rfl rfl rfl) ?_
            refine aJ.yes rfl rfl rfl (cQ ij) rfl (gR rfl rfl) ?_
            refine aJ.go rfl (bz rfl ij rfl rfl) ?_
            refine aJ.nil (eE rfl rfl ?_)
            refine AX.cond rfl (fun h39=> ?_) (fun h39=> ?_)
            · skip
              refine AX.seq ?_
              refine AX.region ?_
              refine ak.go (f:=0) ai (av rfl) ?_
              refine ak.go (f:=0) ai ((show cF _ _ _ _ _ _ _ _ _ (.t (.str ((s'.drop 8).drop 16))) _ from qy (s:=(s'.drop 8)) (m:=16) rfl rfl kB rfl (by first|omega|(simp only[List.length_drop];omega)))) ?_
              refine ak.go (f:=0) ai (au rfl) ?_
              refine ak.nil ?_
              refine AX.block ?_
              refine AX.loop (α:=List UInt8) (fun u=>⟨bH 169 [(0,.t (.str u))],[],0⟩) (fun u=>u.length≤s'.length) (fun u=>u.length) ((s'.drop 8).drop 16) (Re.sq [] ⟨rfl,trivial⟩ trivial (by decide) rfl rfl (by decide)) (by show List.length _≤_;simp only[List.length_drop];omega) (fun u hok=> ?_)
              refine AX.seq ?_
              refine AX.seq ?_
              refine AX.draw (f:=0) ah ai ?_
              refine aJ.go rfl (av rfl) ?_
              refine aJ.go rfl (rW rfl kB rfl) ?_
              refine aJ.go rfl (FX rfl rfl) ?_
              refine aJ.go rfl (av rfl) ?_
              refine aJ.split 45 rfl (fun j3=> ?_) (fun j3=> ?_)
              · have ajU:32<u.length:=by have:=of_decide_eq_true j3;omega
                refine aJ.yes rfl rfl rfl (cQ j3) rfl (av rfl) ?_
                refine aJ.yes rfl rfl rfl (cQ j3) rfl (bU (uQ rfl) (hw _ (by first|omega|(simp only[List.length_drop];omega)))) ?_
                refine aJ.yes rfl rfl rfl (cQ j3) rfl (av rfl) ?_
                refine aJ.yes rfl rfl rfl (cQ j3) rfl (qy (m:=8) rfl rfl kB rfl (by first|omega|(simp only[List.length_drop];omega))) ?_
                refine aJ.yes rfl rfl rfl (cQ j3) rfl (bU (uQ rfl) (hw _ (by first|omega|(simp only[List.length_drop];omega)))) ?_
                refine aJ.yes rfl rfl rfl (cQ j3) rfl (fZ rfl rfl rfl) ?_
                refine aJ.yes rfl rfl rfl (cQ j3) rfl (av rfl) ?_
                refine aJ.yes rfl rfl rfl (cQ j3) rfl (qy (m:=16) rfl rfl kB rfl (by first|omega|(simp only[List.length_drop];omega))) ?_
                refine aJ.yes rfl rfl rfl (cQ j3) rfl (bU (uQ rfl) (hw _ (by first|omega|(simp only[List.length_drop];omega)))) ?_
                refine aJ.yes rfl rfl rfl (cQ j3) rfl (av rfl) ?_
                refine aJ.yes rfl rfl rfl (cQ j3) rfl (qy (m:=24) rfl rfl kB rfl (by first|omega|(simp only[List.length_drop];omega))) ?_
                refine aJ.yes rfl rfl rfl (cQ j3) rfl (bU (uQ rfl) (hw _ (by first|omega|(simp only[List.length_drop];omega)))) ?_
                refine aJ.yes rfl rfl rfl (cQ j3) rfl (fZ rfl rfl rfl) ?_
                refine aJ.yes rfl rfl rfl (cQ j3) rfl (fZ rfl rfl rfl) ?_
                refine aJ.yes rfl rfl rfl (cQ j3) rfl (fZ rfl rfl rfl) ?_
                refine aJ.yes rfl rfl rfl (cQ j3) rfl (gR rfl rfl) ?_
                refine aJ.go rfl (bz rfl j3 rfl rfl) ?_
                refine aJ.nil (eE rfl rfl ?_)
                refine AX.cond rfl (fun h62=> ?_) (fun h62=> ?_)
                · skip
                  refine AX.skip ?_
                  refine AX.block ?_
                  refine AX.region ?_
                  refine ak.go (f:=0) ai (av rfl) ?_
                  refine ak.go (f:=0) ai ((show cF _ _ _ _ _ _ _ _ _ (.t (.str (u.drop 32))) _ from qy (s:=u) (m:=32) rfl rfl kB rfl (by omega))) ?_
                  refine ak.go (f:=0) ai (au rfl) ?_
                  refine ak.nil ?_
                  refine AX.cC ?_
                  exact⟨.inl ⟨u.drop 32,by show(u.drop 32).length≤_∧(u.drop 32).length<_;rw[List.length_drop];omega⟩,rfl,(Re.sq [] ⟨rfl,trivial⟩ trivial (by decide) rfl rfl (by decide))⟩
                · skip
                  refine AX.exit ?_
                  refine AX.eP ?_
                  refine AX.leave (e:=.exit 2) (by simp) ?_
                  refine AX.fV ?_
                  refine AX.exit ?_
                  refine AX.eP ?_
                  refine AX.fV ?_
                  exact⟨.inl ⟨u,trivial,by show(u).length<_;first|(simp;done)|(simp only[List.length_drop,List.length_cons];omega)|(simp only[List.length_drop,List.length_cons] at*;omega)⟩,rfl,(Re.sq [] ⟨rfl,trivial⟩ trivial (by decide) rfl rfl (by decide))⟩
              · skip
                refine aJ.no rfl rfl rfl (dh j3) ?_
                refine aJ.no rfl rfl rfl (dh j3) ?_
                refine aJ.no rfl rfl rfl (dh j3) ?_
                refine aJ.no rfl rfl rfl (dh j3) ?_
                refine aJ.no rfl rfl rfl (dh j3) ?_
                refine aJ.no rfl rfl rfl (dh j3) ?_
                refine aJ.no rfl rfl rfl (dh j3) ?_
                refine aJ.no rfl rfl rfl (dh j3) ?_
                refine aJ.no rfl rfl rfl (dh j3) ?_
                refine aJ.no rfl rfl rfl (dh j3) ?_
                refine aJ.no rfl rfl rfl (dh j3) ?_
                refine aJ.no rfl rfl rfl (dh j3) ?_
                refine aJ.no rfl rfl rfl (dh j3) ?_
                refine aJ.no rfl rfl rfl (dh j3) ?_
                refine aJ.no rfl rfl rfl (dh j3) ?_
                refine aJ.no rfl rfl rfl (dh j3) ?_
                refine aJ.go rfl (dU rfl j3 rfl rfl) ?_
                refine aJ.nil (eE rfl rfl ?_)
                refine AX.nt rfl rfl ?_
                refine AX.exit ?_
                refine AX.eP ?_
                refine AX.leave (e:=.exit 2) (by simp) ?_
                refine AX.fV ?_
                refine AX.exit ?_
                refine AX.eP ?_
                refine AX.fV ?_
                exact⟨.inl ⟨u,trivial,by show(u).length<_;first|(simp;done)|(simp only[List.length_drop,List.length_cons];omega)|(simp only[List.length_drop,List.length_cons] at*;omega)⟩,rfl,(Re.sq [] ⟨rfl,trivial⟩ trivial (by decide) rfl rfl (by decide))⟩
            · skip
              refine AX.skip ?_
              refine AX.exit ?_
              refine AX.eP ?_
              refine AX.fV ?_
              exact⟨.inl ⟨(s'.drop 8),trivial,by show((s'.drop 8)).length<_;first|(simp;done)|(simp only[List.length_drop,List.length_cons];omega)|(simp only[List.length_drop,List.length_cons] at*;omega)⟩,rfl,(Re.sq [] ⟨rfl,trivial⟩ trivial (by decide) rfl rfl (by decide))⟩
          · skip
            refine aJ.no rfl rfl rfl (dh ij) ?_
            refine aJ.no rfl rfl rfl (dh ij) ?_
            refine aJ.no rfl rfl rfl (dh ij) ?_
            refine aJ.no rfl rfl rfl (dh ij) ?_
            refine aJ.no rfl rfl rfl (dh ij) ?_
            refine aJ.no rfl rfl rfl (dh ij) ?_
            refine aJ.no rfl rfl rfl (dh ij) ?_
            refine aJ.no rfl rfl rfl (dh ij) ?_
            refine aJ.go rfl (dU rfl ij rfl rfl) ?_
            refine aJ.nil (eE rfl rfl ?_)
            refine AX.nt rfl rfl ?_
            refine AX.skip ?_
            refine AX.exit ?_
            refine AX.eP ?_
            refine AX.fV ?_
            exact⟨.inl ⟨(s'.drop 8),trivial,by show((s'.drop 8)).length<_;first|(simp;done)|(simp only[List.length_drop,List.length_cons];omega)|(simp only[List.length_drop,List.length_cons] at*;omega)⟩,rfl,(Re.sq [] ⟨rfl,trivial⟩ trivial (by decide) rfl rfl (by decide))⟩
        · skip
          refine AX.skip ?_
          refine AX.exit ?_
          refine AX.eP ?_
          refine AX.fV ?_
          exact⟨.inl ⟨s',trivial,by show(s').length<_;first|(simp;done)|(simp only[List.length_drop,List.length_cons];omega)|(simp only[List.length_drop,List.length_cons] at*;omega)⟩,rfl,(Re.sq [] ⟨rfl,trivial⟩ trivial (by decide) rfl rfl (by decide))⟩
      · skip
        refine ak.no rfl rfl rfl (dh Cc) ?_
        refine ak.no rfl rfl rfl (dh Cc) ?_
        refine ak.no rfl rfl rfl (dh Cc) ?_
        refine ak.no rfl rfl rfl (dh Cc) ?_
        refine ak.go (f:=0) ai (dU rfl Cc rfl rfl) ?_
        refine ak.nil ?_
        refine AX.nt rfl rfl ?_
        refine AX.skip ?_
        refine AX.exit ?_
        refine AX.eP ?_
        refine AX.fV ?_
        exact⟨.inl ⟨s',trivial,by show(s').length<_;first|(simp;done)|(simp only[List.length_drop,List.length_cons];omega)|(simp only[List.length_drop,List.length_cons] at*;omega)⟩,rfl,(Re.sq [] ⟨rfl,trivial⟩ trivial (by decide) rfl rfl (by decide))⟩
    · skip
      refine AX.skip ?_
      refine AX.seq ?_
      obtain⟨x,hx,hm⟩:=T3 b
      refine AX.region ?_
      refine ak.go (f:=0) ai (av rfl) ?_
      refine ak.go (f:=0) ai (nJ rfl rfl aff rfl Ja b.toNat_lt) ?_
      refine ak.go (f:=0) ai (cN rfl (ld Ja rfl (Tk hx))) ?_
      refine ak.go (f:=0) ai (au rfl) ?_
      refine ak.nil ?_
      refine AX.seq ?_
      obtain⟨n,mm,lo,hi,fa,fs,RI,fl,hn⟩:=QV (m:=m) hm
      simp only[List.mem_cons,List.not_mem_nil,or_false] at hn
      rcases hn with rfl|rfl|rfl|rfl|rfl
      ·
        refine AX.region ?_
        refine ak.go (f:=0) ai (av rfl) ?_
        refine ak.go (f:=0) ai (fZ rfl rfl (fa _ _)) ?_
        refine ak.go (f:=0) ai (show cF _ _ _ _ _ _ _ _ _ (.t (.int .i64 0)) _ from nI rfl (fun _ _ _=>by kernel_rfl)) ?_
        refine ak.go (f:=0) ai (au rfl) ?_
        refine ak.nil ?_
        refine AX.seq ?_
        refine AX.region ?_
        refine ak.go (f:=0) ai (av rfl) ?_
        refine ak.go (f:=0) ai (fZ rfl rfl (fs _ _)) ?_
        refine ak.go (f:=0) ai (nJ (m:=mm) rfl rfl Kj rfl qB RI) ?_
        refine ak.go (f:=0) ai (cN rfl (fl _)) ?_
        refine ak.go (f:=0) ai (gQ qB rfl rfl) ?_
        refine ak.lQ (f:=0) ai (br rfl rfl (mX qB rfl rfl)) ?_
        refine ak.nil ?_
        refine AX.seq ?_
        refine AX.region ?_
        refine ak.go (f:=0) ai (av rfl) ?_
        refine ak.nil ?_
        refine AX.block ?_
        refine AX.seq ?_
        refine AX.region ?_
        refine ak.go (f:=0) ai (gR rfl rfl) ?_
        refine ak.go (f:=0) ai (au rfl) ?_
        refine ak.nil ?_
        refine AX.nt rfl (by decide) ?_
        refine AX.seq ?_
        refine AX.region ?_
        refine ak.go (f:=0) ai (gR rfl rfl) ?_
        refine ak.go (f:=0) ai (au rfl) ?_
        refine ak.nil ?_
        refine AX.nt rfl (by decide) ?_
        refine AX.seq ?_
        refine AX.region ?_
        refine ak.go (f:=0) ai (gR rfl rfl) ?_
        refine ak.go (f:=0) ai (au rfl) ?_
        refine ak.nil ?_
        refine AX.nt rfl (by decide) ?_
        refine AX.seq ?_
        refine AX.region ?_
        refine ak.go (f:=0) ai (au rfl) ?_
        refine ak.nil ?_
        refine AX.ret ?_
        refine AX.bx ?_
        refine AX.bx ?_
        refine AX.leave (e:=.ret) (by simp) ?_
        refine AX.bx ?_
        refine AX.bt ?_
        exact⟨false,.inl rfl⟩
      ·
        refine AX.region ?_
        refine ak.go (f:=0) ai (av rfl) ?_
        refine ak.go (f:=0) ai (fZ rfl rfl (fa _ _)) ?_
        refine ak.go (f:=0) ai (show cF _ _ _ _ _ _ _ _ _ (.t (.int .i64 1)) _ from nI rfl (fun _ _ _=>by kernel_rfl)) ?_
        refine ak.go (f:=0) ai (au rfl) ?_
        refine ak.nil ?_
        refine AX.seq ?_
        refine AX.region ?_
        refine ak.go (f:=0) ai (av rfl) ?_
        refine ak.go (f:=0) ai (fZ rfl rfl (fs _ _)) ?_
        refine ak.go (f:=0) ai (nJ (m:=mm) rfl rfl Kj rfl qB RI) ?_
        refine ak.go (f:=0) ai (cN rfl (fl _)) ?_
        refine ak.go (f:=0) ai (gQ qB rfl rfl) ?_
        refine ak.lQ (f:=0) ai (br rfl rfl (mX qB rfl rfl)) ?_
        refine ak.nil ?_
        refine AX.seq ?_
        refine AX.region ?_
        refine ak.go (f:=0) ai (av rfl) ?_
        refine ak.nil ?_
        refine AX.block ?_
        refine AX.seq ?_
        refine AX.region ?_
        refine ak.go (f:=0) ai (gR rfl rfl) ?_
        refine ak.go (f:=0) ai (au rfl) ?_
        refine ak.nil ?_
        refine AX.nt rfl (by decide) ?_
        refine AX.seq ?_
        refine AX.region ?_
        refine ak.go (f:=0) ai (gR rfl rfl) ?_
        refine ak.go (f:=0) ai (au rfl) ?_
        refine ak.nil ?_
        refine AX.nt rfl (by decide) ?_
        refine AX.seq ?_
        refine AX.region ?_
        refine ak.go (f:=0) ai (gR rfl rfl) ?_
        refine ak.go (f:=0) ai (au rfl) ?_
        refine ak.nil ?_
        refine AX.nt rfl (by decide) ?_
        refine AX.seq ?_
        refine AX.region ?_
        refine ak.go (f:=0) ai (au rfl) ?_
        refine ak.nil ?_
        refine AX.ret ?_
        refine AX.bx ?_
        refine AX.bx ?_
        refine AX.leave (e:=.ret) (by simp) ?_
        refine AX.bx ?_
        refine AX.bt ?_
        exact⟨false,.inl rfl⟩
      ·
        refine AX.region ?_
        refine ak.go (f:=0) ai (av rfl) ?_
        refine ak.go (f:=0) ai (fZ rfl rfl (fa _ _)) ?_
        refine ak.go (f:=0) ai (show cF _ _ _ _ _ _ _ _ _ (.t (.int .i64 2)) _ from nI rfl (fun _ _ _=>by kernel_rfl)) ?_
        refine ak.go (f:=0) ai (au rfl) ?_
        refine ak.nil ?_
        refine AX.seq ?_
        refine AX.region ?_
        refine ak.go (f:=0) ai (av rfl) ?_
        refine ak.go (f:=0) ai (fZ rfl rfl (fs _ _)) ?_
        refine ak.go (f:=0) ai (nJ (m:=mm) rfl rfl Kj rfl qB RI) ?_
        refine ak.go (f:=0) ai (cN rfl (fl _)) ?_
        refine ak.go (f:=0) ai (gQ qB rfl rfl) ?_
        refine ak.lQ (f:=0) ai (br rfl rfl (mX qB rfl rfl)) ?_
        refine ak.nil ?_
        refine AX.seq ?_
        refine AX.region ?_
        refine ak.go (f:=0) ai (av rfl) ?_
        refine ak.nil ?_
        refine AX.block ?_
        refine AX.seq ?_
        refine AX.region ?_
        refine ak.go (f:=0) ai (gR rfl rfl) ?_
        refine ak.go (f:=0) ai (au rfl) ?_
        refine ak.nil ?_
        refine AX.nu rfl (by decide) ?_
        refine AX.seq ?_
        refine AX.seq ?_
        refine AX.draw (f:=0) ah ai ?_
        refine aJ.go rfl (av rfl) ?_
        refine aJ.go rfl (rW rfl kB rfl) ?_
        refine aJ.go rfl (ia rfl rfl) ?_
        refine aJ.go rfl (av rfl) ?_
        refine aJ.split 81 rfl (fun zo=> ?_) (fun zo=> ?_)
        · skip
          refine aJ.no rfl rfl rfl (aN zo) ?_
          refine aJ.no rfl rfl rfl (aN zo) ?_
          refine aJ.no rfl rfl rfl (aN zo) ?_
          refine aJ.no rfl rfl rfl (aN zo) ?_
          refine aJ.no rfl rfl rfl (aN zo) ?_
          refine aJ.go rfl (bz rfl zo rfl rfl) ?_
          refine aJ.go rfl (av rfl) ?_
          refine aJ.no rfl rfl rfl (aN rfl) ?_
          refine aJ.no rfl rfl rfl (aN rfl) ?_
          refine aJ.no rfl rfl rfl (aN rfl) ?_
          refine aJ.no rfl rfl rfl (aN rfl) ?_
          refine aJ.no rfl rfl rfl (aN rfl) ?_
          refine aJ.go rfl (bz rfl rfl rfl rfl) ?_
          refine aJ.nil (eE rfl rfl ?_)
          refine AX.nu rfl rfl ?_
          refine AX.seq ?_
          refine AX.region ?_
          refine ak.go (f:=0) ai (au rfl) ?_
          refine ak.nil ?_
          refine AX.ret ?_
          refine AX.bt ?_
          refine AX.bx ?_
          refine AX.bx ?_
          refine AX.leave (e:=.ret) (by simp) ?_
          refine AX.bx ?_
          refine AX.bt ?_
          exact⟨false,.inl rfl⟩
        · have hl2:2≤(b::s').length:=by have:=of_decide_eq_false zo;omega
          refine aJ.yes rfl rfl rfl (cL zo) rfl (av rfl) ?_
          refine aJ.yes rfl rfl rfl (cL zo) rfl (iL (m:=1) rfl rfl kB rfl (List.getElem?_eq_getElem (by omega))) ?_
          refine aJ.yes rfl rfl rfl (cL zo) rfl (aB rfl HM rfl) ?_
          refine aJ.yes rfl rfl rfl (cL zo) rfl ((by first|exact cN rfl (ld Ja rfl rfl)|exact aS rfl (ld Ja rfl rfl))) ?_
          refine aJ.yes rfl rfl rfl (cL zo) rfl (ia rfl rfl) ?_
          refine aJ.go rfl (dU rfl zo rfl rfl) ?_
          refine aJ.go rfl (av rfl) ?_
          refine aJ.split 88 rfl (fun Bc=> ?_) (fun Bc=> ?_)
          · skip
            refine aJ.no rfl rfl rfl (aN Bc) ?_
            refine aJ.no rfl rfl rfl (aN Bc) ?_
            refine aJ.no rfl rfl rfl (aN Bc) ?_
            refine aJ.no rfl rfl rfl (aN Bc) ?_
            refine aJ.no rfl rfl rfl (aN Bc) ?_
            refine aJ.go rfl (bz rfl Bc rfl rfl) ?_
            refine aJ.nil (eE rfl rfl ?_)
            refine AX.nu rfl rfl ?_
            refine AX.seq ?_
            refine AX.region ?_
            refine ak.go (f:=0) ai (au rfl) ?_
            refine ak.nil ?_
            refine AX.ret ?_
            refine AX.bt ?_
            refine AX.bx ?_
            refine AX.bx ?_
            refine AX.leave (e:=.ret) (by simp) ?_
            refine AX.bx ?_
            refine AX.bt ?_
            exact⟨false,.inl rfl⟩
          · skip
            refine aJ.yes rfl rfl rfl (cL Bc) rfl (aB rfl HN rfl) ?_
            refine aJ.yes rfl rfl rfl (cL Bc) rfl ((by first|exact cN rfl (ld Ja rfl rfl)|exact aS rfl (ld Ja rfl rfl))) ?_
            refine aJ.yes rfl rfl rfl (cL Bc) rfl (av rfl) ?_
            refine aJ.yes rfl rfl rfl (cL Bc) rfl (iL (m:=1) rfl rfl kB rfl (List.getElem?_eq_getElem (by omega))) ?_
            refine aJ.yes rfl rfl rfl (cL Bc) rfl (ia rfl rfl) ?_
            refine aJ.go rfl (dU rfl Bc rfl rfl) ?_
            refine aJ.nil (eE rfl rfl ?_)
            refine AX.cond rfl (fun h94=> ?_) (fun h94=> ?_)
            · skip
              refine AX.seq ?_
              refine AX.region ?_
              refine ak.go (f:=0) ai (au rfl) ?_
              refine ak.nil ?_
              refine AX.ret ?_
              refine AX.bt ?_
              refine AX.bx ?_
              refine AX.bx ?_
              refine AX.leave (e:=.ret) (by simp) ?_
              refine AX.bx ?_
              refine AX.bt ?_
              exact⟨false,.inl rfl⟩
            · skip
              refine AX.skip ?_
              refine AX.region ?_
              refine ak.go (f:=0) ai (av rfl) ?_
              refine ak.go (f:=0) ai ((show cF _ _ _ _ _ _ _ _ _ (.t (.str ((b::s').drop 2))) _ from qy (s:=(b::s')) (m:=2) rfl rfl kB rfl (by omega))) ?_
              refine ak.go (f:=0) ai (au rfl) ?_
              refine ak.nil ?_
              refine AX.cC ?_
              refine AX.cC ?_
              exact⟨.inl ⟨((b::s').drop 2),trivial,by show(((b::s').drop 2)).length<_;first|(simp;done)|(simp only[List.length_drop,List.length_cons];omega)|(simp only[List.length_drop,List.length_cons] at*;omega)⟩,rfl,(Re.sq [] ⟨rfl,trivial⟩ trivial (by decide) rfl rfl (by decide))⟩
      ·
        refine AX.region ?_
        refine ak.go (f:=0) ai (av rfl) ?_
        refine ak.go (f:=0) ai (fZ rfl rfl (fa _ _)) ?_
        refine ak.go (f:=0) ai (show cF _ _ _ _ _ _ _ _ _ (.t (.int .i64 3)) _ from nI rfl (fun _ _ _=>by kernel_rfl)) ?_
        refine ak.go (f:=0) ai (au rfl) ?_
        refine ak.nil ?_
        refine AX.seq ?_
        refine AX.region ?_
        refine ak.go (f:=0) ai (av rfl) ?_
        refine ak.go (f:=0) ai (fZ rfl rfl (fs _ _)) ?_
        refine ak.go (f:=0) ai (nJ (m:=mm) rfl rfl Kj rfl qB RI) ?_
        refine ak.go (f:=0) ai (cN rfl (fl _)) ?_
        refine ak.go (f:=0) ai (gQ qB rfl rfl) ?_
        refine ak.lQ (f:=0) ai (br rfl rfl (mX qB rfl rfl)) ?_
        refine ak.nil ?_
        refine AX.seq ?_
        refine AX.region ?_
        refine ak.go (f:=0) ai (av rfl) ?_
        refine ak.nil ?_
        refine AX.block ?_
        refine AX.seq ?_
        refine AX.region ?_
        refine ak.go (f:=0) ai (gR rfl rfl) ?_
        refine ak.go (f:=0) ai (au rfl) ?_
        refine ak.nil ?_
        refine AX.nt rfl (by decide) ?_
        refine AX.seq ?_
        refine AX.region ?_
        refine ak.go (f:=0) ai (gR rfl rfl) ?_
        refine ak.go (f:=0) ai (au rfl) ?_
        refine ak.nil ?_
        refine AX.nu rfl (by decide) ?_
        refine AX.seq ?_
        refine AX.seq ?_
        refine AX.draw (f:=0) ah ai ?_
        refine aJ.go rfl (av rfl) ?_
        refine aJ.go rfl (rW rfl kB rfl) ?_
        refine aJ.go rfl (ia rfl rfl) ?_
        refine aJ.go rfl (av rfl) ?_
        refine aJ.split 102 rfl (fun rI=> ?_) (fun rI=> ?_)
        · skip
          refine aJ.no rfl rfl rfl (aN rI) ?_
          refine aJ.no rfl rfl rfl (aN rI) ?_
          refine aJ.no rfl rfl rfl (aN rI) ?_
          refine aJ.no rfl rfl rfl (aN rI) ?_
          refine aJ.no rfl rfl rfl (aN rI) ?_
          refine aJ.go rfl (bz rfl rI rfl rfl) ?_
          refine aJ.go rfl (av rfl) ?_
          refine aJ.no rfl rfl rfl (aN rfl) ?_
          refine aJ.no rfl rfl rfl (aN rfl) ?_
          refine aJ.no rfl rfl rfl (aN rfl) ?_
          refine aJ.no rfl rfl rfl (aN rfl) ?_
          refine aJ.no rfl rfl rfl (aN rfl) ?_
          refine aJ.go rfl (bz rfl rfl rfl rfl) ?_
          refine aJ.go rfl (av rfl) ?_
          refine aJ.no rfl rfl rfl (aN rfl) ?_
          refine aJ.no rfl rfl rfl (aN rfl) ?_
          refine aJ.no rfl rfl rfl (aN rfl) ?_
          refine aJ.go rfl (bz rfl rfl rfl rfl) ?_
          refine aJ.go rfl (av rfl) ?_
          refine aJ.no rfl rfl rfl (aN rfl) ?_
          refine aJ.no rfl rfl rfl (aN rfl) ?_
          refine aJ.no rfl rfl rfl (aN rfl) ?_
          refine aJ.go rfl (bz rfl rfl rfl rfl) ?_
          refine aJ.nil (eE rfl rfl ?_)
          refine AX.nu rfl rfl ?_
          refine AX.seq ?_
          refine AX.region ?_
          refine ak.go (f:=0) ai (au rfl) ?_
          refine ak.nil ?_
          refine AX.ret ?_
          refine AX.bt ?_
          refine AX.bx ?_
          refine AX.bx ?_
          refine AX.leave (e:=.ret) (by simp) ?_
          refine AX.bx ?_
          refine AX.bt ?_
          exact⟨false,.inl rfl⟩
        · have hl3:3≤(b::s').length:=by have:=of_decide_eq_false rI;omega
          refine aJ.yes rfl rfl rfl (cL rI) rfl (av rfl) ?_
          refine aJ.yes rfl rfl rfl (cL rI) rfl (iL (m:=1) rfl rfl kB rfl (List.getElem?_eq_getElem (by omega))) ?_
          refine aJ.yes rfl rfl rfl (cL rI) rfl (aB rfl HM rfl) ?_
          refine aJ.yes rfl rfl rfl (cL rI) rfl ((by first|exact cN rfl (ld Ja rfl rfl)|exact aS rfl (ld Ja rfl rfl))) ?_
          refine aJ.yes rfl rfl rfl (cL rI) rfl (ia rfl rfl) ?_
          refine aJ.go rfl (dU rfl rI rfl rfl) ?_
          refine aJ.go rfl (av rfl) ?_
          refine aJ.split 109 rfl (fun sO=> ?_) (fun sO=> ?_)
          · skip
            refine aJ.no rfl rfl rfl (aN sO) ?_
            refine aJ.no rfl rfl rfl (aN sO) ?_
            refine aJ.no rfl rfl rfl (aN sO) ?_
            refine aJ.no rfl rfl rfl (aN sO) ?_
            refine aJ.no rfl rfl rfl (aN sO) ?_
            refine aJ.go rfl (bz rfl sO rfl rfl) ?_
            refine aJ.go rfl (av rfl) ?_
            refine aJ.no rfl rfl rfl (aN rfl) ?_
            refine aJ.no rfl rfl rfl (aN rfl) ?_
            refine aJ.no rfl rfl rfl (aN rfl) ?_
            refine aJ.go rfl (bz rfl rfl rfl rfl) ?_
            refine aJ.go rfl (av rfl) ?_
            refine aJ.no rfl rfl rfl (aN rfl) ?_
            refine aJ.no rfl rfl rfl (aN rfl) ?_
            refine aJ.no rfl rfl rfl (aN rfl) ?_
            refine aJ.go rfl (bz rfl rfl rfl rfl) ?_
            refine aJ.nil (eE rfl rfl ?_)
            refine AX.nu rfl rfl ?_
            refine AX.seq ?_
            refine AX.region ?_
            refine ak.go (f:=0) ai (au rfl) ?_
            refine ak.nil ?_
            refine AX.ret ?_
            refine AX.bt ?_
            refine AX.bx ?_
            refine AX.bx ?_
            refine AX.leave (e:=.ret) (by simp) ?_
            refine AX.bx ?_
            refine AX.bt ?_
            exact⟨false,.inl rfl⟩
          · skip
            refine aJ.yes rfl rfl rfl (cL sO) rfl (aB rfl HN rfl) ?_
            refine aJ.yes rfl rfl rfl (cL sO) rfl ((by first|exact cN rfl (ld Ja rfl rfl)|exact aS rfl (ld Ja rfl rfl))) ?_
            refine aJ.yes rfl rfl rfl (cL sO) rfl (av rfl) ?_
            refine aJ.yes rfl rfl rfl (cL sO) rfl (iL (m:=1) rfl rfl kB rfl (List.getElem?_eq_getElem (by omega))) ?_
            refine aJ.yes rfl rfl rfl (cL sO) rfl (ia rfl rfl) ?_
            refine aJ.go rfl (dU rfl sO rfl rfl) ?_
            refine aJ.go rfl (av rfl) ?_
            refine aJ.split 116 rfl (fun zq=> ?_) (fun zq=> ?_)
            · skip
              refine aJ.no rfl rfl rfl (aN zq) ?_
              refine aJ.no rfl rfl rfl (aN zq) ?_
              refine aJ.no rfl rfl rfl (aN zq) ?_
              refine aJ.go rfl (bz rfl zq rfl rfl) ?_
              refine aJ.go rfl (av rfl) ?_
              refine aJ.no rfl rfl rfl (aN rfl) ?_
              refine aJ.no rfl rfl rfl (aN rfl) ?_
              refine aJ.no rfl rfl rfl (aN rfl) ?_
              refine aJ.go rfl (bz rfl rfl rfl rfl) ?_
              refine aJ.nil (eE rfl rfl ?_)
              refine AX.nu rfl rfl ?_
              refine AX.seq ?_
              refine AX.region ?_
              refine ak.go (f:=0) ai (au rfl) ?_
              refine ak.nil ?_
              refine AX.ret ?_
              refine AX.bt ?_
              refine AX.bx ?_
              refine AX.bx ?_
              refine AX.leave (e:=.ret) (by simp) ?_
              refine AX.bx ?_
              refine AX.bt ?_
              exact⟨false,.inl rfl⟩
            · skip
              refine aJ.yes rfl rfl rfl (cL zq) rfl (av rfl) ?_
              refine aJ.yes rfl rfl rfl (cL zq) rfl (iL (m:=2) rfl rfl kB rfl (List.getElem?_eq_getElem (by omega))) ?_
              refine aJ.yes rfl rfl rfl (cL zq) rfl (ia rfl rfl) ?_
              refine aJ.go rfl (dU rfl zq rfl rfl) ?_
              refine aJ.go rfl (av rfl) ?_
              refine aJ.split 121 rfl (fun zu=> ?_) (fun zu=> ?_)
              · skip
                refine aJ.no rfl rfl rfl (aN zu) ?_
                refine aJ.no rfl rfl rfl (aN zu) ?_
                refine aJ.no rfl rfl rfl (aN zu) ?_
                refine aJ.go rfl (bz rfl zu rfl rfl) ?_
                refine aJ.nil (eE rfl rfl ?_)
                refine AX.nu rfl rfl ?_
                refine AX.seq ?_
                refine AX.region ?_
                refine ak.go (f:=0) ai (au rfl) ?_
                refine ak.nil ?_
                refine AX.ret ?_
                refine AX.bt ?_
                refine AX.bx ?_
                refine AX.bx ?_
                refine AX.leave (e:=.ret) (by simp) ?_
                refine AX.bx ?_
                refine AX.bt ?_
                exact⟨false,.inl rfl⟩
              · skip
                refine aJ.yes rfl rfl rfl (cL zu) rfl (av rfl) ?_
                refine aJ.yes rfl rfl rfl (cL zu) rfl (iL (m:=2) rfl rfl kB rfl (List.getElem?_eq_getElem (by omega))) ?_
                refine aJ.yes rfl rfl rfl (cL zu) rfl (ia rfl rfl) ?_
                refine aJ.go rfl (dU rfl zu rfl rfl) ?_
                refine aJ.nil (eE rfl rfl ?_)
                refine AX.cond rfl (fun abY=> ?_) (fun abY=> ?_)
                · skip
                  refine AX.seq ?_
                  refine AX.region ?_
                  refine ak.go (f:=0) ai (au rfl) ?_
                  refine ak.nil ?_
                  refine AX.ret ?_
                  refine AX.bt ?_
                  refine AX.bx ?_
                  refine AX.bx ?_
                  refine AX.leave (e:=.ret) (by simp) ?_
                  refine AX.bx ?_
                  refine AX.bt ?_
                  exact⟨false,.inl rfl⟩
                · skip
                  refine AX.skip ?_
                  refine AX.region ?_
                  refine ak.go (f:=0) ai (av rfl) ?_
                  refine ak.go (f:=0) ai ((show cF _ _ _ _ _ _ _ _ _ (.t (.str ((b::s').drop 3))) _ from qy (s:=(b::s')) (m:=3) rfl rfl kB rfl (by omega))) ?_
                  refine ak.go (f:=0) ai (au rfl) ?_
                  refine ak.nil ?_
                  refine AX.cC ?_
                  refine AX.cC ?_
                  exact⟨.inl ⟨((b::s').drop 3),trivial,by show(((b::s').drop 3)).length<_;first|(simp;done)|(simp only[List.length_drop,List.length_cons];omega)|(simp only[List.length_drop,List.length_cons] at*;omega)⟩,rfl,(Re.sq [] ⟨rfl,trivial⟩ trivial (by decide) rfl rfl (by decide))⟩
      ·
        refine AX.region ?_
        refine ak.go (f:=0) ai (av rfl) ?_
        refine ak.go (f:=0) ai (fZ rfl rfl (fa _ _)) ?_
        refine ak.go (f:=0) ai (show cF _ _ _ _ _ _ _ _ _ (.t (.int .i64 4)) _ from nI rfl (fun _ _ _=>by kernel_rfl)) ?_
        refine ak.go (f:=0) ai (au rfl) ?_
        refine ak.nil ?_
        refine AX.seq ?_
        refine AX.region ?_
        refine ak.go (f:=0) ai (av rfl) ?_
        refine ak.go (f:=0) ai (fZ rfl rfl (fs _ _)) ?_
        refine ak.go (f:=0) ai (nJ (m:=mm) rfl rfl Kj rfl qB RI) ?_
        refine ak.go (f:=0) ai (cN rfl (fl _)) ?_
        refine ak.go (f:=0) ai (gQ qB rfl rfl) ?_
        refine ak.lQ (f:=0) ai (br rfl rfl (mX qB rfl rfl)) ?_
        refine ak.nil ?_
        refine AX.seq ?_
        refine AX.region ?_
        refine ak.go (f:=0) ai (av rfl) ?_
        refine ak.nil ?_
        refine AX.block ?_
        refine AX.seq ?_
        refine AX.region ?_
        refine ak.go (f:=0) ai (gR rfl rfl) ?_
        refine ak.go (f:=0) ai (au rfl) ?_
        refine ak.nil ?_
        refine AX.nt rfl (by decide) ?_
        refine AX.seq ?_
        refine AX.region ?_
        refine ak.go (f:=0) ai (gR rfl rfl) ?_
        refine ak.go (f:=0) ai (au rfl) ?_
        refine ak.nil ?_
        refine AX.nt rfl (by decide) ?_
        refine AX.seq ?_
        refine AX.region ?_
        refine ak.go (f:=0) ai (gR rfl rfl) ?_
        refine ak.go (f:=0) ai (au rfl) ?_
        refine ak.nil ?_
        refine AX.nu rfl (by decide) ?_
        refine AX.seq ?_
        refine AX.seq ?_
        refine AX.draw (f:=0) ah ai ?_
        refine aJ.go rfl (av rfl) ?_
        refine aJ.go rfl (rW rfl kB rfl) ?_
        refine aJ.go rfl (ia rfl rfl) ?_
        refine aJ.go rfl (av rfl) ?_
        refine aJ.split 133 rfl (fun rJ=> ?_) (fun rJ=> ?_)
        · skip
          refine aJ.no rfl rfl rfl (aN rJ) ?_
          refine aJ.no rfl rfl rfl (aN rJ) ?_
          refine aJ.no rfl rfl rfl (aN rJ) ?_
          refine aJ.no rfl rfl rfl (aN rJ) ?_
          refine aJ.no rfl rfl rfl (aN rJ) ?_
          refine aJ.go rfl (bz rfl rJ rfl rfl) ?_
          refine aJ.go rfl (av rfl) ?_
          refine aJ.no rfl rfl rfl (aN rfl) ?_
          refine aJ.no rfl rfl rfl (aN rfl) ?_
          refine aJ.no rfl rfl rfl (aN rfl) ?_
          refine aJ.no rfl rfl rfl (aN rfl) ?_
          refine aJ.no rfl rfl rfl (aN rfl) ?_
          refine aJ.go rfl (bz rfl rfl rfl rfl) ?_
          refine aJ.go rfl (av rfl) ?_
          refine aJ.no rfl rfl rfl (aN rfl) ?_
          refine aJ.no rfl rfl rfl (aN rfl) ?_
          refine aJ.no rfl rfl rfl (aN rfl) ?_
          refine aJ.go rfl (bz rfl rfl rfl rfl) ?_
          refine aJ.go rfl (av rfl) ?_
          refine aJ.no rfl rfl rfl (aN rfl) ?_
          refine aJ.no rfl rfl rfl (aN rfl) ?_
          refine aJ.no rfl rfl rfl (aN rfl) ?_
          refine aJ.go rfl (bz rfl rfl rfl rfl) ?_
          refine aJ.go rfl (av rfl) ?_
          refine aJ.no rfl rfl rfl (aN rfl) ?_
          refine aJ.no rfl rfl rfl (aN rfl) ?_
          refine aJ.no rfl rfl rfl (aN rfl) ?_
          refine aJ.go rfl (bz rfl rfl rfl rfl) ?_
          refine aJ.go rfl (av rfl) ?_
          refine aJ.no rfl rfl rfl (aN rfl) ?_
          refine aJ.no rfl rfl rfl (aN rfl) ?_
          refine aJ.no rfl rfl rfl (aN rfl) ?_
          refine aJ.go rfl (bz rfl rfl rfl rfl) ?_
          refine aJ.nil (eE rfl rfl ?_)
          refine AX.nu rfl rfl ?_
          refine AX.seq ?_
          refine AX.region ?_
          refine ak.go (f:=0) ai (au rfl) ?_
          refine ak.nil ?_
          refine AX.ret ?_
          refine AX.bt ?_
          refine AX.bx ?_
          refine AX.bx ?_
          refine AX.leave (e:=.ret) (by simp) ?_
          refine AX.bx ?_
          refine AX.bt ?_
          exact⟨false,.inl rfl⟩
        · have hl4:4≤(b::s').length:=by have:=of_decide_eq_false rJ;omega
          refine aJ.yes rfl rfl rfl (cL rJ) rfl (av rfl) ?_
          refine aJ.yes rfl rfl rfl (cL rJ) rfl (iL (m:=1) rfl rfl kB rfl (List.getElem?_eq_getElem (by omega))) ?_
          refine aJ.yes rfl rfl rfl (cL rJ) rfl (aB rfl HM rfl) ?_
          refine aJ.yes rfl rfl rfl (cL rJ) rfl ((by first|exact cN rfl (ld Ja rfl rfl)|exact aS rfl (ld Ja rfl rfl))) ?_
          refine aJ.yes rfl rfl rfl (cL rJ) rfl (ia rfl rfl) ?_
          refine aJ.go rfl (dU rfl rJ rfl rfl) ?_
          refine aJ.go rfl (av rfl) ?_
          refine aJ.split 140 rfl (fun sP=> ?_) (fun sP=> ?_)
          · skip
            refine aJ.no rfl rfl rfl (aN sP) ?_
            refine aJ.no rfl rfl rfl (aN sP) ?_
            refine aJ.no rfl rfl rfl (aN sP) ?_
            refine aJ.no rfl rfl rfl (aN sP) ?_
            refine aJ.no rfl rfl rfl (aN sP) ?_
            refine aJ.go rfl (bz rfl sP rfl rfl) ?_
            refine aJ.go rfl (av rfl) ?_
            refine aJ.no rfl rfl rfl (aN rfl) ?_
            refine aJ.no rfl rfl rfl (aN rfl) ?_
            refine aJ.no rfl rfl rfl (aN rfl) ?_
            refine aJ.go rfl (bz rfl rfl rfl rfl) ?_
            refine aJ.go rfl (av rfl) ?_
            refine aJ.no rfl rfl rfl (aN rfl) ?_
            refine aJ.no rfl rfl rfl (aN rfl) ?_
            refine aJ.no rfl rfl rfl (aN rfl) ?_
            refine aJ.go rfl (bz rfl rfl rfl rfl) ?_
            refine aJ.go rfl (av rfl) ?_
            refine aJ.no rfl rfl rfl (aN rfl) ?_
            refine aJ.no rfl rfl rfl (aN rfl) ?_
            refine aJ.no rfl rfl rfl (aN rfl) ?_
            refine aJ.go rfl (bz rfl rfl rfl rfl) ?_
            refine aJ.go rfl (av rfl) ?_
            refine aJ.no rfl rfl rfl (aN rfl) ?_
            refine aJ.no rfl rfl rfl (aN rfl) ?_
            refine aJ.no rfl rfl rfl (aN rfl) ?_
            refine aJ.go rfl (bz rfl rfl rfl rfl) ?_
            refine aJ.nil (eE rfl rfl ?_)
            refine AX.nu rfl rfl ?_
            refine AX.seq ?_
            refine AX.region ?_
            refine ak.go (f:=0) ai (au rfl) ?_
            refine ak.nil ?_
            refine AX.ret ?_
            refine AX.bt ?_
            refine AX.bx ?_
            refine AX.bx ?_
            refine AX.leave (e:=.ret) (by simp) ?_
            refine AX.bx ?_
            refine AX.bt ?_
            exact⟨false,.inl rfl⟩
          · skip
            refine aJ.yes rfl rfl rfl (cL sP) rfl (aB rfl HN rfl) ?_
            refine aJ.yes rfl rfl rfl (cL sP) rfl ((by first|exact cN rfl (ld Ja rfl rfl)|exact aS rfl (ld Ja rfl rfl))) ?_
            refine aJ.yes rfl rfl rfl (cL sP) rfl (av rfl) ?_
            refine aJ.yes rfl rfl rfl (cL sP) rfl (iL (m:=1) rfl rfl kB rfl (List.getElem?_eq_getElem (by omega))) ?_
            refine aJ.yes rfl rfl rfl (cL sP) rfl (ia rfl rfl) ?_
            refine aJ.go rfl (dU rfl sP rfl rfl) ?_
            refine aJ.go rfl (av rfl) ?_
            refine aJ.split 147 rfl (fun zw=> ?_) (fun zw=> ?_)
            · skip
              refine aJ.no rfl rfl rfl (aN zw) ?_
              refine aJ.no rfl rfl rfl (aN zw) ?_
              refine aJ.no rfl rfl rfl (aN zw) ?_
              refine aJ.go rfl (bz rfl zw rfl rfl) ?_
              refine aJ.go rfl (av rfl) ?_
              refine aJ.no rfl rfl rfl (aN rfl) ?_
              refine aJ.no rfl rfl rfl (aN rfl) ?_
              refine aJ.no rfl rfl rfl (aN rfl) ?_
              refine aJ.go rfl (bz rfl rfl rfl rfl) ?_
              refine aJ.go rfl (av rfl) ?_
              refine aJ.no rfl rfl rfl (aN rfl) ?_
              refine aJ.no rfl rfl rfl (aN rfl) ?_
              refine aJ.no rfl rfl rfl (aN rfl) ?_
              refine aJ.go rfl (bz rfl rfl rfl rfl) ?_
              refine aJ.go rfl (av rfl) ?_
              refine aJ.no rfl rfl rfl (aN rfl) ?_
              refine aJ.no rfl rfl rfl (aN rfl) ?_
              refine aJ.no rfl rfl rfl (aN rfl) ?_
              refine aJ.go rfl (bz rfl rfl rfl rfl) ?_
              refine aJ.nil (eE rfl rfl ?_)
              refine AX.nu rfl rfl ?_
              refine AX.seq ?_
              refine AX.region ?_
              refine ak.go (f:=0) ai (au rfl) ?_
              refine ak.nil ?_
              refine AX.ret ?_
              refine AX.bt ?_
              refine AX.bx ?_
              refine AX.bx ?_
              refine AX.leave (e:=.ret) (by simp) ?_
              refine AX.bx ?_
              refine AX.bt ?_
              exact⟨false,.inl rfl⟩
            · skip
              refine aJ.yes rfl rfl rfl (cL zw) rfl (av rfl) ?_
              refine aJ.yes rfl rfl rfl (cL zw) rfl (iL (m:=2) rfl rfl kB rfl (List.getElem?_eq_getElem (by omega))) ?_
              refine aJ.yes rfl rfl rfl (cL zw) rfl (ia rfl rfl) ?_
              refine aJ.go rfl (dU rfl zw rfl rfl) ?_
              refine aJ.go rfl (av rfl) ?_
              refine aJ.split 152 rfl (fun zx=> ?_) (fun zx=> ?_)
              · skip
                refine aJ.no rfl rfl rfl (aN zx) ?_
                refine aJ.no rfl rfl rfl (aN zx) ?_
                refine aJ.no rfl rfl rfl (aN zx) ?_
                refine aJ.go rfl (bz rfl zx rfl rfl) ?_
                refine aJ.go rfl (av rfl) ?_
                refine aJ.no rfl rfl rfl (aN rfl) ?_
                refine aJ.no rfl rfl rfl (aN rfl) ?_
                refine aJ.no rfl rfl rfl (aN rfl) ?_
                refine aJ.go rfl (bz rfl rfl rfl rfl) ?_
                refine aJ.go rfl (av rfl) ?_
                refine aJ.no rfl rfl rfl (aN rfl) ?_
                refine aJ.no rfl rfl rfl (aN rfl) ?_
                refine aJ.no rfl rfl rfl (aN rfl) ?_
                refine aJ.go rfl (bz rfl rfl rfl rfl) ?_
                refine aJ.nil (eE rfl rfl ?_)
                refine AX.nu rfl rfl ?_
                refine AX.seq ?_
                refine AX.region ?_
                refine ak.go (f:=0) ai (au rfl) ?_
                refine ak.nil ?_
                refine AX.ret ?_
                refine AX.bt ?_
                refine AX.bx ?_
                refine AX.bx ?_
                refine AX.leave (e:=.ret) (by simp) ?_
                refine AX.bx ?_
                refine AX.bt ?_
                exact⟨false,.inl rfl⟩
              · skip
                refine aJ.yes rfl rfl rfl (cL zx) rfl (av rfl) ?_
                refine aJ.yes rfl rfl rfl (cL zx) rfl (iL (m:=2) rfl rfl kB rfl (List.getElem?_eq_getElem (by omega))) ?_
                refine aJ.yes rfl rfl rfl (cL zx) rfl (ia rfl rfl) ?_
                refine aJ.go rfl (dU rfl zx rfl rfl) ?_
                refine aJ.go rfl (av rfl) ?_
                refine aJ.split 157 rfl (fun zy=> ?_) (fun zy=> ?_)
                · skip
                  refine aJ.no rfl rfl rfl (aN zy) ?_
                  refine aJ.no rfl rfl rfl (aN zy) ?_
                  refine aJ.no rfl rfl rfl (aN zy) ?_
                  refine aJ.go rfl (bz rfl zy rfl rfl) ?_
                  refine aJ.go rfl (av rfl) ?_
                  refine aJ.no rfl rfl rfl (aN rfl) ?_
                  refine aJ.no rfl rfl rfl (aN rfl) ?_
                  refine aJ.no rfl rfl rfl (aN rfl) ?_
                  refine aJ.go rfl (bz rfl rfl rfl rfl) ?_
                  refine aJ.nil (eE rfl rfl ?_)
                  refine AX.nu rfl rfl ?_
                  refine AX.seq ?_
                  refine AX.region ?_
                  refine ak.go (f:=0) ai (au rfl) ?_
                  refine ak.nil ?_
                  refine AX.ret ?_
                  refine AX.bt ?_
                  refine AX.bx ?_
                  refine AX.bx ?_
                  refine AX.leave (e:=.ret) (by simp) ?_
                  refine AX.bx ?_
                  refine AX.bt ?_
                  exact⟨false,.inl rfl⟩
                · skip
                  refine aJ.yes rfl rfl rfl (cL zy) rfl (av rfl) ?_
                  refine aJ.yes rfl rfl rfl (cL zy) rfl (iL (m:=3) rfl rfl kB rfl (List.getElem?_eq_getElem (by omega))) ?_
                  refine aJ.yes rfl rfl rfl (cL zy) rfl (ia rfl rfl) ?_
                  refine aJ.go rfl (dU rfl zy rfl rfl) ?_
                  refine aJ.go rfl (av rfl) ?_
                  refine aJ.split 162 rfl (fun zz=> ?_) (fun zz=> ?_)
                  · skip
                    refine aJ.no rfl rfl rfl (aN zz) ?_
                    refine aJ.no rfl rfl rfl (aN zz) ?_
                    refine aJ.no rfl rfl rfl (aN zz) ?_
                    refine aJ.go rfl (bz rfl zz rfl rfl) ?_
                    refine aJ.nil (eE rfl rfl ?_)
                    refine AX.nu rfl rfl ?_
                    refine AX.seq ?_
                    refine AX.region ?_
                    refine ak.go (f:=0) ai (au rfl) ?_
                    refine ak.nil ?_
                    refine AX.ret ?_
                    refine AX.bt ?_
                    refine AX.bx ?_
                    refine AX.bx ?_
                    refine AX.leave (e:=.ret) (by simp) ?_
                    refine AX.bx ?_
                    refine AX.bt ?_
                    exact⟨false,.inl rfl⟩
                  · skip
                    refine aJ.yes rfl rfl rfl (cL zz) rfl (av rfl) ?_
                    refine aJ.yes rfl rfl rfl (cL zz) rfl (iL (m:=3) rfl rfl kB rfl (List.getElem?_eq_getElem (by omega))) ?_
                    refine aJ.yes rfl rfl rfl (cL zz) rfl (ia rfl rfl) ?_
                    refine aJ.go rfl (dU rfl zz rfl rfl) ?_
                    refine aJ.nil (eE rfl rfl ?_)
                    refine AX.cond rfl (fun ajV=> ?_) (fun ajV=> ?_)
                    · skip
                      refine AX.seq ?_
                      refine AX.region ?_
                      refine ak.go (f:=0) ai (au rfl) ?_
                      refine ak.nil ?_
                      refine AX.ret ?_
                      refine AX.bt ?_
                      refine AX.bx ?_
                      refine AX.bx ?_
                      refine AX.leave (e:=.ret) (by simp) ?_
                      refine AX.bx ?_
                      refine AX.bt ?_
                      exact⟨false,.inl rfl⟩
                    · skip
                      refine AX.skip ?_
                      refine AX.region ?_
                      refine ak.go (f:=0) ai (av rfl) ?_
                      refine ak.go (f:=0) ai ((show cF _ _ _ _ _ _ _ _ _ (.t (.str ((b::s').drop 4))) _ from qy (s:=(b::s')) (m:=4) rfl rfl kB rfl (by omega))) ?_
                      refine ak.go (f:=0) ai (au rfl) ?_
                      refine ak.nil ?_
                      refine AX.cC ?_
                      refine AX.cC ?_
                      exact⟨.inl ⟨((b::s').drop 4),trivial,by show(((b::s').drop 4)).length<_;first|(simp;done)|(simp only[List.length_drop,List.length_cons];omega)|(simp only[List.length_drop,List.length_cons] at*;omega)⟩,rfl,(Re.sq [] ⟨rfl,trivial⟩ trivial (by decide) rfl rfl (by decide))⟩
  · skip
    refine AX.exit ?_
    refine AX.eP ?_
    refine AX.leave (e:=.exit 0) (by simp) ?_
    refine AX.fV ?_
    refine AX.seq ?_
    refine AX.region ?_
    refine ak.go (f:=0) ai (au rfl) ?_
    refine ak.nil ?_
    refine AX.ret ?_
    exact⟨true,.inl rfl⟩
end
end Go.Proofs.YtijfhoelihclbaaGreatDoor.w
