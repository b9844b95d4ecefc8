/- More of it. -/
import Derived.Test.YtijfhoelihclbaaGreatDoorN
namespace Go.Proofs.YtijfhoelihclbaaGreatDoor.w
open Go Go.Abs
set_option linter.unusedVariables false
set_option maxRecDepth 100000
set_option maxHeartbeats 1000000
noncomputable section
abbrev ti5:TI:={size:=1,bytes:=1,agg:=false,zero:=some (.t (.int .u8 0)),desc:=.int .u8}
theorem Ip {m:Int}:(cf m).P.ty 5=some ti5:=by kernel_rfl
abbrev ad6:TI:={size:=256,bytes:=256,agg:=true,zero:=some (.t (.agg [.int .u8 0,.int .u8 0,.int .u8 0,.int .u8 0,.int .u8 0,.int .u8 0,.int .u8 0,.int .u8 0,.int .u8 0,.int .u8 0,.int .u8 0,.int .u8 0,.int .u8 0,.int .u8 0,.int .u8 0,.int .u8 0,.int .u8 0,.int .u8 0,.int .u8 0,.int .u8 0,.int .u8 0,.int .u8 0,.int .u8 0,.int .u8 0,.int .u8 0,.int .u8 0,.int .u8 0,.int .u8 0,.int .u8 0,.int .u8 0,.int .u8 0,.int .u8 0,.int .u8 0,.int .u8 0,.int .u8 0,.int .u8 0,.int .u8 0,.int .u8 0,.int .u8 0,.int .u8 0,.int .u8 0,.int .u8 0,.int .u8 0,.int .u8 0,.int .u8 0,.int .u8 0,.int .u8 0,.int .u8 0,.int .u8 0,.int .u8 0,.int .u8 0,.int .u8 0,.int .u8 0,.int .u8 0,.int .u8 0,.int .u8 0,.int .u8 0,.int .u8 0,.int .u8 0,.int .u8 0,.int .u8 0,.int .u8 0,.int .u8 0,.int .u8 0,.int .u8 0,.int .u8 0,.int .u8 0,.int .u8 0,.int .u8 0,.int .u8 0,.int .u8 0,.int .u8 0,.int .u8 0,.int .u8 0,.int .u8 0,.int .u8 0,.int .u8 0,.int .u8 0,.int .u8 0,.int .u8 0,.int .u8 0,.int .u8 0,.int .u8 0,.int .u8 0,.int .u8 0,.int .u8 0,.int .u8 0,.int .u8 0,.int .u8 0,.int .u8 0,.int .u8 0,.int .u8 0,.int .u8 0,.int .u8 0,.int .u8 0,.int .u8 0,.int .u8 0,.int .u8 0,.int .u8 0,.int .u8 0,.int .u8 0,.int .u8 0,.int .u8 0,.int .u8 0,.int .u8 0,.int .u8 0,.int .u8 0,.int .u8 0,.int .u8 0,.int .u8 0,.int .u8 0,.int .u8 0,.int .u8 0,.int .u8 0,.int .u8 0,.int .u8 0,.int .u8 0,.int .u8 0,.int .u8 0,.int .u8 0,.int .u8 0,.int .u8 0,.int .u8 0,.int .u8 0,.int .u8 0,.int .u8 0,.int .u8 0,.int .u8 0,.int .u8 0,.int .u8 0,.int .u8 0,.int .u8 0,.int .u8 0,.int .u8 0,.int .u8 0,.int .u8 0,.int .u8 0,.int .u8 0,.int .u8 0,.int .u8 0,.int .u8 0,.int .u8 0,.int .u8 0,.int .u8 0,.int .u8 0,.int .u8 0,.int .u8 0,.int .u8 0,.int .u8 0,.int .u8 0,.int .u8 0,.int .u8 0,.int .u8 0,.int .u8 0,.int .u8 0,.int .u8 0,.int .u8 0,.int .u8 0,.int .u8 0,.int .u8 0,.int .u8 0,.int .u8 0,.int .u8 0,.int .u8 0,.int .u8 0,.int .u8 0,.int .u8 0,.int .u8 0,.int .u8 0,.int .u8 0,.int .u8 0,.int .u8 0,.int .u8 0,.int .u8 0,.int .u8 0,.int .u8 0,.int .u8 0,.int .u8 0,.int .u8 0,.int .u8 0,.int .u8 0,.int .u8 0,.int .u8 0,.int .u8 0,.int .u8 0,.int .u8 0,.int .u8 0,.int .u8 0,.int .u8 0,.int .u8 0,.int .u8 0,.int .u8 0,.int .u8 0,.int .u8 0,.int .u8 0,.int .u8 0,.int .u8 0,.int .u8 0,.int .u8 0,.int .u8 0,.int .u8 0,.int .u8 0,.int .u8 0,.int .u8 0,.int .u8 0,.int .u8 0,.int .u8 0,.int .u8 0,.int .u8 0,.int .u8 0,.int .u8 0,.int .u8 0,.int .u8 0,.int .u8 0,.int .u8 0,.int .u8 0,.int .u8 0,.int .u8 0,.int .u8 0,.int .u8 0,.int .u8 0,.int .u8 0,.int .u8 0,.int .u8 0,.int .u8 0,.int .u8 0,.int .u8 0,.int .u8 0,.int .u8 0,.int .u8 0,.int .u8 0,.int .u8 0,.int .u8 0,.int .u8 0,.int .u8 0,.int .u8 0,.int .u8 0,.int .u8 0,.int .u8 0,.int .u8 0,.int .u8 0,.int .u8 0,.int .u8 0,.int .u8 0,.int .u8 0,.int .u8 0,.int .u8 0,.int .u8 0,.int .u8 0,.int .u8 0,.int .u8 0,.int .u8 0,.int .u8 0,.int .u8 0,.int .u8 0,.int .u8 0])),desc:=descOf 127}
theorem ad7 {m:Int}:(cf m).P.ty 127=some ad6:=by kernel_rfl
abbrev ad8:TI:={size:=2,bytes:=2,agg:=true,zero:=some (.t (.agg [.int .u8 0,.int .u8 0])),desc:=descOf 129}
theorem pI {m:Int}:(cf m).P.ty 129=some ad8:=by kernel_rfl
abbrev ad9:TI:={size:=32,bytes:=32,agg:=true,zero:=some (.t (.agg [.int .u8 0,.int .u8 0,.int .u8 0,.int .u8 0,.int .u8 0,.int .u8 0,.int .u8 0,.int .u8 0,.int .u8 0,.int .u8 0,.int .u8 0,.int .u8 0,.int .u8 0,.int .u8 0,.int .u8 0,.int .u8 0,.int .u8 0,.int .u8 0,.int .u8 0,.int .u8 0,.int .u8 0,.int .u8 0,.int .u8 0,.int .u8 0,.int .u8 0,.int .u8 0,.int .u8 0,.int .u8 0,.int .u8 0,.int .u8 0,.int .u8 0,.int .u8 0])),desc:=descOf 130}
theorem Jy {m:Int}:(cf m).P.ty 130=some ad9:=by kernel_rfl
theorem GY {m:Int}:fN (cf m).P 129 0=some 0:=by kernel_rfl
theorem GZ {m:Int}:fN (cf m).P 129 1=some 1:=by kernel_rfl
theorem Td {s:List UInt8}(h:(s.length:Int)>0):∃b s',s=b::s':=by
 cases s with
 |nil=>simp at h
 |cons b s'=>exact⟨b,s',rfl⟩
theorem Qc:((List.range 256).all fun i=>match live.rA[i]? with|some (.int .u8 x)=>[240,241,2,19,3,35,52,4,68].contains x|_=>false)=true:=by kernel_rfl
theorem Te (b:UInt8):∃x:Int,live.rA[0+b.toNat*1]?=some (.int .u8 x)∧x∈([240,241,2,19,3,35,52,4,68]:List Int):=by
  have h:=List.all_eq_true.1 Qc b.toNat (by simpa using b.toNat_lt)
  rw[Nat.zero_add,Nat.mul_one]
  split at h
  · rename_i x hx
    exact⟨x,hx,by simpa using h⟩
  · cases h
theorem Qd {m:Int}{x:Int}(h:x∈([240,241,2,19,3,35,52,4,68]:List Int)):∃(n:Int) (mm:Nat) (lo hi:Int),(∀a b,F4 (cf m).P .and 5 a b (.t (.int .u8 x)) (.t (.int .u8 7))=some (.t (.int .u8 n)))∧(∀a b,F4 (cf m).P .shr 5 a b (.t (.int .u8 x)) (.t (.int .u64 4))=some (.t (.int .u8 (mm:Int))))∧
  mm<16∧(∀H,loadT (cf m).P H 129 (.jL live.rB (0+mm*2))=some (.t (.agg [.int .u8 lo,.int .u8 hi])))∧n∈([0,1,2,3,4]:List Int):=by
 simp only[List.mem_cons,List.not_mem_nil,or_false] at h
 rcases h with rfl|rfl|rfl|rfl|rfl|rfl|rfl|rfl|rfl
 · exact⟨0,15,0,0,fun _ _=>by kernel_rfl,fun _ _=>by kernel_rfl,by decide,fun _=>by kernel_rfl,by decide⟩
 · exact⟨1,15,0,0,fun _ _=>by kernel_rfl,fun _ _=>by kernel_rfl,by decide,fun _=>by kernel_rfl,by decide⟩
 · exact⟨2,0,128,191,fun _ _=>by kernel_rfl,fun _ _=>by kernel_rfl,by decide,fun _=>by kernel_rfl,by decide⟩
 · exact⟨3,1,160,191,fun _ _=>by kernel_rfl,fun _ _=>by kernel_rfl,by decide,fun _=>by kernel_rfl,by decide⟩
 · exact⟨3,0,128,191,fun _ _=>by kernel_rfl,fun _ _=>by kernel_rfl,by decide,fun _=>by kernel_rfl,by decide⟩
 · exact⟨3,2,128,159,fun _ _=>by kernel_rfl,fun _ _=>by kernel_rfl,by decide,fun _=>by kernel_rfl,by decide⟩
 · exact⟨4,3,144,191,fun _ _=>by kernel_rfl,fun _ _=>by kernel_rfl,by decide,fun _=>by kernel_rfl,by decide⟩
 · exact⟨4,0,128,191,fun _ _=>by kernel_rfl,fun _ _=>by kernel_rfl,by decide,fun _=>by kernel_rfl,by decide⟩
 · exact⟨4,4,128,143,fun _ _=>by kernel_rfl,fun _ _=>by kernel_rfl,by decide,fun _=>by kernel_rfl,by decide⟩
theorem Jz {m       : Int}(ev:aS)(ai:aF (cf m) ev)(wz:List UInt8→Int)(hw:∀s,8≤s.length→ev 73 [.t (.str s)] []=some (.ret (.t (.int .u64 (wz s))) [] []))(s0:List UInt8):
    ∃r:Bool,ay (cf m) 29 [.t (.str s0)] [] (.ret (.t (.bool r)) [] []):=by
  refine AX.start 169 1 Tryz.func29 rfl (by decide) rfl rfl (by decide) ?_
  refine AX.seq ?_
  refine AX.region ?_
  refine au.go (f:=0) ai (aj rfl) ?_
  refine au.nil ?_
  refine AX.seq ?_
  refine AX.block ?_
  refine AX.loop (α:=List UInt8) (fun s=>⟨bX 169 [(0,.t (.str s))],[],0⟩) (fun s=>True) (fun s=>s.length) s0 (Re.sq [] ⟨rfl,trivial⟩ trivial (by decide) rfl rfl (by decide)) trivial (fun s hok=> ?_)
  refine AX.seq ?_
  refine AX.seq ?_
  refine AX.region ?_
  refine au.go (f:=0) ai (ak rfl) ?_
  refine au.go (f:=0) ai (qE rfl j9 rfl) ?_
  refine au.go (f:=0) ai (Fj rfl rfl) ?_
  refine au.nil ?_
  refine AX.cond rfl (fun h9=> ?_) (fun h9=> ?_)
  · obtain⟨ b,s',rfl⟩:=Td (of_decide_eq_true h9)
    refine AX.skip ?_
    refine AX.block ?_
    refine AX.seq ?_
    refine AX.region ?_
    refine au.go (f:=0) ai (ak rfl) ?_
    refine au.go (f:=0) ai (gP rfl rfl j9 rfl rfl) ?_
    refine au.go (f:=0) ai (aj rfl) ?_
    refine au.nil ?_
    refine AX.seq ?_
    refine AX.seq ?_
    refine AX.region ?_
    refine au.go (f:=0) ai (ak rfl) ?_
    refine au.go (f:=0) ai (gi rfl rfl) ?_
    refine au.nil ?_
    refine AX.cond rfl (fun h13=> ?_) (fun h13=> ?_)
    · skip
      refine AX.seq ?_
      refine AX.region ?_
      refine au.go (f:=0) ai (ak rfl) ?_
      refine au.go (f:=0) ai ((show cq _ _ _ _ _ _ _ _ _ (.t (.str s')) _ from pG (s:=(b::s')) (m:=1) rfl rfl j9 rfl (by simp))) ?_
      refine au.go (f:=0) ai (aj rfl) ?_
      refine au.nil ?_
      refine AX.seq ?_
      refine AX.seq ?_
      refine AX.region ?_
      refine au.go (f:=0) ai (ak rfl) ?_
      refine au.go (f:=0) ai (qE rfl j9 rfl) ?_
      refine au.go (f:=0) ai (Fj rfl rfl) ?_
      refine au.go (f:=0) ai (ak rfl) ?_
      refine au.split 19 rfl (fun Br=> ?_) (fun Br=> ?_)
      · have ak0:8<s'.length:=by have:=of_decide_eq_true Br;omega
        refine au.yes (f:=0) ai rfl rfl rfl (cE Br) (ak rfl) ?_
        refine au.yes (f:=0) ai rfl rfl rfl (cE Br) (bU (tJ rfl) (hw _ (by first|omega|(simp only[List.length_drop];omega)))) ?_
        refine au.yes (f:=0) ai rfl rfl rfl (cE Br) (fu rfl rfl rfl) ?_
        refine au.yes (f:=0) ai rfl rfl rfl (cE Br) (fT rfl rfl) ?_
        refine au.go (f:=0) ai (bq rfl Br rfl rfl) ?_
        refine au.nil ?_
        refine AX.cond rfl (fun h24=> ?_) (fun h24=> ?_)
        · skip
          refine AX.seq ?_
          refine AX.region ?_
          refine au.go (f:=0) ai (ak rfl) ?_
          refine au.go (f:=0) ai ((show cq _ _ _ _ _ _ _ _ _ (.t (.str (s'.drop 8))) _ from pG (s:=s') (m:=8) rfl rfl j9 rfl (by first|omega|(simp only[List.length_drop];omega)))) ?_
          refine au.go (f:=0) ai (aj rfl) ?_
          refine au.nil ?_
          refine AX.seq ?_
          refine AX.draw (f:=0) ah ai ?_
          refine aJ.go rfl (ak rfl) ?_
          refine aJ.go rfl (qE rfl j9 rfl) ?_
          refine aJ.go rfl (Fj rfl rfl) ?_
          refine aJ.go rfl (ak rfl) ?_
          refine aJ.split 30 rfl (fun gp=> ?_) (fun gp=> ?_)
          · have ai1:16+8<s'.length:=by have:=of_decide_eq_true gp;simp only[List.length_drop] at this;omega
            refine aJ.yes rfl rfl rfl (cE gp) rfl (ak rfl) ?_
            refine aJ.yes rfl rfl rfl (cE gp) rfl (bU (tJ rfl) (hw _ (by first|omega|(simp only[List.length_drop];omega)))) ?_
            refine aJ.yes rfl rfl rfl (cE gp) rfl (ak rfl) ?_
            refine aJ.yes rfl rfl rfl (cE gp) rfl (pG (m:=8) rfl rfl j9 rfl (by first|omega|(simp only[List.length_drop];omega))) ?_
            refine aJ.yes rfl rfl rfl (cE gp) rfl (bU (tJ rfl) (hw _ (by first|omega|(simp only[List.length_drop];omega)))) ?_
            refine aJ.yes rfl rfl rfl (cE gp) rfl (fu rfl rfl rfl) ?_
            refine aJ.yes rfl rfl rfl (cE gp) rfl (fu rfl rfl rfl) ?_
            refine aJ.yes rfl rfl rfl (cE gp) rfl (fT rfl rfl) ?_
            refine aJ.go rfl (bq rfl gp rfl rfl) ?_
            refine aJ.nil (dP rfl rfl ?_)
            refine AX.cond rfl (fun h39=> ?_) (fun h39=> ?_)
            · skip
              refine AX.seq ?_
              refine AX.region ?_
              refine au.go (f:=0) ai (ak rfl) ?_
              refine au.go (f:=0) ai ((show cq _ _ _ _ _ _ _ _ _ (.t (.str ((s'.drop 8).drop 16))) _ from pG (s:=(s'.drop 8)) (m:=16) rfl rfl j9 rfl (by first|omega|(simp only[List.length_drop];omega)))) ?_
              refine au.go (f:=0) ai (aj rfl) ?_
              refine au.nil ?_
              refine AX.block ?_
              refine AX.loop (α:=List UInt8) (fun u=>⟨bX 169 [(0,.t (.str u))],[],0⟩) (fun u=>u.length≤s'.length) (fun u=>u.length) ((s'.drop 8).drop 16) (Re.sq [] ⟨rfl,trivial⟩ trivial (by decide) rfl rfl (by decide)) (by show List.length _≤_;simp only[List.length_drop];omega) (fun u hok=> ?_)
              refine AX.seq ?_
              refine AX.seq ?_
              refine AX.draw (f:=0) ah ai ?_
              refine aJ.go rfl (ak rfl) ?_
              refine aJ.go rfl (qE rfl j9 rfl) ?_
              refine aJ.go rfl (Fj rfl rfl) ?_
              refine aJ.go rfl (ak rfl) ?_
              refine aJ.split 45 rfl (fun jt=> ?_) (fun jt=> ?_)
              · have ai2:32<u.length:=by have:=of_decide_eq_true jt;omega
                refine aJ.yes rfl rfl rfl (cE jt) rfl (ak rfl) ?_
                refine aJ.yes rfl rfl rfl (cE jt) rfl (bU (tJ rfl) (hw _ (by first|omega|(simp only[List.length_drop];omega)))) ?_
                refine aJ.yes rfl rfl rfl (cE jt) rfl (ak rfl) ?_
                refine aJ.yes rfl rfl rfl (cE jt) rfl (pG (m:=8) rfl rfl j9 rfl (by first|omega|(simp only[List.length_drop];omega))) ?_
                refine aJ.yes rfl rfl rfl (cE jt) rfl (bU (tJ rfl) (hw _ (by first|omega|(simp only[List.length_drop];omega)))) ?_
                refine aJ.yes rfl rfl rfl (cE jt) rfl (fu rfl rfl rfl) ?_
                refine aJ.yes rfl rfl rfl (cE jt) rfl (ak rfl) ?_
                refine aJ.yes rfl rfl rfl (cE jt) rfl (pG (m:=16) rfl rfl j9 rfl (by first|omega|(simp only[List.length_drop];omega))) ?_
                refine aJ.yes rfl rfl rfl (cE jt) rfl (bU (tJ rfl) (hw _ (by first|omega|(simp only[List.length_drop];omega)))) ?_
                refine aJ.yes rfl rfl rfl (cE jt) rfl (ak rfl) ?_
                refine aJ.yes rfl rfl rfl (cE jt) rfl (pG (m:=24) rfl rfl j9 rfl (by first|omega|(simp only[List.length_drop];omega))) ?_
                refine aJ.yes rfl rfl rfl (cE jt) rfl (bU (tJ rfl) (hw _ (by first|omega|(simp only[List.length_drop];omega)))) ?_
                refine aJ.yes rfl rfl rfl (cE jt) rfl (fu rfl rfl rfl) ?_
                refine aJ.yes rfl rfl rfl (cE jt) rfl (fu rfl rfl rfl) ?_
                refine aJ.yes rfl rfl rfl (cE jt) rfl (fu rfl rfl rfl) ?_
                refine aJ.yes rfl rfl rfl (cE jt) rfl (fT rfl rfl) ?_
                refine aJ.go rfl (bq rfl jt rfl rfl) ?_
                refine aJ.nil (dP rfl rfl ?_)
                refine AX.cond rfl (fun h62=> ?_) (fun h62=> ?_)
                · skip
                  refine AX.skip ?_
                  refine AX.block ?_
                  refine AX.region ?_
                  refine au.go (f:=0) ai (ak rfl) ?_
                  refine au.go (f:=0) ai ((show cq _ _ _ _ _ _ _ _ _ (.t (.str (u.drop 32))) _ from pG (s:=u) (m:=32) rfl rfl j9 rfl (by omega))) ?_
                  refine au.go (f:=0) ai (aj rfl) ?_
                  refine au.nil ?_
                  refine AX.b9 ?_
                  exact⟨.inl ⟨u.drop 32,by show(u.drop 32).length≤_∧(u.drop 32).length<_;rw[List.length_drop];omega⟩,rfl,(Re.sq [] ⟨rfl,trivial⟩ trivial (by decide) rfl rfl (by decide))⟩
                · skip
                  refine AX.exit ?_
                  refine AX.dU ?_
                  refine AX.leave (e:=.exit 2) (by simp) ?_
                  refine AX.fk ?_
                  refine AX.exit ?_
                  refine AX.dU ?_
                  refine AX.fk ?_
                  exact⟨.inl ⟨u,trivial,by show(u).length<_;first|(simp;done)|(simp only[List.length_drop,List.length_cons];omega)|(simp only[List.length_drop,List.length_cons] at*;omega)⟩,rfl,(Re.sq [] ⟨rfl,trivial⟩ trivial (by decide) rfl rfl (by decide))⟩
              · skip
                refine aJ.no rfl rfl rfl (cM jt) ?_
                refine aJ.no rfl rfl rfl (cM jt) ?_
                refine aJ.no rfl rfl rfl (cM jt) ?_
                refine aJ.no rfl rfl rfl (cM jt) ?_
                refine aJ.no rfl rfl rfl (cM jt) ?_
                refine aJ.no rfl rfl rfl (cM jt) ?_
                refine aJ.no rfl rfl rfl (cM jt) ?_
                refine aJ.no rfl rfl rfl (cM jt) ?_
                refine aJ.no rfl rfl rfl (cM jt) ?_
                refine aJ.no rfl rfl rfl (cM jt) ?_
                refine aJ.no rfl rfl rfl (cM jt) ?_
                refine aJ.no rfl rfl rfl (cM jt) ?_
                refine aJ.no rfl rfl rfl (cM jt) ?_
                refine aJ.no rfl rfl rfl (cM jt) ?_
                refine aJ.no rfl rfl rfl (cM jt) ?_
                refine aJ.no rfl rfl rfl (cM jt) ?_
                refine aJ.go rfl (dI rfl jt rfl rfl) ?_
                refine aJ.nil (dP rfl rfl ?_)
                refine AX.l8 rfl rfl ?_
                refine AX.exit ?_
                refine AX.dU ?_
                refine AX.leave (e:=.exit 2) (by simp) ?_
                refine AX.fk ?_
                refine AX.exit ?_
                refine AX.dU ?_
                refine AX.fk ?_
                exact⟨.inl ⟨u,trivial,by show(u).length<_;first|(simp;done)|(simp only[List.length_drop,List.length_cons];omega)|(simp only[List.length_drop,List.length_cons] at*;omega)⟩,rfl,(Re.sq [] ⟨rfl,trivial⟩ trivial (by decide) rfl rfl (by decide))⟩
            · skip
              refine AX.skip ?_
              refine AX.exit ?_
              refine AX.dU ?_
              refine AX.fk ?_
              exact⟨.inl ⟨(s'.drop 8),trivial,by show((s'.drop 8)).length<_;first|(simp;done)|(simp only[List.length_drop,List.length_cons];omega)|(simp only[List.length_drop,List.length_cons] at*;omega)⟩,rfl,(Re.sq [] ⟨rfl,trivial⟩ trivial (by decide) rfl rfl (by decide))⟩
          · skip
            refine aJ.no rfl rfl rfl (cM gp) ?_
            refine aJ.no rfl rfl rfl (cM gp) ?_
            refine aJ.no rfl rfl rfl (cM gp) ?_
            refine aJ.no rfl rfl rfl (cM gp) ?_
            refine aJ.no rfl rfl rfl (cM gp) ?_
            refine aJ.no rfl rfl rfl (cM gp) ?_
            refine aJ.no rfl rfl rfl (cM gp) ?_
            refine aJ.no rfl rfl rfl (cM gp) ?_
            refine aJ.go rfl (dI rfl gp rfl rfl) ?_
            refine aJ.nil (dP rfl rfl ?_)
            refine AX.l8 rfl rfl ?_
            refine AX.skip ?_
            refine AX.exit ?_
            refine AX.dU ?_
            refine AX.fk ?_
            exact⟨.inl ⟨(s'.drop 8),trivial,by show((s'.drop 8)).length<_;first|(simp;done)|(simp only[List.length_drop,List.length_cons];omega)|(simp only[List.length_drop,List.length_cons] at*;omega)⟩,rfl,(Re.sq [] ⟨rfl,trivial⟩ trivial (by decide) rfl rfl (by decide))⟩
        · skip
          refine AX.skip ?_
          refine AX.exit ?_
          refine AX.dU ?_
          refine AX.fk ?_
          exact⟨.inl ⟨s',trivial,by show(s').length<_;first|(simp;done)|(simp only[List.length_drop,List.length_cons];omega)|(simp only[List.length_drop,List.length_cons] at*;omega)⟩,rfl,(Re.sq [] ⟨rfl,trivial⟩ trivial (by decide) rfl rfl (by decide))⟩
      · skip
        refine au.no rfl rfl rfl (cM Br) ?_
        refine au.no rfl rfl rfl (cM Br) ?_
        refine au.no rfl rfl rfl (cM Br) ?_
        refine au.no rfl rfl rfl (cM Br) ?_
        refine au.go (f:=0) ai (dI rfl Br rfl rfl) ?_
        refine au.nil ?_
        refine AX.l8 rfl rfl ?_
        refine AX.skip ?_
        refine AX.exit ?_
        refine AX.dU ?_
        refine AX.fk ?_
        exact⟨.inl ⟨s',trivial,by show(s').length<_;first|(simp;done)|(simp only[List.length_drop,List.length_cons];omega)|(simp only[List.length_drop,List.length_cons] at*;omega)⟩,rfl,(Re.sq [] ⟨rfl,trivial⟩ trivial (by decide) rfl rfl (by decide))⟩
    · skip
      refine AX.skip ?_
      refine AX.seq ?_
      obtain⟨x,hx,hm⟩:=Te b
      refine AX.region ?_
      refine au.go (f:=0) ai (ak rfl) ?_
      refine au.go (f:=0) ai (mH rfl rfl ad7 rfl Ip b.toNat_lt) ?_
      refine au.go (f:=0) ai (cD rfl (ld Ip rfl (SA hx))) ?_
      refine au.go (f:=0) ai (aj rfl) ?_
      refine au.nil ?_
      refine AX.seq ?_
      obtain⟨n,mm,lo,hi,fa,fs,QV,fl,hn⟩:=Qd (m:=m) hm
      simp only[List.mem_cons,List.not_mem_nil,or_false] at hn
      rcases hn with rfl|rfl|rfl|rfl|rfl
      ·
        refine AX.region ?_
        refine au.go (f:=0) ai (ak rfl) ?_
        refine au.go (f:=0) ai (fu rfl rfl (fa _ _)) ?_
        refine au.go (f:=0) ai (show cq _ _ _ _ _ _ _ _ _ (.t (.int .i64 0)) _ from mG rfl (fun _ _ _=>by kernel_rfl)) ?_
        refine au.go (f:=0) ai (aj rfl) ?_
        refine au.nil ?_
        refine AX.seq ?_
        refine AX.region ?_
        refine au.go (f:=0) ai (ak rfl) ?_
        refine au.go (f:=0) ai (fu rfl rfl (fs _ _)) ?_
        refine au.go (f:=0) ai (mH (m:=mm) rfl rfl Jy rfl pI QV) ?_
        refine au.go (f:=0) ai (cD rfl (fl _)) ?_
        refine au.go (f:=0) ai (ic pI rfl rfl) ?_
        refine au.qd (f:=0) ai (bT rfl rfl (sx pI rfl rfl)) ?_
        refine au.nil ?_
        refine AX.seq ?_
        refine AX.region ?_
        refine au.go (f:=0) ai (ak rfl) ?_
        refine au.nil ?_
        refine AX.block ?_
        refine AX.seq ?_
        refine AX.region ?_
        refine au.go (f:=0) ai (fT rfl rfl) ?_
        refine au.go (f:=0) ai (aj rfl) ?_
        refine au.nil ?_
        refine AX.l8 rfl (by decide) ?_
        refine AX.seq ?_
        refine AX.region ?_
        refine au.go (f:=0) ai (fT rfl rfl) ?_
        refine au.go (f:=0) ai (aj rfl) ?_
        refine au.nil ?_
        refine AX.l8 rfl (by decide) ?_
        refine AX.seq ?_
        refine AX.region ?_
        refine au.go (f:=0) ai (fT rfl rfl) ?_
        refine au.go (f:=0) ai (aj rfl) ?_
        refine au.nil ?_
        refine AX.l8 rfl (by decide) ?_
        refine AX.seq ?_
        refine AX.region ?_
        refine au.go (f:=0) ai (aj rfl) ?_
        refine au.nil ?_
        refine AX.ret ?_
        refine AX.bp ?_
        refine AX.bp ?_
        refine AX.leave (e:=.ret) (by simp) ?_
        refine AX.bp ?_
        refine AX.bn ?_
        exact⟨false,.inl rfl⟩
      ·
        refine AX.region ?_
        refine au.go (f:=0) ai (ak rfl) ?_
        refine au.go (f:=0) ai (fu rfl rfl (fa _ _)) ?_
        refine au.go (f:=0) ai (show cq _ _ _ _ _ _ _ _ _ (.t (.int .i64 1)) _ from mG rfl (fun _ _ _=>by kernel_rfl)) ?_
        refine au.go (f:=0) ai (aj rfl) ?_
        refine au.nil ?_
        refine AX.seq ?_
        refine AX.region ?_
        refine au.go (f:=0) ai (ak rfl) ?_
        refine au.go (f:=0) ai (fu rfl rfl (fs _ _)) ?_
        refine au.go (f:=0) ai (mH (m:=mm) rfl rfl Jy rfl pI QV) ?_
        refine au.go (f:=0) ai (cD rfl (fl _)) ?_
        refine au.go (f:=0) ai (ic pI rfl rfl) ?_
        refine au.qd (f:=0) ai (bT rfl rfl (sx pI rfl rfl)) ?_
        refine au.nil ?_
        refine AX.seq ?_
        refine AX.region ?_
        refine au.go (f:=0) ai (ak rfl) ?_
        refine au.nil ?_
        refine AX.block ?_
        refine AX.seq ?_
        refine AX.region ?_
        refine au.go (f:=0) ai (fT rfl rfl) ?_
        refine au.go (f:=0) ai (aj rfl) ?_
        refine au.nil ?_
        refine AX.l8 rfl (by decide) ?_
        refine AX.seq ?_
        refine AX.region ?_
        refine au.go (f:=0) ai (fT rfl rfl) ?_
        refine au.go (f:=0) ai (aj rfl) ?_
        refine au.nil ?_
        refine AX.l8 rfl (by decide) ?_
        refine AX.seq ?_
        refine AX.region ?_
        refine au.go (f:=0) ai (fT rfl rfl) ?_
        refine au.go (f:=0) ai (aj rfl) ?_
        refine au.nil ?_
        refine AX.l8 rfl (by decide) ?_
        refine AX.seq ?_
        refine AX.region ?_
        refine au.go (f:=0) ai (aj rfl) ?_
        refine au.nil ?_
        refine AX.ret ?_
        refine AX.bp ?_
        refine AX.bp ?_
        refine AX.leave (e:=.ret) (by simp) ?_
        refine AX.bp ?_
        refine AX.bn ?_
        exact⟨false,.inl rfl⟩
      ·
        refine AX.region ?_
        refine au.go (f:=0) ai (ak rfl) ?_
        refine au.go (f:=0) ai (fu rfl rfl (fa _ _)) ?_
        refine au.go (f:=0) ai (show cq _ _ _ _ _ _ _ _ _ (.t (.int .i64 2)) _ from mG rfl (fun _ _ _=>by kernel_rfl)) ?_
        refine au.go (f:=0) ai (aj rfl) ?_
        refine au.nil ?_
        refine AX.seq ?_
        refine AX.region ?_
        refine au.go (f:=0) ai (ak rfl) ?_
        refine au.go (f:=0) ai (fu rfl rfl (fs _ _)) ?_
        refine au.go (f:=0) ai (mH (m:=mm) rfl rfl Jy rfl pI QV) ?_
        refine au.go (f:=0) ai (cD rfl (fl _)) ?_
        refine au.go (f:=0) ai (ic pI rfl rfl) ?_
        refine au.qd (f:=0) ai (bT rfl rfl (sx pI rfl rfl)) ?_
        refine au.nil ?_
        refine AX.seq ?_
        refine AX.region ?_
        refine au.go (f:=0) ai (ak rfl) ?_
        refine au.nil ?_
        refine AX.block ?_
        refine AX.seq ?_
        refine AX.region ?_
        refine au.go (f:=0) ai (fT rfl rfl) ?_
        refine au.go (f:=0) ai (aj rfl) ?_
        refine au.nil ?_
        refine AX.l9 rfl (by decide) ?_
        refine AX.seq ?_
        refine AX.seq ?_
        refine AX.draw (f:=0) ah ai ?_
        refine aJ.go rfl (ak rfl) ?_
        refine aJ.go rfl (qE rfl j9 rfl) ?_
        refine aJ.go rfl (gi rfl rfl) ?_
        refine aJ.go rfl (ak rfl) ?_
        refine aJ.split 81 rfl (fun yu=> ?_) (fun yu=> ?_)
        · skip
          refine aJ.no rfl rfl rfl (aM yu) ?_
          refine aJ.no rfl rfl rfl (aM yu) ?_
          refine aJ.no rfl rfl rfl (aM yu) ?_
          refine aJ.no rfl rfl rfl (aM yu) ?_
          refine aJ.no rfl rfl rfl (aM yu) ?_
          refine aJ.go rfl (bq rfl yu rfl rfl) ?_
          refine aJ.go rfl (ak rfl) ?_
          refine aJ.no rfl rfl rfl (aM rfl) ?_
          refine aJ.no rfl rfl rfl (aM rfl) ?_
          refine aJ.no rfl rfl rfl (aM rfl) ?_
          refine aJ.no rfl rfl rfl (aM rfl) ?_
          refine aJ.no rfl rfl rfl (aM rfl) ?_
          refine aJ.go rfl (bq rfl rfl rfl rfl) ?_
          refine aJ.nil (dP rfl rfl ?_)
          refine AX.l9 rfl rfl ?_
          refine AX.seq ?_
          refine AX.region ?_
          refine au.go (f:=0) ai (aj rfl) ?_
          refine au.nil ?_
          refine AX.ret ?_
          refine AX.bn ?_
          refine AX.bp ?_
          refine AX.bp ?_
          refine AX.leave (e:=.ret) (by simp) ?_
          refine AX.bp ?_
          refine AX.bn ?_
          exact⟨false,.inl rfl⟩
        · have hl2:2≤(b::s').length:=by have:=of_decide_eq_false yu;omega
          refine aJ.yes rfl rfl rfl (cz yu) rfl (ak rfl) ?_
          refine aJ.yes rfl rfl rfl (cz yu) rfl (gP (m:=1) rfl rfl j9 rfl (List.getElem?_eq_getElem (by omega))) ?_
          refine aJ.yes rfl rfl rfl (cz yu) rfl (aD rfl GY rfl) ?_
          refine aJ.yes rfl rfl rfl (cz yu) rfl ((by first|exact cD rfl (ld Ip rfl rfl)|exact bg rfl (ld Ip rfl rfl))) ?_
          refine aJ.yes rfl rfl rfl (cz yu) rfl (gi rfl rfl) ?_
          refine aJ.go rfl (dI rfl yu rfl rfl) ?_
          refine aJ.go rfl (ak rfl) ?_
          refine aJ.split 88 rfl (fun Ag=> ?_) (fun Ag=> ?_)
          · skip
            refine aJ.no rfl rfl rfl (aM Ag) ?_
            refine aJ.no rfl rfl rfl (aM Ag) ?_
            refine aJ.no rfl rfl rfl (aM Ag) ?_
            refine aJ.no rfl rfl rfl (aM Ag) ?_
            refine aJ.no rfl rfl rfl (aM Ag) ?_
            refine aJ.go rfl (bq rfl Ag rfl rfl) ?_
            refine aJ.nil (dP rfl rfl ?_)
            refine AX.l9 rfl rfl ?_
            refine AX.seq ?_
            refine AX.region ?_
            refine au.go (f:=0) ai (aj rfl) ?_
            refine au.nil ?_
            refine AX.ret ?_
            refine AX.bn ?_
            refine AX.bp ?_
            refine AX.bp ?_
            refine AX.leave (e:=.ret) (by simp) ?_
            refine AX.bp ?_
            refine AX.bn ?_
            exact⟨false,.inl rfl⟩
          · skip
            refine aJ.yes rfl rfl rfl (cz Ag) rfl (aD rfl GZ rfl) ?_
            refine aJ.yes rfl rfl rfl (cz Ag) rfl ((by first|exact cD rfl (ld Ip rfl rfl)|exact bg rfl (ld Ip rfl rfl))) ?_
            refine aJ.yes rfl rfl rfl (cz Ag) rfl (ak rfl) ?_
            refine aJ.yes rfl rfl rfl (cz Ag) rfl (gP (m:=1) rfl rfl j9 rfl (List.getElem?_eq_getElem (by omega))) ?_
            refine aJ.yes rfl rfl rfl (cz Ag) rfl (gi rfl rfl) ?_
            refine aJ.go rfl (dI rfl Ag rfl rfl) ?_
            refine aJ.nil (dP rfl rfl ?_)
            refine AX.cond rfl (fun h94=> ?_) (fun h94=> ?_)
            · skip
              refine AX.seq ?_
              refine AX.region ?_
              refine au.go (f:=0) ai (aj rfl) ?_
              refine au.nil ?_
              refine AX.ret ?_
              refine AX.bn ?_
              refine AX.bp ?_
              refine AX.bp ?_
              refine AX.leave (e:=.ret) (by simp) ?_
              refine AX.bp ?_
              refine AX.bn ?_
              exact⟨false,.inl rfl⟩
            · skip
              refine AX.skip ?_
              refine AX.region ?_
              refine au.go (f:=0) ai (ak rfl) ?_
              refine au.go (f:=0) ai ((show cq _ _ _ _ _ _ _ _ _ (.t (.str ((b::s').drop 2))) _ from pG (s:=(b::s')) (m:=2) rfl rfl j9 rfl (by omega))) ?_
              refine au.go (f:=0) ai (aj rfl) ?_
              refine au.nil ?_
              refine AX.b9 ?_
              refine AX.b9 ?_
              exact⟨.inl ⟨((b::s').drop 2),trivial,by show(((b::s').drop 2)).length<_;first|(simp;done)|(simp only[List.length_drop,List.length_cons];omega)|(simp only[List.length_drop,List.length_cons] at*;omega)⟩,rfl,(Re.sq [] ⟨rfl,trivial⟩ trivial (by decide) rfl rfl (by decide))⟩
      ·
        refine AX.region ?_
        refine au.go (f:=0) ai (ak rfl) ?_
        refine au.go (f:=0) ai (fu rfl rfl (fa _ _)) ?_
        refine au.go (f:=0) ai (show cq _ _ _ _ _ _ _ _ _ (.t (.int .i64 3)) _ from mG rfl (fun _ _ _=>by kernel_rfl)) ?_
        refine au.go (f:=0) ai (aj rfl) ?_
        refine au.nil ?_
        refine AX.seq ?_
        refine AX.region ?_
        refine au.go (f:=0) ai (ak rfl) ?_
        refine au.go (f:=0) ai (fu rfl rfl (fs _ _)) ?_
        refine au.go (f:=0) ai (mH (m:=mm) rfl rfl Jy rfl pI QV) ?_
        refine au.go (f:=0) ai (cD rfl (fl _)) ?_
        refine au.go (f:=0) ai (ic pI rfl rfl) ?_
        refine au.qd (f:=0) ai (bT rfl rfl (sx pI rfl rfl)) ?_
        refine au.nil ?_
        refine AX.seq ?_
        refine AX.region ?_
        refine au.go (f:=0) ai (ak rfl) ?_
        refine au.nil ?_
        refine AX.block ?_
        refine AX.seq ?_
        refine AX.region ?_
        refine au.go (f:=0) ai (fT rfl rfl) ?_
        refine au.go (f:=0) ai (aj rfl) ?_
        refine au.nil ?_
        refine AX.l8 rfl (by decide) ?_
        refine AX.seq ?_
        refine AX.region ?_
        refine au.go (f:=0) ai (fT rfl rfl) ?_
        refine au.go (f:=0) ai (aj rfl) ?_
        refine au.nil ?_
        refine AX.l9 rfl (by decide) ?_
        refine AX.seq ?_
        refine AX.seq ?_
        refine AX.draw (f:=0) ah ai ?_
        refine aJ.go rfl (ak rfl) ?_
        refine aJ.go rfl (qE rfl j9 rfl) ?_
        refine aJ.go rfl (gi rfl rfl) ?_
        refine aJ.go rfl (ak rfl) ?_
        refine aJ.split 102 rfl (fun qj=> ?_) (fun qj=> ?_)
        · skip
          refine aJ.no rfl rfl rfl (aM qj) ?_
          refine aJ.no rfl rfl rfl (aM qj) ?_
          refine aJ.no rfl rfl rfl (aM qj) ?_
          refine aJ.no rfl rfl rfl (aM qj) ?_
          refine aJ.no rfl rfl rfl (aM qj) ?_
          refine aJ.go rfl (bq rfl qj rfl rfl) ?_
          refine aJ.go rfl (ak rfl) ?_
          refine aJ.no rfl rfl rfl (aM rfl) ?_
          refine aJ.no rfl rfl rfl (aM rfl) ?_
          refine aJ.no rfl rfl rfl (aM rfl) ?_
          refine aJ.no rfl rfl rfl (aM rfl) ?_
          refine aJ.no rfl rfl rfl (aM rfl) ?_
          refine aJ.go rfl (bq rfl rfl rfl rfl) ?_
          refine aJ.go rfl (ak rfl) ?_
          refine aJ.no rfl rfl rfl (aM rfl) ?_
          refine aJ.no rfl rfl rfl (aM rfl) ?_
          refine aJ.no rfl rfl rfl (aM rfl) ?_
          refine aJ.go rfl (bq rfl rfl rfl rfl) ?_
          refine aJ.go rfl (ak rfl) ?_
          refine aJ.no rfl rfl rfl (aM rfl) ?_
          refine aJ.no rfl rfl rfl (aM rfl) ?_
          refine aJ.no rfl rfl rfl (aM rfl) ?_
          refine aJ.go rfl (bq rfl rfl rfl rfl) ?_
          refine aJ.nil (dP rfl rfl ?_)
          refine AX.l9 rfl rfl ?_
          refine AX.seq ?_
          refine AX.region ?_
          refine au.go (f:=0) ai (aj rfl) ?_
          refine au.nil ?_
          refine AX.ret ?_
          refine AX.bn ?_
          refine AX.bp ?_
          refine AX.bp ?_
          refine AX.leave (e:=.ret) (by simp) ?_
          refine AX.bp ?_
          refine AX.bn ?_
          exact⟨false,.inl rfl⟩
        · have hl3:3≤(b::s').length:=by have:=of_decide_eq_false qj;omega
          refine aJ.yes rfl rfl rfl (cz qj) rfl (ak rfl) ?_
          refine aJ.yes rfl rfl rfl (cz qj) rfl (gP (m:=1) rfl rfl j9 rfl (List.getElem?_eq_getElem (by omega))) ?_
          refine aJ.yes rfl rfl rfl (cz qj) rfl (aD rfl GY rfl) ?_
          refine aJ.yes rfl rfl rfl (cz qj) rfl ((by first|exact cD rfl (ld Ip rfl rfl)|exact bg rfl (ld Ip rfl rfl))) ?_
          refine aJ.yes rfl rfl rfl (cz qj) rfl (gi rfl rfl) ?_
          refine aJ.go rfl (dI rfl qj rfl rfl) ?_
          refine aJ.go rfl (ak rfl) ?_
          refine aJ.split 109 rfl (fun rI=> ?_) (fun rI=> ?_)
          · skip
            refine aJ.no rfl rfl rfl (aM rI) ?_
            refine aJ.no rfl rfl rfl (aM rI) ?_
            refine aJ.no rfl rfl rfl (aM rI) ?_
            refine aJ.no rfl rfl rfl (aM rI) ?_
            refine aJ.no rfl rfl rfl (aM rI) ?_
            refine aJ.go rfl (bq rfl rI rfl rfl) ?_
            refine aJ.go rfl (ak rfl) ?_
            refine aJ.no rfl rfl rfl (aM rfl) ?_
            refine aJ.no rfl rfl rfl (aM rfl) ?_
            refine aJ.no rfl rfl rfl (aM rfl) ?_
            refine aJ.go rfl (bq rfl rfl rfl rfl) ?_
            refine aJ.go rfl (ak rfl) ?_
            refine aJ.no rfl rfl rfl (aM rfl) ?_
            refine aJ.no rfl rfl rfl (aM rfl) ?_
            refine aJ.no rfl rfl rfl (aM rfl) ?_
            refine aJ.go rfl (bq rfl rfl rfl rfl) ?_
            refine aJ.nil (dP rfl rfl ?_)
            refine AX.l9 rfl rfl ?_
            refine AX.seq ?_
            refine AX.region ?_
            refine au.go (f:=0) ai (aj rfl) ?_
            refine au.nil ?_
            refine AX.ret ?_
            refine AX.bn ?_
            refine AX.bp ?_
            refine AX.bp ?_
            refine AX.leave (e:=.ret) (by simp) ?_
            refine AX.bp ?_
            refine AX.bn ?_
            exact⟨false,.inl rfl⟩
          · skip
            refine aJ.yes rfl rfl rfl (cz rI) rfl (aD rfl GZ rfl) ?_
            refine aJ.yes rfl rfl rfl (cz rI) rfl ((by first|exact cD rfl (ld Ip rfl rfl)|exact bg rfl (ld Ip rfl rfl))) ?_
            refine aJ.yes rfl rfl rfl (cz rI) rfl (ak rfl) ?_
            refine aJ.yes rfl rfl rfl (cz rI) rfl (gP (m:=1) rfl rfl j9 rfl (List.getElem?_eq_getElem (by omega))) ?_
            refine aJ.yes rfl rfl rfl (cz rI) rfl (gi rfl rfl) ?_
            refine aJ.go rfl (dI rfl rI rfl rfl) ?_
            refine aJ.go rfl (ak rfl) ?_
            refine aJ.split 116 rfl (fun yw=> ?_) (fun yw=> ?_)
            · skip
              refine aJ.no rfl rfl rfl (aM yw) ?_
              refine aJ.no rfl rfl rfl (aM yw) ?_
              refine aJ.no rfl rfl rfl (aM yw) ?_
              refine aJ.go rfl (bq rfl yw rfl rfl) ?_
              refine aJ.go rfl (ak rfl) ?_
              refine aJ.no rfl rfl rfl (aM rfl) ?_
              refine aJ.no rfl rfl rfl (aM rfl) ?_
              refine aJ.no rfl rfl rfl (aM rfl) ?_
              refine aJ.go rfl (bq rfl rfl rfl rfl) ?_
              refine aJ.nil (dP rfl rfl ?_)
              refine AX.l9 rfl rfl ?_
              refine AX.seq ?_
              refine AX.region ?_
              refine au.go (f:=0) ai (aj rfl) ?_
              refine au.nil ?_
              refine AX.ret ?_
              refine AX.bn ?_
              refine AX.bp ?_
              refine AX.bp ?_
              refine AX.leave (e:=.ret) (by simp) ?_
              refine AX.bp ?_
              refine AX.bn ?_
              exact⟨false,.inl rfl⟩
            · skip
              refine aJ.yes rfl rfl rfl (cz yw) rfl (ak rfl) ?_
              refine aJ.yes rfl rfl rfl (cz yw) rfl (gP (m:=2) rfl rfl j9 rfl (List.getElem?_eq_getElem (by omega))) ?_
              refine aJ.yes rfl rfl rfl (cz yw) rfl (gi rfl rfl) ?_
              refine aJ.go rfl (dI rfl yw rfl rfl) ?_
              refine aJ.go rfl (ak rfl) ?_
              refine aJ.split 121 rfl (fun yx=> ?_) (fun yx=> ?_)
              · skip
                refine aJ.no rfl rfl rfl (aM yx) ?_
                refine aJ.no rfl rfl rfl (aM yx) ?_
                refine aJ.no rfl rfl rfl (aM yx) ?_
                refine aJ.go rfl (bq rfl yx rfl rfl) ?_
                refine aJ.nil (dP rfl rfl ?_)
                refine AX.l9 rfl rfl ?_
                refine AX.seq ?_
                refine AX.region ?_
                refine au.go (f:=0) ai (aj rfl) ?_
                refine au.nil ?_
                refine AX.ret ?_
                refine AX.bn ?_
                refine AX.bp ?_
                refine AX.bp ?_
                refine AX.leave (e:=.ret) (by simp) ?_
                refine AX.bp ?_
                refine AX.bn ?_
                exact⟨false,.inl rfl⟩
              · skip
                refine aJ.yes rfl rfl rfl (cz yx) rfl (ak rfl) ?_
                refine aJ.yes rfl rfl rfl (cz yx) rfl (gP (m:=2) rfl rfl j9 rfl (List.getElem?_eq_getElem (by omega))) ?_
                refine aJ.yes rfl rfl rfl (cz yx) rfl (gi rfl rfl) ?_
                refine aJ.go rfl (dI rfl yx rfl rfl) ?_
                refine aJ.nil (dP rfl rfl ?_)
                refine AX.cond rfl (fun aaV=> ?_) (fun aaV=> ?_)
                · skip
                  refine AX.seq ?_
                  refine AX.region ?_
                  refine au.go (f:=0) ai (aj rfl) ?_
                  refine au.nil ?_
                  refine AX.ret ?_
                  refine AX.bn ?_
                  refine AX.bp ?_
                  refine AX.bp ?_
                  refine AX.leave (e:=.ret) (by simp) ?_
                  refine AX.bp ?_
                  refine AX.bn ?_
                  exact⟨false,.inl rfl⟩
                · skip
                  refine AX.skip ?_
                  refine AX.region ?_
                  refine au.go (f:=0) ai (ak rfl) ?_
                  refine au.go (f:=0) ai ((show cq _ _ _ _ _ _ _ _ _ (.t (.str ((b::s').drop 3))) _ from pG (s:=(b::s')) (m:=3) rfl rfl j9 rfl (by omega))) ?_
                  refine au.go (f:=0) ai (aj rfl) ?_
                  refine au.nil ?_
                  refine AX.b9 ?_
                  refine AX.b9 ?_
                  exact⟨.inl ⟨((b::s').drop 3),trivial,by show(((b::s').drop 3)).length<_;first|(simp;done)|(simp only[List.length_drop,List.length_cons];omega)|(simp only[List.length_drop,List.length_cons] at*;omega)⟩,rfl,(Re.sq [] ⟨rfl,trivial⟩ trivial (by decide) rfl rfl (by decide))⟩
      ·
        refine AX.region ?_
        refine au.go (f:=0) ai (ak rfl) ?_
        refine au.go (f:=0) ai (fu rfl rfl (fa _ _)) ?_
        refine au.go (f:=0) ai (show cq _ _ _ _ _ _ _ _ _ (.t (.int .i64 4)) _ from mG rfl (fun _ _ _=>by kernel_rfl)) ?_
        refine au.go (f:=0) ai (aj rfl) ?_
        refine au.nil ?_
        refine AX.seq ?_
        refine AX.region ?_
        refine au.go (f:=0) ai (ak rfl) ?_
        refine au.go (f:=0) ai (fu rfl rfl (fs _ _)) ?_
        refine au.go (f:=0) ai (mH (m:=mm) rfl rfl Jy rfl pI QV) ?_
        refine au.go (f:=0) ai (cD rfl (fl _)) ?_
        refine au.go (f:=0) ai (ic pI rfl rfl) ?_
        refine au.qd (f:=0) ai (bT rfl rfl (sx pI rfl rfl)) ?_
        refine au.nil ?_
        refine AX.seq ?_
        refine AX.region ?_
        refine au.go (f:=0) ai (ak rfl) ?_
        refine au.nil ?_
        refine AX.block ?_
        refine AX.seq ?_
        refine AX.region ?_
        refine au.go (f:=0) ai (fT rfl rfl) ?_
        refine au.go (f:=0) ai (aj rfl) ?_
        refine au.nil ?_
        refine AX.l8 rfl (by decide) ?_
        refine AX.seq ?_
        refine AX.region ?_
        refine au.go (f:=0) ai (fT rfl rfl) ?_
        refine au.go (f:=0) ai (aj rfl) ?_
        refine au.nil ?_
        refine AX.l8 rfl (by decide) ?_
        refine AX.seq ?_
        refine AX.region ?_
        refine au.go (f:=0) ai (fT rfl rfl) ?_
        refine au.go (f:=0) ai (aj rfl) ?_
        refine au.nil ?_
        refine AX.l9 rfl (by decide) ?_
        refine AX.seq ?_
        refine AX.seq ?_
        refine AX.draw (f:=0) ah ai ?_
        refine aJ.go rfl (ak rfl) ?_
        refine aJ.go rfl (qE rfl j9 rfl) ?_
        refine aJ.go rfl (gi rfl rfl) ?_
        refine aJ.go rfl (ak rfl) ?_
        refine aJ.split 133 rfl (fun ql=> ?_) (fun ql=> ?_)
        · skip
          refine aJ.no rfl rfl rfl (aM ql) ?_
          refine aJ.no rfl rfl rfl (aM ql) ?_
          refine aJ.no rfl rfl rfl (aM ql) ?_
          refine aJ.no rfl rfl rfl (aM ql) ?_
          refine aJ.no rfl rfl rfl (aM ql) ?_
          refine aJ.go rfl (bq rfl ql rfl rfl) ?_
          refine aJ.go rfl (ak rfl) ?_
          refine aJ.no rfl rfl rfl (aM rfl) ?_
          refine aJ.no rfl rfl rfl (aM rfl) ?_
          refine aJ.no rfl rfl rfl (aM rfl) ?_
          refine aJ.no rfl rfl rfl (aM rfl) ?_
          refine aJ.no rfl rfl rfl (aM rfl) ?_
          refine aJ.go rfl (bq rfl rfl rfl rfl) ?_
          refine aJ.go rfl (ak rfl) ?_
          refine aJ.no rfl rfl rfl (aM rfl) ?_
          refine aJ.no rfl rfl rfl (aM rfl) ?_
          refine aJ.no rfl rfl rfl (aM rfl) ?_
          refine aJ.go rfl (bq rfl rfl rfl rfl) ?_
          refine aJ.go rfl (ak rfl) ?_
          refine aJ.no rfl rfl rfl (aM rfl) ?_
          refine aJ.no rfl rfl rfl (aM rfl) ?_
          refine aJ.no rfl rfl rfl (aM rfl) ?_
          refine aJ.go rfl (bq rfl rfl rfl rfl) ?_
          refine aJ.go rfl (ak rfl) ?_
          refine aJ.no rfl rfl rfl (aM rfl) ?_
          refine aJ.no rfl rfl rfl (aM rfl) ?_
          refine aJ.no rfl rfl rfl (aM rfl) ?_
          refine aJ.go rfl (bq rfl rfl rfl rfl) ?_
          refine aJ.go rfl (ak rfl) ?_
          refine aJ.no rfl rfl rfl (aM rfl) ?_
          refine aJ.no rfl rfl rfl (aM rfl) ?_
          refine aJ.no rfl rfl rfl (aM rfl) ?_
          refine aJ.go rfl (bq rfl rfl rfl rfl) ?_
          refine aJ.nil (dP rfl rfl ?_)
          refine AX.l9 rfl rfl ?_
          refine AX.seq ?_
          refine AX.region ?_
          refine au.go (f:=0) ai (aj rfl) ?_
          refine au.nil ?_
          refine AX.ret ?_
          refine AX.bn ?_
          refine AX.bp ?_
          refine AX.bp ?_
          refine AX.leave (e:=.ret) (by simp) ?_
          refine AX.bp ?_
          refine AX.bn ?_
          exact⟨false,.inl rfl⟩
        · have hl4:4≤(b::s').length:=by have:=of_decide_eq_false ql;omega
          refine aJ.yes rfl rfl rfl (cz ql) rfl (ak rfl) ?_
          refine aJ.yes rfl rfl rfl (cz ql) rfl (gP (m:=1) rfl rfl j9 rfl (List.getElem?_eq_getElem (by omega))) ?_
          refine aJ.yes rfl rfl rfl (cz ql) rfl (aD rfl GY rfl) ?_
          refine aJ.yes rfl rfl rfl (cz ql) rfl ((by first|exact cD rfl (ld Ip rfl rfl)|exact bg rfl (ld Ip rfl rfl))) ?_
          refine aJ.yes rfl rfl rfl (cz ql) rfl (gi rfl rfl) ?_
          refine aJ.go rfl (dI rfl ql rfl rfl) ?_
          refine aJ.go rfl (ak rfl) ?_
          refine aJ.split 140 rfl (fun rJ=> ?_) (fun rJ=> ?_)
          · skip
            refine aJ.no rfl rfl rfl (aM rJ) ?_
            refine aJ.no rfl rfl rfl (aM rJ) ?_
            refine aJ.no rfl rfl rfl (aM rJ) ?_
            refine aJ.no rfl rfl rfl (aM rJ) ?_
            refine aJ.no rfl rfl rfl (aM rJ) ?_
            refine aJ.go rfl (bq rfl rJ rfl rfl) ?_
            refine aJ.go rfl (ak rfl) ?_
            refine aJ.no rfl rfl rfl (aM rfl) ?_
            refine aJ.no rfl rfl rfl (aM rfl) ?_
            refine aJ.no rfl rfl rfl (aM rfl) ?_
            refine aJ.go rfl (bq rfl rfl rfl rfl) ?_
            refine aJ.go rfl (ak rfl) ?_
            refine aJ.no rfl rfl rfl (aM rfl) ?_
            refine aJ.no rfl rfl rfl (aM rfl) ?_
            refine aJ.no rfl rfl rfl (aM rfl) ?_
            refine aJ.go rfl (bq rfl rfl rfl rfl) ?_
            refine aJ.go rfl (ak rfl) ?_
            refine aJ.no rfl rfl rfl (aM rfl) ?_
            refine aJ.no rfl rfl rfl (aM rfl) ?_
            refine aJ.no rfl rfl rfl (aM rfl) ?_
            refine aJ.go rfl (bq rfl rfl rfl rfl) ?_
            refine aJ.go rfl (ak rfl) ?_
            refine aJ.no rfl rfl rfl (aM rfl) ?_
            refine aJ.no rfl rfl rfl (aM rfl) ?_
            refine aJ.no rfl rfl rfl (aM rfl) ?_
            refine aJ.go rfl (bq rfl rfl rfl rfl) ?_
            refine aJ.nil (dP rfl rfl ?_)
            refine AX.l9 rfl rfl ?_
            refine AX.seq ?_
            refine AX.region ?_
            refine au.go (f:=0) ai (aj rfl) ?_
            refine au.nil ?_
            refine AX.ret ?_
            refine AX.bn ?_
            refine AX.bp ?_
            refine AX.bp ?_
            refine AX.leave (e:=.ret) (by simp) ?_
            refine AX.bp ?_
            refine AX.bn ?_
            exact⟨false,.inl rfl⟩
          · skip
            refine aJ.yes rfl rfl rfl (cz rJ) rfl (aD rfl GZ rfl) ?_
            refine aJ.yes rfl rfl rfl (cz rJ) rfl ((by first|exact cD rfl (ld Ip rfl rfl)|exact bg rfl (ld Ip rfl rfl))) ?_
            refine aJ.yes rfl rfl rfl (cz rJ) rfl (ak rfl) ?_
            refine aJ.yes rfl rfl rfl (cz rJ) rfl (gP (m:=1) rfl rfl j9 rfl (List.getElem?_eq_getElem (by omega))) ?_
            refine aJ.yes rfl rfl rfl (cz rJ) rfl (gi rfl rfl) ?_
            refine aJ.go rfl (dI rfl rJ rfl rfl) ?_
            refine aJ.go rfl (ak rfl) ?_
            refine aJ.split 147 rfl (fun yy=> ?_) (fun yy=> ?_)
            · skip
              refine aJ.no rfl rfl rfl (aM yy) ?_
              refine aJ.no rfl rfl rfl (aM yy) ?_
              refine aJ.no rfl rfl rfl (aM yy) ?_
              refine aJ.go rfl (bq rfl yy rfl rfl) ?_
              refine aJ.go rfl (ak rfl) ?_
              refine aJ.no rfl rfl rfl (aM rfl) ?_
              refine aJ.no rfl rfl rfl (aM rfl) ?_
              refine aJ.no rfl rfl rfl (aM rfl) ?_
              refine aJ.go rfl (bq rfl rfl rfl rfl) ?_
              refine aJ.go rfl (ak rfl) ?_
              refine aJ.no rfl rfl rfl (aM rfl) ?_
              refine aJ.no rfl rfl rfl (aM rfl) ?_
              refine aJ.no rfl rfl rfl (aM rfl) ?_
              refine aJ.go rfl (bq rfl rfl rfl rfl) ?_
              refine aJ.go rfl (ak rfl) ?_
              refine aJ.no rfl rfl rfl (aM rfl) ?_
              refine aJ.no rfl rfl rfl (aM rfl) ?_
              refine aJ.no rfl rfl rfl (aM rfl) ?_
              refine aJ.go rfl (bq rfl rfl rfl rfl) ?_
              refine aJ.nil (dP rfl rfl ?_)
              refine AX.l9 rfl rfl ?_
              refine AX.seq ?_
              refine AX.region ?_
              refine au.go (f:=0) ai (aj rfl) ?_
              refine au.nil ?_
              refine AX.ret ?_
              refine AX.bn ?_
              refine AX.bp ?_
              refine AX.bp ?_
              refine AX.leave (e:=.ret) (by simp) ?_
              refine AX.bp ?_
              refine AX.bn ?_
              exact⟨false,.inl rfl⟩
            · skip
              refine aJ.yes rfl rfl rfl (cz yy) rfl (ak rfl) ?_
              refine aJ.yes rfl rfl rfl (cz yy) rfl (gP (m:=2) rfl rfl j9 rfl (List.getElem?_eq_getElem (by omega))) ?_
              refine aJ.yes rfl rfl rfl (cz yy) rfl (gi rfl rfl) ?_
              refine aJ.go rfl (dI rfl yy rfl rfl) ?_
              refine aJ.go rfl (ak rfl) ?_
              refine aJ.split 152 rfl (fun yz=> ?_) (fun yz=> ?_)
              · skip
                refine aJ.no rfl rfl rfl (aM yz) ?_
                refine aJ.no rfl rfl rfl (aM yz) ?_
                refine aJ.no rfl rfl rfl (aM yz) ?_
                refine aJ.go rfl (bq rfl yz rfl rfl) ?_
                refine aJ.go rfl (ak rfl) ?_
                refine aJ.no rfl rfl rfl (aM rfl) ?_
                refine aJ.no rfl rfl rfl (aM rfl) ?_
                refine aJ.no rfl rfl rfl (aM rfl) ?_
                refine aJ.go rfl (bq rfl rfl rfl rfl) ?_
                refine aJ.go rfl (ak rfl) ?_
                refine aJ.no rfl rfl rfl (aM rfl) ?_
                refine aJ.no rfl rfl rfl (aM rfl) ?_
                refine aJ.no rfl rfl rfl (aM rfl) ?_
                refine aJ.go rfl (bq rfl rfl rfl rfl) ?_
                refine aJ.nil (dP rfl rfl ?_)
                refine AX.l9 rfl rfl ?_
                refine AX.seq ?_
                refine AX.region ?_
                refine au.go (f:=0) ai (aj rfl) ?_
                refine au.nil ?_
                refine AX.ret ?_
                refine AX.bn ?_
                refine AX.bp ?_
                refine AX.bp ?_
                refine AX.leave (e:=.ret) (by simp) ?_
                refine AX.bp ?_
                refine AX.bn ?_
                exact⟨false,.inl rfl⟩
              · skip
                refine aJ.yes rfl rfl rfl (cz yz) rfl (ak rfl) ?_
                refine aJ.yes rfl rfl rfl (cz yz) rfl (gP (m:=2) rfl rfl j9 rfl (List.getElem?_eq_getElem (by omega))) ?_
                refine aJ.yes rfl rfl rfl (cz yz) rfl (gi rfl rfl) ?_
                refine aJ.go rfl (dI rfl yz rfl rfl) ?_
                refine aJ.go rfl (ak rfl) ?_
                refine aJ.split 157 rfl (fun yA=> ?_) (fun yA=> ?_)
                · skip
                  refine aJ.no rfl rfl rfl (aM yA) ?_
                  refine aJ.no rfl rfl rfl (aM yA) ?_
                  refine aJ.no rfl rfl rfl (aM yA) ?_
                  refine aJ.go rfl (bq rfl yA rfl rfl) ?_
                  refine aJ.go rfl (ak rfl) ?_
                  refine aJ.no rfl rfl rfl (aM rfl) ?_
                  refine aJ.no rfl rfl rfl (aM rfl) ?_
                  refine aJ.no rfl rfl rfl (aM rfl) ?_
                  refine aJ.go rfl (bq rfl rfl rfl rfl) ?_
                  refine aJ.nil (dP rfl rfl ?_)
                  refine AX.l9 rfl rfl ?_
                  refine AX.seq ?_
                  refine AX.region ?_
                  refine au.go (f:=0) ai (aj rfl) ?_
                  refine au.nil ?_
                  refine AX.ret ?_
                  refine AX.bn ?_
                  refine AX.bp ?_
                  refine AX.bp ?_
                  refine AX.leave (e:=.ret) (by simp) ?_
                  refine AX.bp ?_
                  refine AX.bn ?_
                  exact⟨false,.inl rfl⟩
                · skip
                  refine aJ.yes rfl rfl rfl (cz yA) rfl (ak rfl) ?_
                  refine aJ.yes rfl rfl rfl (cz yA) rfl (gP (m:=3) rfl rfl j9 rfl (List.getElem?_eq_getElem (by omega))) ?_
                  refine aJ.yes rfl rfl rfl (cz yA) rfl (gi rfl rfl) ?_
                  refine aJ.go rfl (dI rfl yA rfl rfl) ?_
                  refine aJ.go rfl (ak rfl) ?_
                  refine aJ.split 162 rfl (fun yB=> ?_) (fun yB=> ?_)
                  · skip
                    refine aJ.no rfl rfl rfl (aM yB) ?_
                    refine aJ.no rfl rfl rfl (aM yB) ?_
                    refine aJ.no rfl rfl rfl (aM yB) ?_
                    refine aJ.go rfl (bq rfl yB rfl rfl) ?_
                    refine aJ.nil (dP rfl rfl ?_)
                    refine AX.l9 rfl rfl ?_
                    refine AX.seq ?_
                    refine AX.region ?_
                    refine au.go (f:=0) ai (aj rfl) ?_
                    refine au.nil ?_
                    refine AX.ret ?_
                    refine AX.bn ?_
                    refine AX.bp ?_
                    refine AX.bp ?_
                    refine AX.leave (e:=.ret) (by simp) ?_
                    refine AX.bp ?_
                    refine AX.bn ?_
                    exact⟨false,.inl rfl⟩
                  · skip
                    refine aJ.yes rfl rfl rfl (cz yB) rfl (ak rfl) ?_
                    refine aJ.yes rfl rfl rfl (cz yB) rfl (gP (m:=3) rfl rfl j9 rfl (List.getElem?_eq_getElem (by omega))) ?_
                    refine aJ.yes rfl rfl rfl (cz yB) rfl (gi rfl rfl) ?_
                    refine aJ.go rfl (dI rfl yB rfl rfl) ?_
                    refine aJ.nil (dP rfl rfl ?_)
                    refine AX.cond rfl (fun ai3=> ?_) (fun ai3=> ?_)
                    · skip
                      refine AX.seq ?_
                      refine AX.region ?_
                      refine au.go (f:=0) ai (aj rfl) ?_
                      refine au.nil ?_
                      refine AX.ret ?_
                      refine AX.bn ?_
                      refine AX.bp ?_
                      refine AX.bp ?_
                      refine AX.leave (e:=.ret) (by simp) ?_
                      refine AX.bp ?_
                      refine AX.bn ?_
                      exact⟨false,.inl rfl⟩
                    · skip
                      refine AX.skip ?_
                      refine AX.region ?_
                      refine au.go (f:=0) ai (ak rfl) ?_
                      refine au.go (f:=0) ai ((show cq _ _ _ _ _ _ _ _ _ (.t (.str ((b::s').drop 4))) _ from pG (s:=(b::s')) (m:=4) rfl rfl j9 rfl (by omega))) ?_
                      refine au.go (f:=0) ai (aj rfl) ?_
                      refine au.nil ?_
                      refine AX.b9 ?_
                      refine AX.b9 ?_
                      exact⟨.inl ⟨((b::s').drop 4),trivial,by show(((b::s').drop 4)).length<_;first|(simp;done)|(simp only[List.length_drop,List.length_cons];omega)|(simp only[List.length_drop,List.length_cons] at*;omega)⟩,rfl,(Re.sq [] ⟨rfl,trivial⟩ trivial (by decide) rfl rfl (by decide))⟩
  · skip
    refine AX.exit ?_
    refine AX.dU ?_
    refine AX.leave (e:=.exit 0) (by simp) ?_
    refine AX.fk ?_
    refine AX.seq ?_
    refine AX.region ?_
    refine au.go (f:=0) ai (aj rfl) ?_
    refine au.nil ?_
    refine AX.ret ?_
    exact⟨true,.inl rfl⟩
end
end Go.Proofs.YtijfhoelihclbaaGreatDoor.w
