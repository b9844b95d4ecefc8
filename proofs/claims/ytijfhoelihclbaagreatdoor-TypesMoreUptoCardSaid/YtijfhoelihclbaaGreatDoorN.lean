/- schema: clones of rows, types of their own memory; copies, comparisons. -/
import Derived.Test.YtijfhoelihclbaaGreatDoorI
import Derived.Test.YtijfhoelihclbaaGreatDoorM
import Derived.Test.YtijfhoelihclbaaGreatDoorShelf
namespace Go.Proofs.YtijfhoelihclbaaGreatDoor.w
open Go Go.Abs
set_option linter.unusedVariables false
set_option maxRecDepth 100000
set_option maxHeartbeats 1000000
noncomputable section
noncomputable def descOf (t:TypeId):TypeDesc:=(Tryz.prog.underlying t).getD .bool
noncomputable def cf (m:Int):dI:={P:=live.prg,jA:=(live.cfg m).jA,qb:=fun f _=>f==1}
theorem ah {m:Int}:(cf m).P.prog.follows .mixedOrders=true:=by kernel_rfl
abbrev ti9:TI:={size:=1,bytes:=16,agg:=false,zero:=some (.t (.str [])),desc:=.string}
theorem kB {m:Int}:(cf m).P.ty 9=some ti9:=by kernel_rfl
abbrev ajL:TI:={size:=1,bytes:=24,agg:=false,zero:=some (.aL),desc:=.slice 9}
theorem kJ {m:Int}:(cf m).P.ty 23=some ajL:=by kernel_rfl
abbrev ajM:TI:={size:=1,bytes:=24,agg:=false,zero:=some (.aL),desc:=.slice 45}
theorem iH {m:Int}:(cf m).P.ty 31=some ajM:=by kernel_rfl
abbrev ajN:TI:={size:=1,bytes:=24,agg:=false,zero:=some (.aL),desc:=.slice 38}
theorem iU {m:Int}:(cf m).P.ty 36=some ajN:=by kernel_rfl
abbrev ae2:TI:={size:=4,bytes:=72,agg:=true,zero:=some (.agg [.t (.int .u8 0),.t (.str []),.aL,.aL]),desc:=descOf 38}
theorem eu {m:Int}:(cf m).P.ty 38=some ae2:=by kernel_rfl
abbrev ae3:TI:={size:=5,bytes:=88,agg:=true,zero:=some (.agg [.t (.str []),.t (.int .u8 0),.t (.str []),.aL,.aL]),desc:=descOf 45}
theorem tN {m:Int}:(cf m).P.ty 45=some ae3:=by kernel_rfl
theorem DK {m:Int}:uA (cf m).P 23 9 ti9:=⟨⟨_,kJ,rfl⟩,kB,_,rfl,by decide,rfl,by decide⟩
theorem Z6 {m:Int}:uA (cf m).P 31 45 ae3:=⟨⟨_,iH,rfl⟩,tN,_,rfl,by decide,rfl,by decide⟩
theorem Tm {m:Int}:uA (cf m).P 36 38 ae2:=⟨⟨_,iU,rfl⟩,eu,_,rfl,by decide,rfl,by decide⟩
theorem lB {m:Int}:eX (cf m).P 38 2=some 2:=by kernel_rfl
theorem iM {m:Int}:eX (cf m).P 38 3=some 3:=by kernel_rfl
theorem Hv {m:Int}:eX (cf m).P 45 1=some 1:=by kernel_rfl
theorem rG {m:Int}{n:Int}(qb:Bool)(nm:Nm)(H:Heap):r9 (cf m).P qb nm H 5 173 (.t (.int .u8 n))=some (.t (.int .u64 (IntKind.wrap .u64 n)),[]):=by kernel_rfl
theorem Ol {m:Int}{ev:aW}(ai:aF (cf m) ev)(b0 b1 b2 b3 b4 b5 b6 b7:UInt8)(r:List UInt8):
  ∃z:Int,ay (cf m) 73 [.t (.str (b0::b1::b2::b3::b4::b5::b6::b7::r))] [] (.ret (.t (.int .u64 z)) [] []):=by
 refine AX.start 59 1 Tryz.func73 rfl (by decide) rfl rfl (by decide) ?_
 refine AX.seq ?_
 refine AX.region ?_
 refine ak.go (f:=0) ai (au rfl) ?_
 refine ak.nil ?_
 refine AX.seq ?_
 refine AX.nt rfl rfl ?_
 refine AX.skip ?_
 refine AX.seq ?_
 refine AX.draw (f:=0) ah ai ?_
 refine aJ.go rfl (av rfl) ?_
 refine aJ.go rfl (iL rfl rfl kB rfl rfl) ?_
 refine aJ.go rfl (nI rfl rG) ?_
 refine aJ.go rfl (av rfl) ?_
 refine aJ.go rfl (iL rfl rfl kB rfl rfl) ?_
 refine aJ.go rfl (nI rfl rG) ?_
 refine aJ.go rfl (fZ rfl rfl rfl) ?_
 refine aJ.go rfl (fZ rfl rfl rfl) ?_
 refine aJ.go rfl (av rfl) ?_
 refine aJ.go rfl (iL rfl rfl kB rfl rfl) ?_
 refine aJ.go rfl (nI rfl rG) ?_
 refine aJ.go rfl (fZ rfl rfl rfl) ?_
 refine aJ.go rfl (fZ rfl rfl rfl) ?_
 refine aJ.go rfl (av rfl) ?_
 refine aJ.go rfl (iL rfl rfl kB rfl rfl) ?_
 refine aJ.go rfl (nI rfl rG) ?_
 refine aJ.go rfl (fZ rfl rfl rfl) ?_
 refine aJ.go rfl (fZ rfl rfl rfl) ?_
 refine aJ.go rfl (av rfl) ?_
 refine aJ.go rfl (iL rfl rfl kB rfl rfl) ?_
 refine aJ.go rfl (nI rfl rG) ?_
 refine aJ.go rfl (fZ rfl rfl rfl) ?_
 refine aJ.go rfl (fZ rfl rfl rfl) ?_
 refine aJ.go rfl (av rfl) ?_
 refine aJ.go rfl (iL rfl rfl kB rfl rfl) ?_
 refine aJ.go rfl (nI rfl rG) ?_
 refine aJ.go rfl (fZ rfl rfl rfl) ?_
 refine aJ.go rfl (fZ rfl rfl rfl) ?_
 refine aJ.go rfl (av rfl) ?_
 refine aJ.go rfl (iL rfl rfl kB rfl rfl) ?_
 refine aJ.go rfl (nI rfl rG) ?_
 refine aJ.go rfl (fZ rfl rfl rfl) ?_
 refine aJ.go rfl (fZ rfl rfl rfl) ?_
 refine aJ.go rfl (av rfl) ?_
 refine aJ.go rfl (iL rfl rfl kB rfl rfl) ?_
 refine aJ.go rfl (nI rfl rG) ?_
 refine aJ.go rfl (fZ rfl rfl rfl) ?_
 refine aJ.go rfl (fZ rfl rfl rfl) ?_
 refine aJ.go rfl (au rfl) ?_
 refine aJ.nil (eE rfl rfl ?_)
 refine AX.ret ?_
 exact⟨_,.inl rfl⟩
end
end Go.Proofs.YtijfhoelihclbaaGreatDoor.w
