/- schema: clones of rows, types of their own memory; copies, comparisons. -/
import Derived.Test.YtfdnciimclnncaaGreatDoorI
import Derived.Test.YtfdnciimclnncaaGreatDoorM
import Derived.Test.YtfdnciimclnncaaGreatDoorShelf
set_option linter.unusedVariables false
set_option linter.unusedSimpArgs false
namespace Go.Proofs.YtfdnciimclnncaaGreatDoor.w
open Go Go.Abs
set_option maxRecDepth 100000
set_option maxHeartbeats 1000000
noncomputable section
noncomputable def descOf (t:TypeId):TypeDesc:=(Tryz.prog.underlying t).getD .bool
noncomputable def cf (m:Int):ew:={P:=live.prg,ku:=(live.cfg m).ku,lW:=λf d=>f==1||Nat.testBit f (d+1)}
theorem ah {m:Int}:(cf m).P.prog.follows .mixedOrders=true:=by kernel_rfl
abbrev ti9:TI:={size:=1,bytes:=16,agg:=false,zero:=some (.t (.str [])),desc:=.string}
theorem q3 {m:Int}:(cf m).P.ty 9=some ti9:=by kernel_rfl
abbrev aqQ:TI:={size:=1,bytes:=24,agg:=false,zero:=some (.bX),desc:=.slice 9}
theorem qq {m:Int}:(cf m).P.ty 23=some aqQ:=by kernel_rfl
theorem Vm {m:Int}:Mf (cf m).P 23 9 ti9:=⟨⟨_,qq,rfl⟩,q3,_,rfl,by decide,rfl,by decide⟩
theorem uZ {m:Int}{n:Int}(lW:Bool)(nm:Nm)(H:Heap):wm (cf m).P lW nm H 5 162 (.t (.int .u8 n))=some (.t (.int .u64 (IntKind.wrap .u64 n)),[]):=by kernel_rfl
theorem aek {m:Int}{ev:bp}(aI:aC (cf m) ev)(b0 b1 b2 b3 b4 b5 b6 b7:UInt8)(r:List UInt8):
 ∃z:Int,ai (cf m) 83 [.t (.str (b0::b1::b2::b3::b4::b5::b6::b7::r))] [] (.ret (.t (.int .u64 z)) [] []):=by
 refine AX.start 59 1 Tryz.func83 rfl (by decide) rfl rfl (by decide) ?_
 refine AX.seq ?_
 refine AX.region ?_
 refine aO.go (f:=0) aI (aJ rfl) ?_
 refine aO.nil ?_
 refine AX.seq ?_
 refine AX.rF rfl rfl ?_
 refine AX.skip ?_
 refine AX.seq ?_
 refine AX.draw (f:=0) ah aI ?_
 refine aU.go rfl (aH rfl) ?_
 refine aU.go rfl (jN rfl rfl q3 rfl rfl) ?_
 refine aU.go rfl (qK rfl uZ) ?_
 refine aU.go rfl (aH rfl) ?_
 refine aU.go rfl (jN rfl rfl q3 rfl rfl) ?_
 refine aU.go rfl (qK rfl uZ) ?_
 refine aU.go rfl (iV rfl rfl rfl) ?_
 refine aU.go rfl (iV rfl rfl rfl) ?_
 refine aU.go rfl (aH rfl) ?_
 refine aU.go rfl (jN rfl rfl q3 rfl rfl) ?_
 refine aU.go rfl (qK rfl uZ) ?_
 refine aU.go rfl (iV rfl rfl rfl) ?_
 refine aU.go rfl (iV rfl rfl rfl) ?_
 refine aU.go rfl (aH rfl) ?_
 refine aU.go rfl (jN rfl rfl q3 rfl rfl) ?_
 refine aU.go rfl (qK rfl uZ) ?_
 refine aU.go rfl (iV rfl rfl rfl) ?_
 refine aU.go rfl (iV rfl rfl rfl) ?_
 refine aU.go rfl (aH rfl) ?_
 refine aU.go rfl (jN rfl rfl q3 rfl rfl) ?_
 refine aU.go rfl (qK rfl uZ) ?_
 refine aU.go rfl (iV rfl rfl rfl) ?_
 refine aU.go rfl (iV rfl rfl rfl) ?_
 refine aU.go rfl (aH rfl) ?_
 refine aU.go rfl (jN rfl rfl q3 rfl rfl) ?_
 refine aU.go rfl (qK rfl uZ) ?_
 refine aU.go rfl (iV rfl rfl rfl) ?_
 refine aU.go rfl (iV rfl rfl rfl) ?_
 refine aU.go rfl (aH rfl) ?_
 refine aU.go rfl (jN rfl rfl q3 rfl rfl) ?_
 refine aU.go rfl (qK rfl uZ) ?_
 refine aU.go rfl (iV rfl rfl rfl) ?_
 refine aU.go rfl (iV rfl rfl rfl) ?_
 refine aU.go rfl (aH rfl) ?_
 refine aU.go rfl (jN rfl rfl q3 rfl rfl) ?_
 refine aU.go rfl (qK rfl uZ) ?_
 refine aU.go rfl (iV rfl rfl rfl) ?_
 refine aU.go rfl (iV rfl rfl rfl) ?_
 refine aU.go rfl (aJ rfl) ?_
 refine aU.nil (gQ rfl rfl ?_)
 refine AX.ret ?_
 exact⟨_,.inl rfl⟩
end
end Go.Proofs.YtfdnciimclnncaaGreatDoor.w
