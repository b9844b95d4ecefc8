/- schema: clones of rows, types of their own memory; copies, comparisons. -/
import Derived.Test.YtfdnciimclnncaaGreatDoorI
import Derived.Test.YtfdnciimclnncaaGreatDoorM
import Derived.Test.YtfdnciimclnncaaGreatDoorShelf
set_option linter.unusedVariables false
set_option linter.unusedSimpArgs false
namespace Go.Proofs.YtfdnciimclnncaaGreatDoor.w
open Go Go.Abs
set_option maxRecDepth 100000
set_option maxHeartbeats 1000000
noncomputable section
noncomputable def descOf (t:TypeId):TypeDesc:=(Tryz.prog.underlying t).getD .bool
noncomputable def cf (m:Int):ez:={P:=live.prg,kg:=(live.cfg m).kg,lW:=λf d=>f==1||Nat.testBit f (d+1)}
theorem ah {m:Int}:(cf m).P.prog.follows .mixedOrders=true:=by kernel_rfl
abbrev ti9:TI:={size:=1,bytes:=16,agg:=false,zero:=some (.t (.str [])),desc:=.string}
theorem qW {m:Int}:(cf m).P.ty 9=some ti9:=by kernel_rfl
abbrev aqd:TI:={size:=1,bytes:=24,agg:=false,zero:=some (.bW),desc:=.slice 9}
theorem qf {m:Int}:(cf m).P.ty 23=some aqd:=by kernel_rfl
theorem Vh {m:Int}:Ml (cf m).P 23 9 ti9:=⟨⟨_,qf,rfl⟩,qW,_,rfl,by decide,rfl,by decide⟩
theorem vp {m:Int}{n:Int}(lW:Bool)(nm:Nm)(H:Heap):wj (cf m).P lW nm H 5 162 (.t (.int .u8 n))=some (.t (.int .u64 (IntKind.wrap .u64 n)),[]):=by kernel_rfl
theorem aei {m:Int}{ev:bt}(aK:aD (cf m) ev)(b0 b1 b2 b3 b4 b5 b6 b7:UInt8)(r:List UInt8):
 ∃z:Int,ai (cf m) 83 [.t (.str (b0::b1::b2::b3::b4::b5::b6::b7::r))] [] (.ret (.t (.int .u64 z)) [] []):=by
 refine AX.start 59 1 Tryz.func83 rfl (by decide) rfl rfl (by decide) ?_
 refine AX.seq ?_
 refine AX.region ?_
 refine aO.go (f:=0) aK (aL rfl) ?_
 refine aO.nil ?_
 refine AX.seq ?_
 refine AX.rA rfl rfl ?_
 refine AX.skip ?_
 refine AX.seq ?_
 refine AX.draw (f:=0) ah aK ?_
 refine aW.go rfl (aJ rfl) ?_
 refine aW.go rfl (jN rfl rfl qW rfl rfl) ?_
 refine aW.go rfl (qD rfl vp) ?_
 refine aW.go rfl (aJ rfl) ?_
 refine aW.go rfl (jN rfl rfl qW rfl rfl) ?_
 refine aW.go rfl (qD rfl vp) ?_
 refine aW.go rfl (iU rfl rfl rfl) ?_
 refine aW.go rfl (iU rfl rfl rfl) ?_
 refine aW.go rfl (aJ rfl) ?_
 refine aW.go rfl (jN rfl rfl qW rfl rfl) ?_
 refine aW.go rfl (qD rfl vp) ?_
 refine aW.go rfl (iU rfl rfl rfl) ?_
 refine aW.go rfl (iU rfl rfl rfl) ?_
 refine aW.go rfl (aJ rfl) ?_
 refine aW.go rfl (jN rfl rfl qW rfl rfl) ?_
 refine aW.go rfl (qD rfl vp) ?_
 refine aW.go rfl (iU rfl rfl rfl) ?_
 refine aW.go rfl (iU rfl rfl rfl) ?_
 refine aW.go rfl (aJ rfl) ?_
 refine aW.go rfl (jN rfl rfl qW rfl rfl) ?_
 refine aW.go rfl (qD rfl vp) ?_
 refine aW.go rfl (iU rfl rfl rfl) ?_
 refine aW.go rfl (iU rfl rfl rfl) ?_
 refine aW.go rfl (aJ rfl) ?_
 refine aW.go rfl (jN rfl rfl qW rfl rfl) ?_
 refine aW.go rfl (qD rfl vp) ?_
 refine aW.go rfl (iU rfl rfl rfl) ?_
 refine aW.go rfl (iU rfl rfl rfl) ?_
 refine aW.go rfl (aJ rfl) ?_
 refine aW.go rfl (jN rfl rfl qW rfl rfl) ?_
 refine aW.go rfl (qD rfl vp) ?_
 refine aW.go rfl (iU rfl rfl rfl) ?_
 refine aW.go rfl (iU rfl rfl rfl) ?_
 refine aW.go rfl (aJ rfl) ?_
 refine aW.go rfl (jN rfl rfl qW rfl rfl) ?_
 refine aW.go rfl (qD rfl vp) ?_
 refine aW.go rfl (iU rfl rfl rfl) ?_
 refine aW.go rfl (iU rfl rfl rfl) ?_
 refine aW.go rfl (aL rfl) ?_
 refine aW.nil (gN rfl rfl ?_)
 refine AX.ret ?_
 exact⟨_,.inl rfl⟩
end
end Go.Proofs.YtfdnciimclnncaaGreatDoor.w
