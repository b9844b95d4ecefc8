/- schema: clones of rows, types of their own memory; copies, comparisons. -/
import Derived.Test.YtfdnciimclnncaaGreatDoorI
import Derived.Test.YtfdnciimclnncaaGreatDoorM
import Derived.Test.YtfdnciimclnncaaGreatDoorShelf
set_option linter.unusedVariables false
set_option linter.unusedSimpArgs false
namespace Go.Proofs.YtfdnciimclnncaaGreatDoor.w
open Go Go.Abs
set_option maxRecDepth 100000
set_option maxHeartbeats 1000000
noncomputable section
noncomputable def descOf (t:TypeId):TypeDesc:=(Tryz.prog.underlying t).getD .bool
noncomputable def cf (m:Int):ey:={P:=live.prg,j8:=(live.cfg m).j8,lS:=λf d=>f==1||Nat.testBit f (d+1)}
theorem ah {m:Int}:(cf m).P.prog.follows .mixedOrders=true:=by kernel_rfl
abbrev ti9:TI:={size:=1,bytes:=16,agg:=false,zero:=some (.t (.str [])),desc:=.string}
theorem qP {m:Int}:(cf m).P.ty 9=some ti9:=by kernel_rfl
abbrev aqn:TI:={size:=1,bytes:=24,agg:=false,zero:=some (.bX),desc:=.slice 9}
theorem p5 {m:Int}:(cf m).P.ty 23=some aqn:=by kernel_rfl
theorem U5 {m:Int}:L6 (cf m).P 23 9 ti9:=⟨⟨_,p5,rfl⟩,qP,_,rfl,by decide,rfl,by decide⟩
theorem uW {m:Int}{n:Int}(lS:Bool)(nm:Nm)(H:Heap):vT (cf m).P lS nm H 5 162 (.t (.int .u8 n))=some (.t (.int .u64 (IntKind.wrap .u64 n)),[]):=by kernel_rfl
theorem ad4 {m:Int}{ev:bt}(aJ:aC (cf m) ev)(b0 b1 b2 b3 b4 b5 b6 b7:UInt8)(r:List UInt8):
 ∃z:Int,ai (cf m) 83 [.t (.str (b0::b1::b2::b3::b4::b5::b6::b7::r))] [] (.ret (.t (.int .u64 z)) [] []):=by
 refine AX.start 59 1 Tryz.func83 rfl (by decide) rfl rfl (by decide) ?_
 refine AX.seq ?_
 refine AX.region ?_
 refine aN.go (f:=0) aJ (aK rfl) ?_
 refine aN.nil ?_
 refine AX.seq ?_
 refine AX.q4 rfl rfl ?_
 refine AX.skip ?_
 refine AX.seq ?_
 refine AX.draw (f:=0) ah aJ ?_
 refine aV.go rfl (aI rfl) ?_
 refine aV.go rfl (jL rfl rfl qP rfl rfl) ?_
 refine aV.go rfl (qx rfl uW) ?_
 refine aV.go rfl (aI rfl) ?_
 refine aV.go rfl (jL rfl rfl qP rfl rfl) ?_
 refine aV.go rfl (qx rfl uW) ?_
 refine aV.go rfl (iT rfl rfl rfl) ?_
 refine aV.go rfl (iT rfl rfl rfl) ?_
 refine aV.go rfl (aI rfl) ?_
 refine aV.go rfl (jL rfl rfl qP rfl rfl) ?_
 refine aV.go rfl (qx rfl uW) ?_
 refine aV.go rfl (iT rfl rfl rfl) ?_
 refine aV.go rfl (iT rfl rfl rfl) ?_
 refine aV.go rfl (aI rfl) ?_
 refine aV.go rfl (jL rfl rfl qP rfl rfl) ?_
 refine aV.go rfl (qx rfl uW) ?_
 refine aV.go rfl (iT rfl rfl rfl) ?_
 refine aV.go rfl (iT rfl rfl rfl) ?_
 refine aV.go rfl (aI rfl) ?_
 refine aV.go rfl (jL rfl rfl qP rfl rfl) ?_
 refine aV.go rfl (qx rfl uW) ?_
 refine aV.go rfl (iT rfl rfl rfl) ?_
 refine aV.go rfl (iT rfl rfl rfl) ?_
 refine aV.go rfl (aI rfl) ?_
 refine aV.go rfl (jL rfl rfl qP rfl rfl) ?_
 refine aV.go rfl (qx rfl uW) ?_
 refine aV.go rfl (iT rfl rfl rfl) ?_
 refine aV.go rfl (iT rfl rfl rfl) ?_
 refine aV.go rfl (aI rfl) ?_
 refine aV.go rfl (jL rfl rfl qP rfl rfl) ?_
 refine aV.go rfl (qx rfl uW) ?_
 refine aV.go rfl (iT rfl rfl rfl) ?_
 refine aV.go rfl (iT rfl rfl rfl) ?_
 refine aV.go rfl (aI rfl) ?_
 refine aV.go rfl (jL rfl rfl qP rfl rfl) ?_
 refine aV.go rfl (qx rfl uW) ?_
 refine aV.go rfl (iT rfl rfl rfl) ?_
 refine aV.go rfl (iT rfl rfl rfl) ?_
 refine aV.go rfl (aK rfl) ?_
 refine aV.nil (gN rfl rfl ?_)
 refine AX.ret ?_
 exact⟨_,.inl rfl⟩
end
end Go.Proofs.YtfdnciimclnncaaGreatDoor.w
