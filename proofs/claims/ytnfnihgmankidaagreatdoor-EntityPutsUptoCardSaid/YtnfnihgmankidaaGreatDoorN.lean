/- schema: clones of rows, types of their own memory; copies, comparisons. -/
import Derived.Test.YtnfnihgmankidaaGreatDoorI
import Derived.Test.YtnfnihgmankidaaGreatDoorM
import Derived.Test.YtnfnihgmankidaaGreatDoorShelf
set_option linter.unusedVariables false
set_option linter.unusedSimpArgs false
namespace Go.Proofs.YtnfnihgmankidaaGreatDoor.w
open Go Go.Abs
set_option maxRecDepth 100000
set_option maxHeartbeats 1000000
noncomputable section
noncomputable def descOf (t:TypeId):TypeDesc:=(Tryz.prog.underlying t).getD .bool
noncomputable def cf (m:Int):cE:={P:=live.prg,iT:=(live.cfg m).iT,jN:=λf d=>f==1||Nat.testBit f (d+1)}
theorem ai {m:Int}:(cf m).P.prog.follows .mixedOrders=true:=by kernel_rfl
abbrev ti9:TI:={size:=1,bytes:=16,agg:=false,zero:=some (.t (.str [])),desc:=.string}
theorem nh {m:Int}:(cf m).P.ty 9=some ti9:=by kernel_rfl
abbrev ahf:TI:={size:=1,bytes:=24,agg:=false,zero:=some (.cc),desc:=.slice 9}
theorem pG {m:Int}:(cf m).P.ty 27=some ahf:=by kernel_rfl
theorem aaf {m:Int}:BV (cf m).P 27 9 ti9:=⟨⟨_,pG,rfl⟩,nh,_,rfl,by decide,rfl,by decide⟩
theorem rL {m:Int}{n:Int}(jN:Bool)(nm:Nm)(H:Heap):sG (cf m).P jN nm H 5 177 (.t (.int .u8 n))=some (.t (.int .u64 (IntKind.wrap .u64 n)),[]):=by kernel_rfl
theorem X0 {m:Int}{ev:aW}(aC:aI (cf m) ev)(b0 b1 b2 b3 b4 b5 b6 b7:UInt8)(r:List UInt8):
 ∃z:Int,aq (cf m) 117 [.t (.str (b0::b1::b2::b3::b4::b5::b6::b7::r))] [] (.ret (.t (.int .u64 z)) [] []):=by
 refine AX.start 59 1 Tryz.func117 rfl (by decide) rfl rfl (by decide) ?_
 refine AX.seq ?_
 refine AX.region ?_
 refine aG.go (f:=0) aC (aD rfl) ?_
 refine aG.nil ?_
 refine AX.seq ?_
 refine AX.ov rfl rfl ?_
 refine AX.skip ?_
 refine AX.seq ?_
 refine AX.draw (f:=0) ai aC ?_
 refine aQ.go rfl (az rfl) ?_
 refine aQ.go rfl (gU rfl rfl nh rfl rfl) ?_
 refine aQ.go rfl (nx rfl rL) ?_
 refine aQ.go rfl (az rfl) ?_
 refine aQ.go rfl (gU rfl rfl nh rfl rfl) ?_
 refine aQ.go rfl (nx rfl rL) ?_
 refine aQ.go rfl (fD rfl rfl rfl) ?_
 refine aQ.go rfl (fD rfl rfl rfl) ?_
 refine aQ.go rfl (az rfl) ?_
 refine aQ.go rfl (gU rfl rfl nh rfl rfl) ?_
 refine aQ.go rfl (nx rfl rL) ?_
 refine aQ.go rfl (fD rfl rfl rfl) ?_
 refine aQ.go rfl (fD rfl rfl rfl) ?_
 refine aQ.go rfl (az rfl) ?_
 refine aQ.go rfl (gU rfl rfl nh rfl rfl) ?_
 refine aQ.go rfl (nx rfl rL) ?_
 refine aQ.go rfl (fD rfl rfl rfl) ?_
 refine aQ.go rfl (fD rfl rfl rfl) ?_
 refine aQ.go rfl (az rfl) ?_
 refine aQ.go rfl (gU rfl rfl nh rfl rfl) ?_
 refine aQ.go rfl (nx rfl rL) ?_
 refine aQ.go rfl (fD rfl rfl rfl) ?_
 refine aQ.go rfl (fD rfl rfl rfl) ?_
 refine aQ.go rfl (az rfl) ?_
 refine aQ.go rfl (gU rfl rfl nh rfl rfl) ?_
 refine aQ.go rfl (nx rfl rL) ?_
 refine aQ.go rfl (fD rfl rfl rfl) ?_
 refine aQ.go rfl (fD rfl rfl rfl) ?_
 refine aQ.go rfl (az rfl) ?_
 refine aQ.go rfl (gU rfl rfl nh rfl rfl) ?_
 refine aQ.go rfl (nx rfl rL) ?_
 refine aQ.go rfl (fD rfl rfl rfl) ?_
 refine aQ.go rfl (fD rfl rfl rfl) ?_
 refine aQ.go rfl (az rfl) ?_
 refine aQ.go rfl (gU rfl rfl nh rfl rfl) ?_
 refine aQ.go rfl (nx rfl rL) ?_
 refine aQ.go rfl (fD rfl rfl rfl) ?_
 refine aQ.go rfl (fD rfl rfl rfl) ?_
 refine aQ.go rfl (aD rfl) ?_
 refine aQ.nil (eT rfl rfl ?_)
 refine AX.ret ?_
 exact⟨_,.inl rfl⟩
end
end Go.Proofs.YtnfnihgmankidaaGreatDoor.w
