/- schema: clones of rows, types of their own memory; copies, comparisons. -/
import Derived.Test.YtacmmaaabfhhoaaGreatDoorI
import Derived.Test.YtacmmaaabfhhoaaGreatDoorM
import Derived.Test.YtacmmaaabfhhoaaGreatDoorShelf
set_option linter.unusedVariables false
set_option linter.unusedSimpArgs false
namespace Go.Proofs.YtacmmaaabfhhoaaGreatDoor.w
open Go Go.Abs
set_option maxRecDepth 100000
set_option maxHeartbeats 1000000
noncomputable section
noncomputable def descOf (t:TypeId):TypeDesc:=(Tryz.prog.underlying t).getD .bool
noncomputable def cf (m:Int):cE:={P:=live.prg,iC:=(live.cfg m).iC,jD:=λf d=>f==1||Nat.testBit f (d+1)}
theorem ah {m:Int}:(cf m).P.prog.follows .mixedOrders=true:=by kernel_rfl
abbrev ti9:TI:={size:=1,bytes:=16,agg:=false,zero:=some (.t (.str [])),desc:=.string}
theorem l5 {m:Int}:(cf m).P.ty 9=some ti9:=by kernel_rfl
abbrev afz:TI:={size:=1,bytes:=24,agg:=false,zero:=some (.bJ),desc:=.slice 9}
theorem kS {m:Int}:(cf m).P.ty 26=some afz:=by kernel_rfl
theorem X9 {m:Int}:wI (cf m).P 26 9 ti9:=⟨⟨_,kS,rfl⟩,l5,_,rfl,by decide,rfl,by decide⟩
theorem qG {m:Int}{n:Int}(jD:Bool)(nm:Nm)(H:Heap):rz (cf m).P jD nm H 5 192 (.t (.int .u8 n))=some (.t (.int .u64 (IntKind.wrap .u64 n)),[]):=by kernel_rfl
theorem VJ {m:Int}{ev:aX}(az:aF (cf m) ev)(b0 b1 b2 b3 b4 b5 b6 b7:UInt8)(r:List UInt8):
 ∃z:Int,ai (cf m) 77 [.t (.str (b0::b1::b2::b3::b4::b5::b6::b7::r))] [] (.ret (.t (.int .u64 z)) [] []):=by
 refine AX.start 59 1 Tryz.func77 rfl (by decide) rfl rfl (by decide) ?_
 refine AX.seq ?_
 refine AX.region ?_
 refine aC.go (f:=0) az (aB rfl) ?_
 refine aC.nil ?_
 refine AX.seq ?_
 refine AX.nU rfl rfl ?_
 refine AX.skip ?_
 refine AX.seq ?_
 refine AX.draw (f:=0) ah az ?_
 refine aL.go rfl (au rfl) ?_
 refine aL.go rfl (iD rfl rfl l5 rfl rfl) ?_
 refine aL.go rfl (nx rfl qG) ?_
 refine aL.go rfl (au rfl) ?_
 refine aL.go rfl (iD rfl rfl l5 rfl rfl) ?_
 refine aL.go rfl (nx rfl qG) ?_
 refine aL.go rfl (fX rfl rfl rfl) ?_
 refine aL.go rfl (fX rfl rfl rfl) ?_
 refine aL.go rfl (au rfl) ?_
 refine aL.go rfl (iD rfl rfl l5 rfl rfl) ?_
 refine aL.go rfl (nx rfl qG) ?_
 refine aL.go rfl (fX rfl rfl rfl) ?_
 refine aL.go rfl (fX rfl rfl rfl) ?_
 refine aL.go rfl (au rfl) ?_
 refine aL.go rfl (iD rfl rfl l5 rfl rfl) ?_
 refine aL.go rfl (nx rfl qG) ?_
 refine aL.go rfl (fX rfl rfl rfl) ?_
 refine aL.go rfl (fX rfl rfl rfl) ?_
 refine aL.go rfl (au rfl) ?_
 refine aL.go rfl (iD rfl rfl l5 rfl rfl) ?_
 refine aL.go rfl (nx rfl qG) ?_
 refine aL.go rfl (fX rfl rfl rfl) ?_
 refine aL.go rfl (fX rfl rfl rfl) ?_
 refine aL.go rfl (au rfl) ?_
 refine aL.go rfl (iD rfl rfl l5 rfl rfl) ?_
 refine aL.go rfl (nx rfl qG) ?_
 refine aL.go rfl (fX rfl rfl rfl) ?_
 refine aL.go rfl (fX rfl rfl rfl) ?_
 refine aL.go rfl (au rfl) ?_
 refine aL.go rfl (iD rfl rfl l5 rfl rfl) ?_
 refine aL.go rfl (nx rfl qG) ?_
 refine aL.go rfl (fX rfl rfl rfl) ?_
 refine aL.go rfl (fX rfl rfl rfl) ?_
 refine aL.go rfl (au rfl) ?_
 refine aL.go rfl (iD rfl rfl l5 rfl rfl) ?_
 refine aL.go rfl (nx rfl qG) ?_
 refine aL.go rfl (fX rfl rfl rfl) ?_
 refine aL.go rfl (fX rfl rfl rfl) ?_
 refine aL.go rfl (aB rfl) ?_
 refine aL.nil (eD rfl rfl ?_)
 refine AX.ret ?_
 exact⟨_,.inl rfl⟩
end
end Go.Proofs.YtacmmaaabfhhoaaGreatDoor.w
