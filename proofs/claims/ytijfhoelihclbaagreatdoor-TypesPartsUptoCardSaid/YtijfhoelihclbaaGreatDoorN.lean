/- schema: clones of rows, types of their own memory; copies, comparisons. -/
import Derived.Test.YtijfhoelihclbaaGreatDoorI
import Derived.Test.YtijfhoelihclbaaGreatDoorM
import Derived.Test.YtijfhoelihclbaaGreatDoorShelf
namespace Go.Proofs.YtijfhoelihclbaaGreatDoor.w
open Go Go.Abs
set_option linter.unusedVariables false
set_option maxRecDepth 100000
set_option maxHeartbeats 1000000
noncomputable section
noncomputable def descOf (t:TypeId):TypeDesc:=(Tryz.prog.underlying t).getD .bool
noncomputable def cf (m:Int):dh:={P:=live.prg,iT:=(live.cfg m).iT,oy:=fun f _=>f==1}
theorem ah {m:Int}:(cf m).P.prog.follows .mixedOrders=true:=by kernel_rfl
abbrev ti9:TI:={size:=1,bytes:=16,agg:=false,zero:=some (.t (.str [])),desc:=.string}
theorem j9 {m:Int}:(cf m).P.ty 9=some ti9:=by kernel_rfl
abbrev aiT:TI:={size:=1,bytes:=24,agg:=false,zero:=some (.bl),desc:=.slice 9}
theorem sI {m:Int}:(cf m).P.ty 23=some aiT:=by kernel_rfl
abbrev aiU:TI:={size:=1,bytes:=24,agg:=false,zero:=some (.bl),desc:=.slice 45}
theorem gK {m:Int}:(cf m).P.ty 31=some aiU:=by kernel_rfl
abbrev aiV:TI:={size:=1,bytes:=24,agg:=false,zero:=some (.bl),desc:=.slice 38}
theorem ig {m:Int}:(cf m).P.ty 36=some aiV:=by kernel_rfl
abbrev adU:TI:={size:=4,bytes:=72,agg:=true,zero:=some (.agg [.t (.int .u8 0),.t (.str []),.bl,.bl]),desc:=descOf 38}
theorem dW {m:Int}:(cf m).P.ty 38=some adU:=by kernel_rfl
abbrev adV:TI:={size:=5,bytes:=88,agg:=true,zero:=some (.agg [.t (.str []),.t (.int .u8 0),.t (.str []),.bl,.bl]),desc:=descOf 45}
theorem sJ {m:Int}:(cf m).P.ty 45=some adV:=by kernel_rfl
theorem YX {m:Int}:AZ (cf m).P 23 9 ti9:=⟨⟨_,sI,rfl⟩,j9,_,rfl,by decide,rfl,by decide⟩
theorem YY {m:Int}:AZ (cf m).P 31 45 adV:=⟨⟨_,gK,rfl⟩,sJ,_,rfl,by decide,rfl,by decide⟩
theorem SC {m:Int}:AZ (cf m).P 36 38 adU:=⟨⟨_,ig,rfl⟩,dW,_,rfl,by decide,rfl,by decide⟩
theorem kE {m:Int}:fN (cf m).P 38 2=some 2:=by kernel_rfl
theorem gQ {m:Int}:fN (cf m).P 38 3=some 3:=by kernel_rfl
theorem GH {m:Int}:fN (cf m).P 45 1=some 1:=by kernel_rfl
theorem qi {m:Int}{n:Int}(oy:Bool)(nm:Nm)(H:Heap):qN (cf m).P oy nm H 5 173 (.t (.int .u8 n))=some (.t (.int .u64 (IntKind.wrap .u64 n)),[]):=by kernel_rfl
theorem ND {m:Int}{ev:aS}(ai:aF (cf m) ev)(b0 b1 b2 b3 b4 b5 b6 b7:UInt8)(r:List UInt8):
  ∃z:Int,ay (cf m) 73 [.t (.str (b0::b1::b2::b3::b4::b5::b6::b7::r))] [] (.ret (.t (.int .u64 z)) [] []):=by
 refine AX.start 59 1 Tryz.func73 rfl (by decide) rfl rfl (by decide) ?_
 refine AX.seq ?_
 refine AX.region ?_
 refine au.go (f:=0) ai (aj rfl) ?_
 refine au.nil ?_
 refine AX.seq ?_
 refine AX.l8 rfl rfl ?_
 refine AX.skip ?_
 refine AX.seq ?_
 refine AX.draw (f:=0) ah ai ?_
 refine aJ.go rfl (ak rfl) ?_
 refine aJ.go rfl (gP rfl rfl j9 rfl rfl) ?_
 refine aJ.go rfl (mG rfl qi) ?_
 refine aJ.go rfl (ak rfl) ?_
 refine aJ.go rfl (gP rfl rfl j9 rfl rfl) ?_
 refine aJ.go rfl (mG rfl qi) ?_
 refine aJ.go rfl (fu rfl rfl rfl) ?_
 refine aJ.go rfl (fu rfl rfl rfl) ?_
 refine aJ.go rfl (ak rfl) ?_
 refine aJ.go rfl (gP rfl rfl j9 rfl rfl) ?_
 refine aJ.go rfl (mG rfl qi) ?_
 refine aJ.go rfl (fu rfl rfl rfl) ?_
 refine aJ.go rfl (fu rfl rfl rfl) ?_
 refine aJ.go rfl (ak rfl) ?_
 refine aJ.go rfl (gP rfl rfl j9 rfl rfl) ?_
 refine aJ.go rfl (mG rfl qi) ?_
 refine aJ.go rfl (fu rfl rfl rfl) ?_
 refine aJ.go rfl (fu rfl rfl rfl) ?_
 refine aJ.go rfl (ak rfl) ?_
 refine aJ.go rfl (gP rfl rfl j9 rfl rfl) ?_
 refine aJ.go rfl (mG rfl qi) ?_
 refine aJ.go rfl (fu rfl rfl rfl) ?_
 refine aJ.go rfl (fu rfl rfl rfl) ?_
 refine aJ.go rfl (ak rfl) ?_
 refine aJ.go rfl (gP rfl rfl j9 rfl rfl) ?_
 refine aJ.go rfl (mG rfl qi) ?_
 refine aJ.go rfl (fu rfl rfl rfl) ?_
 refine aJ.go rfl (fu rfl rfl rfl) ?_
 refine aJ.go rfl (ak rfl) ?_
 refine aJ.go rfl (gP rfl rfl j9 rfl rfl) ?_
 refine aJ.go rfl (mG rfl qi) ?_
 refine aJ.go rfl (fu rfl rfl rfl) ?_
 refine aJ.go rfl (fu rfl rfl rfl) ?_
 refine aJ.go rfl (ak rfl) ?_
 refine aJ.go rfl (gP rfl rfl j9 rfl rfl) ?_
 refine aJ.go rfl (mG rfl qi) ?_
 refine aJ.go rfl (fu rfl rfl rfl) ?_
 refine aJ.go rfl (fu rfl rfl rfl) ?_
 refine aJ.go rfl (aj rfl) ?_
 refine aJ.nil (dP rfl rfl ?_)
 refine AX.ret ?_
 exact⟨_,.inl rfl⟩
end
end Go.Proofs.YtijfhoelihclbaaGreatDoor.w
