/- schema: clones of rows, types of their own memory; copies, comparisons. -/
import Derived.Test.YtnfnihgmankidaaGreatDoorI
import Derived.Test.YtnfnihgmankidaaGreatDoorM
import Derived.Test.YtnfnihgmankidaaGreatDoorShelf
set_option linter.unusedVariables false
set_option linter.unusedSimpArgs false
namespace Go.Proofs.YtnfnihgmankidaaGreatDoor.w
open Go Go.Abs
set_option maxRecDepth 100000
set_option maxHeartbeats 1000000
noncomputable section
noncomputable def descOf (t:TypeId):TypeDesc:=(Tryz.prog.underlying t).getD .bool
noncomputable def cf (m:Int):cE:={P:=live.prg,iL:=(live.cfg m).iL,jy:=λf d=>f==1||Nat.testBit f (d+1)}
theorem ah {m:Int}:(cf m).P.prog.follows .mixedOrders=true:=by kernel_rfl
abbrev ti9:TI:={size:=1,bytes:=16,agg:=false,zero:=some (.t (.str [])),desc:=.string}
theorem nN {m:Int}:(cf m).P.ty 9=some ti9:=by kernel_rfl
abbrev ahR:TI:={size:=1,bytes:=24,agg:=false,zero:=some (.bX),desc:=.slice 9}
theorem qW {m:Int}:(cf m).P.ty 27=some ahR:=by kernel_rfl
theorem ZL {m:Int}:Bw (cf m).P 27 9 ti9:=⟨⟨_,qW,rfl⟩,nN,_,rfl,by decide,rfl,by decide⟩
theorem qA {m:Int}{n:Int}(jy:Bool)(nm:Nm)(H:Heap):q5 (cf m).P jy nm H 5 177 (.t (.int .u8 n))=some (.t (.int .u64 (IntKind.wrap .u64 n)),[]):=by kernel_rfl
theorem XM {m:Int}{ev:aT}(aC:aF (cf m) ev)(b0 b1 b2 b3 b4 b5 b6 b7:UInt8)(r:List UInt8):
 ∃z:Int,aq (cf m) 117 [.t (.str (b0::b1::b2::b3::b4::b5::b6::b7::r))] [] (.ret (.t (.int .u64 z)) [] []):=by
 refine AX.start 59 1 Tryz.func117 rfl (by decide) rfl rfl (by decide) ?_
 refine AX.seq ?_
 refine AX.region ?_
 refine aG.go (f:=0) aC (az rfl) ?_
 refine aG.nil ?_
 refine AX.seq ?_
 refine AX.nE rfl rfl ?_
 refine AX.skip ?_
 refine AX.seq ?_
 refine AX.draw (f:=0) ah aC ?_
 refine aJ.go rfl (av rfl) ?_
 refine aJ.go rfl (gJ rfl rfl nN rfl rfl) ?_
 refine aJ.go rfl (mM rfl qA) ?_
 refine aJ.go rfl (av rfl) ?_
 refine aJ.go rfl (gJ rfl rfl nN rfl rfl) ?_
 refine aJ.go rfl (mM rfl qA) ?_
 refine aJ.go rfl (fA rfl rfl rfl) ?_
 refine aJ.go rfl (fA rfl rfl rfl) ?_
 refine aJ.go rfl (av rfl) ?_
 refine aJ.go rfl (gJ rfl rfl nN rfl rfl) ?_
 refine aJ.go rfl (mM rfl qA) ?_
 refine aJ.go rfl (fA rfl rfl rfl) ?_
 refine aJ.go rfl (fA rfl rfl rfl) ?_
 refine aJ.go rfl (av rfl) ?_
 refine aJ.go rfl (gJ rfl rfl nN rfl rfl) ?_
 refine aJ.go rfl (mM rfl qA) ?_
 refine aJ.go rfl (fA rfl rfl rfl) ?_
 refine aJ.go rfl (fA rfl rfl rfl) ?_
 refine aJ.go rfl (av rfl) ?_
 refine aJ.go rfl (gJ rfl rfl nN rfl rfl) ?_
 refine aJ.go rfl (mM rfl qA) ?_
 refine aJ.go rfl (fA rfl rfl rfl) ?_
 refine aJ.go rfl (fA rfl rfl rfl) ?_
 refine aJ.go rfl (av rfl) ?_
 refine aJ.go rfl (gJ rfl rfl nN rfl rfl) ?_
 refine aJ.go rfl (mM rfl qA) ?_
 refine aJ.go rfl (fA rfl rfl rfl) ?_
 refine aJ.go rfl (fA rfl rfl rfl) ?_
 refine aJ.go rfl (av rfl) ?_
 refine aJ.go rfl (gJ rfl rfl nN rfl rfl) ?_
 refine aJ.go rfl (mM rfl qA) ?_
 refine aJ.go rfl (fA rfl rfl rfl) ?_
 refine aJ.go rfl (fA rfl rfl rfl) ?_
 refine aJ.go rfl (av rfl) ?_
 refine aJ.go rfl (gJ rfl rfl nN rfl rfl) ?_
 refine aJ.go rfl (mM rfl qA) ?_
 refine aJ.go rfl (fA rfl rfl rfl) ?_
 refine aJ.go rfl (fA rfl rfl rfl) ?_
 refine aJ.go rfl (az rfl) ?_
 refine aJ.nil (eF rfl rfl ?_)
 refine AX.ret ?_
 exact⟨_,.inl rfl⟩
end
end Go.Proofs.YtnfnihgmankidaaGreatDoor.w
