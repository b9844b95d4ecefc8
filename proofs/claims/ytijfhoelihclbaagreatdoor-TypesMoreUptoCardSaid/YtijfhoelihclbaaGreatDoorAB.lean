/- Seat r5: the call 'lives()'. -/
import Derived.Test.YtijfhoelihclbaaGreatDoorX
namespace Go.Proofs.YtijfhoelihclbaaGreatDoor.live
open Go Go.Abs Go.RowKit
set_option maxRecDepth 100000
def UN:List UInt8:=[91,49,44,32,34,97,34,93]
def UO:Tree:=.bX [.agg [.int .u8 0,.str [],.sl [],.sl []],.int .i64 7]
theorem akl (m:Int):tM UO (fe (cfg m) (Kn m) 300 15 [.t (.str UN)] [])=true:=by kernel_rfl
def UQ:List UInt8:=[91,93]
def UR:Tree:=.bX [.agg [.int .u8 5,.str [],.sl [.agg [.int .u8 0,.str [],.sl [],.sl []]],.sl []],.int .i64 0]
theorem akm (m:Int):tM UR (fe (cfg m) (Kn m) 300 15 [.t (.str UQ)] [])=true:=by kernel_rfl
def UT:List UInt8:=[91,112,114,105,110,99,105,112,97,108,44,32,114,101,115,111,117,114,99,101,93]
def UU:Tree:=.bX [.agg [.int .u8 5,.str [],.sl [.agg [.int .u8 4,.str [],.sl [],.sl []]],.sl []],.int .i64 0]
theorem akn (m:Int):tM UU (fe (cfg m) (Kn m) 300 15 [.t (.str UT)] [])=true:=by kernel_rfl
def UW:List UInt8:=[112,114,105,110,99,105,112,97,108,46,97,103,101,32,43,32,49]
def UX:Tree:=.bX [.agg [.int .u8 2,.str [],.sl [],.sl []],.int .i64 0]
theorem ako (m:Int):tM UX (fe (cfg m) (Kn m) 300 15 [.t (.str UW)] [])=true:=by kernel_rfl
def UY:List UInt8:=[114,101,115,111,117,114,99,101,46,97,103,101]
def UZ:Tree:=.bX [.agg [.int .u8 0,.str [],.sl [],.sl []],.int .i64 8]
theorem akp (m:Int):tM UZ (fe (cfg m) (Kn m) 300 15 [.t (.str UY)] [])=true:=by kernel_rfl
def U0:List (List UInt8×TV):=[(UN,.t UO),(UQ,.t UR),(UT,.t UU),(UW,.t UX),(UY,.t UZ)]
theorem sumOf (m:Int):mG (cfg m) 15 (nG U0):=
 A6 (qo (ah m) (OE m) 300) (by
  rw[← qx]
  intro p hp
  simp only[U0,List.mem_cons,List.not_mem_nil,or_false] at hp
  rcases hp with rfl|rfl|rfl|rfl|rfl
  · exact nH (akl m)
  · exact nH (akm m)
  · exact nH (akn m)
  · exact nH (ako m)
  · exact nH (akp m))
noncomputable def acr (m:Int):Ext:=fun|15=>some (nG U0)|g=>Kn m g
theorem YM (m:Int):FL (cfg m) (acr m):=yZ (by
 intro g s h
 unfold acr at h
 split at h
 · obtain rfl:=Option.some.inj h;exact sumOf m
 · exact OE m _ _ h)
theorem akq (m:Int):Tc (fe (cfg m) (acr m) 300 6 [] [])=true:=by kernel_rfl
end Go.Proofs.YtijfhoelihclbaaGreatDoor.live
