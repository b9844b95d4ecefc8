/- Seat r5: the call 'lives()'. -/
import Derived.Test.YtijfhoelihclbaaGreatDoorX
namespace Go.Proofs.YtijfhoelihclbaaGreatDoor.live
open Go Go.Abs Go.RowKit
set_option maxRecDepth 100000
def Ub:List UInt8:=[91,49,44,32,34,97,34,93]
def Uc:Tree:=.bN [.agg [.int .u8 0,.str [],.sl [],.sl []],.int .i64 7]
theorem aju (m:Int):sH Uc (eA (cfg m) (JJ m) 300 15 [.t (.str Ub)] [])=true:=by kernel_rfl
def Ud:List UInt8:=[91,93]
def Ue:Tree:=.bN [.agg [.int .u8 5,.str [],.sl [.agg [.int .u8 0,.str [],.sl [],.sl []]],.sl []],.int .i64 0]
theorem ajv (m:Int):sH Ue (eA (cfg m) (JJ m) 300 15 [.t (.str Ud)] [])=true:=by kernel_rfl
def Uf:List UInt8:=[91,112,114,105,110,99,105,112,97,108,44,32,114,101,115,111,117,114,99,101,93]
def Ug:Tree:=.bN [.agg [.int .u8 5,.str [],.sl [.agg [.int .u8 4,.str [],.sl [],.sl []]],.sl []],.int .i64 0]
theorem ajw (m:Int):sH Ug (eA (cfg m) (JJ m) 300 15 [.t (.str Uf)] [])=true:=by kernel_rfl
def Uh:List UInt8:=[112,114,105,110,99,105,112,97,108,46,97,103,101,32,43,32,49]
def Ui:Tree:=.bN [.agg [.int .u8 2,.str [],.sl [],.sl []],.int .i64 0]
theorem ajx (m:Int):sH Ui (eA (cfg m) (JJ m) 300 15 [.t (.str Uh)] [])=true:=by kernel_rfl
def Uj:List UInt8:=[114,101,115,111,117,114,99,101,46,97,103,101]
def Uk:Tree:=.bN [.agg [.int .u8 0,.str [],.sl [],.sl []],.int .i64 8]
theorem ajy (m:Int):sH Uk (eA (cfg m) (JJ m) 300 15 [.t (.str Uj)] [])=true:=by kernel_rfl
def Ul:List (List UInt8×TV):=[(Ub,.t Uc),(Ud,.t Ue),(Uf,.t Ug),(Uh,.t Ui),(Uj,.t Uk)]
theorem sumOf (m:Int):lD (cfg m) 15 (mE Ul):=
 Ac (pn (ah m) (NT m) 300) (by
  rw[← pF]
  intro p hp
  simp only[Ul,List.mem_cons,List.not_mem_nil,or_false] at hp
  rcases hp with rfl|rfl|rfl|rfl|rfl
  · exact mF (aju m)
  · exact mF (ajv m)
  · exact mF (ajw m)
  · exact mF (ajx m)
  · exact mF (ajy m))
noncomputable def abm (m:Int):Ext:=fun|15=>some (mE Ul)|g=>JJ m g
theorem XP (m:Int):E7 (cfg m) (abm m):=x9 (by
 intro g s h
 unfold abm at h
 split at h
 · obtain rfl:=Option.some.inj h;exact sumOf m
 · exact NT m _ _ h)
theorem ajz (m:Int):Sq (eA (cfg m) (abm m) 300 6 [] [])=true:=by kernel_rfl
end Go.Proofs.YtijfhoelihclbaaGreatDoor.live
