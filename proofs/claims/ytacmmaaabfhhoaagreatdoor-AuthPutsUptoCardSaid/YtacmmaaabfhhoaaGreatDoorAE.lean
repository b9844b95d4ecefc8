/- What the law asks ahead is so. -/
import Derived.Test.YtacmmaaabfhhoaaGreatDoorAD
set_option linter.unusedVariables false
set_option linter.unusedSimpArgs false
namespace Go.Proofs.YtacmmaaabfhhoaaGreatDoor.w.e
open Go Go.Abs Go.RowKit Go.Lib
set_option maxRecDepth 100000
set_option maxHeartbeats 2000000
noncomputable section
def txP:List UInt8:=[112,101,114,109,105,116,40,112,114,105,110,99,105,112,97,108,44,32,97,99,116,105,111,110,44,32,114,101,115,111,117,114,99,101,41,59]
def txF:List UInt8:=[102,111,114,98,105,100,40,112,114,105,110,99,105,112,97,108,44,32,97,99,116,105,111,110,44,32,114,101,115,111,117,114,99,101,41,59]
theorem abb (m:Int):ai (cf m) 19 [.t (.str txP)] [] (.ret (.t (.dr [pol true,.int .i64 0,.int .i64 0])) [] []):=ou (by kernel_rfl)
theorem abd (m:Int):ai (cf m) 19 [.t (.str txF)] [] (.ret (.t (.dr [pol false,.int .i64 0,.int .i64 0])) [] []):=ou (by kernel_rfl)
def L6:List (List Tree×Tree):=[([.str txP],.dr [pol true,.int .i64 0,.int .i64 0]),([.str txF],.dr [pol false,.int .i64 0,.int .i64 0])]
theorem Pn (m:Int):jF (xR m) 19 (r7 L6):=zj λp hp=>by
 simp only[L6,List.mem_cons,List.not_mem_nil,or_false] at hp;rcases hp with rfl|rfl
 ·exact O8 (abb m)
 ·exact O8 (abd m)
def UW:List (List Tree×Tree):=[([bd,q0,.sl []],.dr [vT,.int .i64 0])]
theorem UX (m:Int):jF (xR m) 26 (r7 UW):=zj λp hp=>by
 simp only[UW,List.mem_cons,List.not_mem_nil,or_false] at hp;rcases hp with rfl;exact O8 (aa9 m)
def abe (m:Int):Ext:=λ
 |19=>some (r7 L6)
 |26=>some (r7 UW)
 |g=>ext1 m g
theorem XG (m:Int):Ao (xR m) (abe m):=rK (by
 intro g s h;unfold abe at h;split at h<;>first
  |(obtain rfl:=Option.some.inj h;first|exact Pn m|exact UX m)
  |exact M5 m g s h)
theorem XH (m:Int):rM (xR m) (abe m) 300 7 [] []=some (.ret (.t (.bool true)) [] []):=by kernel_rfl
theorem UY (m:Int):R0 (cf m) 7 (.bool true):=by
 have h:=XH m;rw[rN] at h;exact Xm λG w vs hw hg ha hh hv=>rH (pO m) (XG m) 300 _ _ _ _ h G w vs hw hg ha hh hv
end
end Go.Proofs.YtacmmaaabfhhoaaGreatDoor.w.e
