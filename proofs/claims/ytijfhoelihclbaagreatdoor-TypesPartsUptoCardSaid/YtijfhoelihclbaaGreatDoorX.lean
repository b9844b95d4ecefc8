/- Seat r5: words, tables, and the call 'lives()'. -/
import Derived.Test.YtijfhoelihclbaaGreatDoorM
import Derived.Laws.Cover3
import Derived.KernelRfl
namespace Go.Proofs.YtijfhoelihclbaaGreatDoor.live
open Go Go.Abs Go.RowKit
set_option maxRecDepth 100000
theorem Xy (a:Option Addr)(cap:Nat)(w:World):Calls Tryz.prog 52 #[.slice a 0 cap] w fun e w'=>(∃a' c',e=.returned (.slice a' 0 c'))∧Below w.heap.size w w':=by
 have he:∀(b:Option Addr) (n c:Nat) (w:World),(binOp .eql 23 (.slice b n c) (.slice none 0 0)).run Tryz.prog w=.ok (.bool b.isNone) w:=fun b n c w=>by
  have:=run_equal_slice_nil (P:=Tryz.prog) (w:=w) 23 _ b n c Tryz.underlying23
  simp[binOp,this]
 cases a with
 |none=>
  go_enter Tryz.func52,Tryz.ntmps52
  go_wp2
  go_ret
  exact⟨⟨_,_,rfl⟩,Below.refl _ _⟩
 |some a=>
  go_enter Tryz.func52,Tryz.ntmps52
  go_wp2
  go_ret
  exact⟨⟨_,_,rfl⟩,by repeat (first|exact Below.refl _ _|refine Below.drew ?_|refine Below.alloc ?_ (Nat.le_refl _) _)⟩
theorem Md (m:Int):lD (cfg m) 52 (nh (cfg m) 300 52):=
 uv (C:=cfg m) (ah m) (fun args w=>en 52 Tryz.f52 Tryz.func52 (by kernel_rfl) _ rfl args w) (fun a cap w=>Xy a cap w)
theorem Xz (a:Option Addr)(cap:Nat)(w:World):Calls Tryz.prog 64 #[.slice a 0 cap] w fun e w'=>(∃a' c',e=.returned (.slice a' 0 c'))∧Below w.heap.size w w':=by
 have he:∀(b:Option Addr) (n c:Nat) (w:World),(binOp .eql 36 (.slice b n c) (.slice none 0 0)).run Tryz.prog w=.ok (.bool b.isNone) w:=fun b n c w=>by
  have:=run_equal_slice_nil (P:=Tryz.prog) (w:=w) 36 _ b n c Tryz.underlying36
  simp[binOp,this]
 cases a with
 |none=>
  go_enter Tryz.func64,Tryz.ntmps64
  go_wp2
  go_ret
  exact⟨⟨_,_,rfl⟩,Below.refl _ _⟩
 |some a=>
  go_enter Tryz.func64,Tryz.ntmps64
  go_wp2
  go_ret
  exact⟨⟨_,_,rfl⟩,by repeat (first|exact Below.refl _ _|refine Below.drew ?_|refine Below.alloc ?_ (Nat.le_refl _) _)⟩
theorem Me (m:Int):lD (cfg m) 64 (nh (cfg m) 300 64):=
 uv (C:=cfg m) (ah m) (fun args w=>en 64 Tryz.f64 Tryz.func64 (by kernel_rfl) _ rfl args w) (fun a cap w=>Xz a cap w)
theorem XA (a:Option Addr)(cap:Nat)(w:World):Calls Tryz.prog 65 #[.slice a 0 cap] w fun e w'=>(∃a' c',e=.returned (.slice a' 0 c'))∧Below w.heap.size w w':=by
 have he:∀(b:Option Addr) (n c:Nat) (w:World),(binOp .eql 31 (.slice b n c) (.slice none 0 0)).run Tryz.prog w=.ok (.bool b.isNone) w:=fun b n c w=>by
  have:=run_equal_slice_nil (P:=Tryz.prog) (w:=w) 31 _ b n c Tryz.underlying31
  simp[binOp,this]
 cases a with
 |none=>
  go_enter Tryz.func65,Tryz.ntmps65
  go_wp2
  go_ret
  exact⟨⟨_,_,rfl⟩,Below.refl _ _⟩
 |some a=>
  go_enter Tryz.func65,Tryz.ntmps65
  go_wp2
  go_ret
  exact⟨⟨_,_,rfl⟩,by repeat (first|exact Below.refl _ _|refine Below.drew ?_|refine Below.alloc ?_ (Nat.le_refl _) _)⟩
theorem Mf (m:Int):lD (cfg m) 65 (nh (cfg m) 300 65):=
 uv (C:=cfg m) (ah m) (fun args w=>en 65 Tryz.f65 Tryz.func65 (by kernel_rfl) _ rfl args w) (fun a cap w=>XA a cap w)
theorem w1 (m:Int):uY Ab (eA (cfg m) (jG m) 300 70 [.t (.str YP)] [])=true:=by kernel_rfl
theorem w2 (m:Int):uY ur (eA (cfg m) (jG m) 300 70 [.t (.str Se)] [])=true:=by kernel_rfl
theorem w3 (m:Int):uY Sc (eA (cfg m) (jG m) 300 70 [.t (.str YQ)] [])=true:=by kernel_rfl
theorem w4 (m:Int):uY Sd (eA (cfg m) (jG m) 300 70 [.t (.str YR)] [])=true:=by kernel_rfl
theorem Dg (m:Int):lD (cfg m) 70 (mE ng):=
 Ac (pn (ah m) (yg m) 300) (by
  rw[← pF]
  intro p hp
  simp only[ng,List.mem_cons,List.not_mem_nil,or_false] at hp
  rcases hp with rfl|rfl|rfl|rfl
  · exact sG (w1 m)
  · exact sG (w2 m)
  · exact sG (w3 m)
  · exact sG (w4 m))
noncomputable def ext1 (m:Int):Ext:=fun|70=>some (mE ng)|52=>some (nh (cfg m) 300 52)|64=>some (nh (cfg m) 300 64)|65=>some (nh (cfg m) 300 65)|g=>jG m g
theorem NS (m:Int):E7 (cfg m) (ext1 m):=x9 (by
 intro g s h
 unfold ext1 at h
 split at h
 · obtain rfl:=Option.some.inj h;exact Dg m
 · obtain rfl:=Option.some.inj h;exact Md m
 · obtain rfl:=Option.some.inj h;exact Me m
 · obtain rfl:=Option.some.inj h;exact Mf m
 · exact yg m _ _ h)
def Tl:List UInt8:=[101,110,116,105,116,121,32,85,115,101,114,32,123,97,103,101,58,32,76,111,110,103,125,59,32,101,110,116,105,116,121,32,68,111,99,32,123,125,59]
def Tm:Tree:=.bN [.agg [.sl [.agg [.str [85,115,101,114],.sl [],.sl [.agg [.str [97,103,101],.int .u8 2,.str [],.sl [],.sl []]]],.agg [.str [68,111,99],.sl [],.sl []]],.sl []],.int .i64 0,.int .i64 0]
theorem pIs (m:Int):sH Tm (eA (cfg m) (ext1 m) 300 50 [.t (.str Tl)] [])=true:=by kernel_rfl
theorem Tn (m:Int):lD (cfg m) 50 (mE [(Tl,.t Tm)]):=
 Ac (pn (ah m) (NS m) 300) (by
  rw[← pF]
  intro p hp
  simp only[List.mem_cons,List.not_mem_nil,or_false] at hp
  subst hp
  exact mF (pIs m))
noncomputable def JJ (m:Int):Ext:=fun|50=>some (mE [(Tl,.t Tm)])|g=>ext1 m g
theorem NT (m:Int):E7 (cfg m) (JJ m):=x9 (by
 intro g s h
 unfold JJ at h
 split at h
 · obtain rfl:=Option.some.inj h;exact Tn m
 · exact NS m _ _ h)
end Go.Proofs.YtijfhoelihclbaaGreatDoor.live
