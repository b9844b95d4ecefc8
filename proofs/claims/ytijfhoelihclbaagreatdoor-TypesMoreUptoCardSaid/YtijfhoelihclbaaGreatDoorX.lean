/- Seat r5: words, tables, and the call 'lives()'. -/
import Derived.Test.YtijfhoelihclbaaGreatDoorM
import Derived.Laws.Cover3
import Derived.KernelRfl
namespace Go.Proofs.YtijfhoelihclbaaGreatDoor.live
open Go Go.Abs Go.RowKit
set_option maxRecDepth 100000
theorem Yv (a:Option Addr)(cap:Nat)(w:World):Calls Tryz.prog 52 #[.slice a 0 cap] w fun e w'=>(∃a' c',e=.returned (.slice a' 0 c'))∧Below w.heap.size w w':=by
 have he:∀(b:Option Addr) (n c:Nat) (w:World),(binOp .eql 23 (.slice b n c) (.slice none 0 0)).run Tryz.prog w=.ok (.bool b.isNone) w:=fun b n c w=>by
  have:=run_equal_slice_nil (P:=Tryz.prog) (w:=w) 23 _ b n c Tryz.underlying23
  simp[binOp,this]
 cases a with
 |none=>
  go_enter Tryz.func52,Tryz.ntmps52
  go_wp2
  go_ret
  exact⟨⟨_,_,rfl⟩,Below.refl _ _⟩
 |some a=>
  go_enter Tryz.func52,Tryz.ntmps52
  go_wp2
  go_ret
  exact⟨⟨_,_,rfl⟩,by repeat (first|exact Below.refl _ _|refine Below.drew ?_|refine Below.alloc ?_ (Nat.le_refl _) _)⟩
theorem MV (m:Int):mG (cfg m) 52 (ov (cfg m) 300 52):=
 vC (C:=cfg m) (ah m) (fun args w=>en 52 Tryz.f52 Tryz.func52 (by kernel_rfl) _ rfl args w) (fun a cap w=>Yv a cap w)
theorem Yw (a:Option Addr)(cap:Nat)(w:World):Calls Tryz.prog 64 #[.slice a 0 cap] w fun e w'=>(∃a' c',e=.returned (.slice a' 0 c'))∧Below w.heap.size w w':=by
 have he:∀(b:Option Addr) (n c:Nat) (w:World),(binOp .eql 36 (.slice b n c) (.slice none 0 0)).run Tryz.prog w=.ok (.bool b.isNone) w:=fun b n c w=>by
  have:=run_equal_slice_nil (P:=Tryz.prog) (w:=w) 36 _ b n c Tryz.underlying36
  simp[binOp,this]
 cases a with
 |none=>
  go_enter Tryz.func64,Tryz.ntmps64
  go_wp2
  go_ret
  exact⟨⟨_,_,rfl⟩,Below.refl _ _⟩
 |some a=>
  go_enter Tryz.func64,Tryz.ntmps64
  go_wp2
  go_ret
  exact⟨⟨_,_,rfl⟩,by repeat (first|exact Below.refl _ _|refine Below.drew ?_|refine Below.alloc ?_ (Nat.le_refl _) _)⟩
theorem MW (m:Int):mG (cfg m) 64 (ov (cfg m) 300 64):=
 vC (C:=cfg m) (ah m) (fun args w=>en 64 Tryz.f64 Tryz.func64 (by kernel_rfl) _ rfl args w) (fun a cap w=>Yw a cap w)
theorem Yx (a:Option Addr)(cap:Nat)(w:World):Calls Tryz.prog 65 #[.slice a 0 cap] w fun e w'=>(∃a' c',e=.returned (.slice a' 0 c'))∧Below w.heap.size w w':=by
 have he:∀(b:Option Addr) (n c:Nat) (w:World),(binOp .eql 31 (.slice b n c) (.slice none 0 0)).run Tryz.prog w=.ok (.bool b.isNone) w:=fun b n c w=>by
  have:=run_equal_slice_nil (P:=Tryz.prog) (w:=w) 31 _ b n c Tryz.underlying31
  simp[binOp,this]
 cases a with
 |none=>
  go_enter Tryz.func65,Tryz.ntmps65
  go_wp2
  go_ret
  exact⟨⟨_,_,rfl⟩,Below.refl _ _⟩
 |some a=>
  go_enter Tryz.func65,Tryz.ntmps65
  go_wp2
  go_ret
  exact⟨⟨_,_,rfl⟩,by repeat (first|exact Below.refl _ _|refine Below.drew ?_|refine Below.alloc ?_ (Nat.le_refl _) _)⟩
theorem MX (m:Int):mG (cfg m) 65 (ov (cfg m) 300 65):=
 vC (C:=cfg m) (ah m) (fun args w=>en 65 Tryz.f65 Tryz.func65 (by kernel_rfl) _ rfl args w) (fun a cap w=>Yx a cap w)
theorem w1 (m:Int):wE A5 (fe (cfg m) (kq m) 300 70 [.t (.str ZY)] [])=true:=by kernel_rfl
theorem w2 (m:Int):wE vB (fe (cfg m) (kq m) 300 70 [.t (.str S1)] [])=true:=by kernel_rfl
theorem w3 (m:Int):wE SZ (fe (cfg m) (kq m) 300 70 [.t (.str ZZ)] [])=true:=by kernel_rfl
theorem w4 (m:Int):wE S0 (fe (cfg m) (kq m) 300 70 [.t (.str Z0)] [])=true:=by kernel_rfl
theorem DY (m:Int):mG (cfg m) 70 (nG ou):=
 A6 (qo (ah m) (zb m) 300) (by
  rw[← qx]
  intro p hp
  simp only[ou,List.mem_cons,List.not_mem_nil,or_false] at hp
  rcases hp with rfl|rfl|rfl|rfl
  · exact tL (w1 m)
  · exact tL (w2 m)
  · exact tL (w3 m)
  · exact tL (w4 m))
noncomputable def ext1 (m:Int):Ext:=fun|70=>some (nG ou)|52=>some (ov (cfg m) 300 52)|64=>some (ov (cfg m) 300 64)|65=>some (ov (cfg m) 300 65)|g=>kq m g
theorem OD (m:Int):FL (cfg m) (ext1 m):=yZ (by
 intro g s h
 unfold ext1 at h
 split at h
 · obtain rfl:=Option.some.inj h;exact DY m
 · obtain rfl:=Option.some.inj h;exact MV m
 · obtain rfl:=Option.some.inj h;exact MW m
 · obtain rfl:=Option.some.inj h;exact MX m
 · exact zb m _ _ h)
def T9:List UInt8:=[101,110,116,105,116,121,32,85,115,101,114,32,123,97,103,101,58,32,76,111,110,103,125,59,32,101,110,116,105,116,121,32,68,111,99,32,123,125,59]
def Ua:Tree:=.bX [.agg [.sl [.agg [.str [85,115,101,114],.sl [],.sl [.agg [.str [97,103,101],.int .u8 2,.str [],.sl [],.sl []]]],.agg [.str [68,111,99],.sl [],.sl []]],.sl []],.int .i64 0,.int .i64 0]
theorem pIs (m:Int):tM Ua (fe (cfg m) (ext1 m) 300 50 [.t (.str T9)] [])=true:=by kernel_rfl
theorem Ub (m:Int):mG (cfg m) 50 (nG [(T9,.t Ua)]):=
 A6 (qo (ah m) (OD m) 300) (by
  rw[← qx]
  intro p hp
  simp only[List.mem_cons,List.not_mem_nil,or_false] at hp
  subst hp
  exact nH (pIs m))
noncomputable def Kn (m:Int):Ext:=fun|50=>some (nG [(T9,.t Ua)])|g=>ext1 m g
theorem OE (m:Int):FL (cfg m) (Kn m):=yZ (by
 intro g s h
 unfold Kn at h
 split at h
 · obtain rfl:=Option.some.inj h;exact Ub m
 · exact OD m _ _ h)
end Go.Proofs.YtijfhoelihclbaaGreatDoor.live
