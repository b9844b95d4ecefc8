/- What the law's own questions come to. -/
import Derived.Test.YtfdnciimclnncaaGreatDoorAH
import Derived.Test.YtfdnciimclnncaaGreatDoorAI
set_option linter.unusedVariables false
set_option linter.unusedSimpArgs false
namespace Go.Proofs.YtfdnciimclnncaaGreatDoor.w.e
open Go Go.Abs Go.RowKit
set_option maxRecDepth 100000
set_option maxHeartbeats 2000000
noncomputable section
def nO:Tree:=.agg [.str [84],.str [120],.str [84],.str [120],.str [84],.str [120],.int .u8 5,.bool false,.int .i64 0,.str [],.str [],.sl [],.sl []]
def Ad:Sc:=⟨[84],[120],[84],[120],[84],[120],5,false,0,[],[],[],[],[]⟩
theorem Ei:T .cE nO:=.cE _ _ _ _ _ _ _ _ _ _ _ _ _ (by simp) (by simp) (by simp) (by simp) (by simp) (by simp) (by simp) (by simp) (by simp) (λ_ h=>by cases h) (by simp) (λ_ h=>by cases h)
theorem Ej (m:Int):R1 (cf m) 9 nO (.int .i64 0):=mF (by kernel_rfl)
theorem O2 (m:Int):R1 (cf m) 24 (.sl []) (.int .i64 0):=mF (by kernel_rfl)
theorem arG (m:Int):R1 (cf m) 8 ex0 (.int .i64 0):=mF (by kernel_rfl)
theorem ev0 (m:Int):ai (cf m) 27 [.ptr (.arg 0) 0,.t ex0,.map (.arg 1)] (H9 Ad) (aM (.inr 11) (H9 Ad)):=ux (by kernel_rfl)
theorem arH (m:Int):R1 (cf m) 8 ex1 (.int .i64 0):=mF (by kernel_rfl)
theorem ev1 (m:Int):ai (cf m) 27 [.ptr (.arg 0) 0,.t ex1,.map (.arg 1)] (H9 Ad) (aM (.inl (.agg [.int .u8 0,.bool false,.int .i64 0,.str [],.str [],.sl [],.sl []])) (H9 Ad)):=ux (by kernel_rfl)
theorem arI (m:Int):R1 (cf m) 8 ex2 (.int .i64 0):=mF (by kernel_rfl)
theorem arJ (m:Int):R1 (cf m) 8 ex3 (.int .i64 0):=mF (by kernel_rfl)
theorem ev3 (m:Int):ai (cf m) 27 [.ptr (.arg 0) 0,.t ex3,.map (.arg 1)] (H9 Ad) (aM (.inr 9) (H9 Ad)):=ux (by kernel_rfl)
def O3:uU:=λ_ args bu=>match args,bu with
 | [.ptr (.arg 0) 0,.t (.sl [.agg [.str a,.str b]])],[.cells 120 [.bX,.map (.arg 1),.t (.sl [])],.map [] 0]=>cond (He a [84]) (cond (He b [120]) (some adz) none) none
 |_,_=>none
def apc:Ext:=λ|89=>some O3|_=>none
theorem UJ (m:Int):q3 (Yk m) 89 O3:=by
 intro ev aJ args bu r h G w vs hw hg had hH hv;unfold O3 at h;split at h
 ·rename_i a b;cases ha:He a [84] with
  |false=>rw[ha] at h;cases h
  | true=>
    cases hb:He b [120] with
    |false=>rw[ha,hb] at h;cases h
    | true=>
      rw[ha,hb] at h
      obtain rfl:adz=r:=Option.some.inj h
      have e1:=HH ha
      have e2:=HH hb
      subst e1
      subst e2
      exact ak3 m G w vs hw hg had hH hv
 ·cases h
theorem agS (m:Int):Ge (Yk m) apc:=zi (by
 intro g s e;unfold apc at e;split at e
 ·obtain rfl:=Option.some.inj e;exact UJ m
 ·cases e)
theorem ev2 (m:Int):ai (cf m) 27 [.ptr (.arg 0) 0,.t ex2,.map (.arg 1)] (H9 Ad) (aM (.inl (.agg [.int .u8 0,.bool true,.int .i64 0,.str [],.str [],.sl [],.sl []])) (H9 Ad)):=KZ (agS m) (by kernel_rfl)
end
end Go.Proofs.YtfdnciimclnncaaGreatDoor.w.e
