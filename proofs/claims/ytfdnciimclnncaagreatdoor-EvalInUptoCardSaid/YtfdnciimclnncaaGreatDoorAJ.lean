/- What the law's own questions come to. -/
import Derived.Test.YtfdnciimclnncaaGreatDoorAH
import Derived.Test.YtfdnciimclnncaaGreatDoorAI
set_option linter.unusedVariables false
set_option linter.unusedSimpArgs false
namespace Go.Proofs.YtfdnciimclnncaaGreatDoor.w.e
open Go Go.Abs Go.RowKit
set_option maxRecDepth 100000
set_option maxHeartbeats 2000000
noncomputable section
def oe:Tree:=.agg [.str [84],.str [120],.str [84],.str [120],.str [84],.str [120],.int .u8 5,.bool false,.int .i64 0,.str [],.str [],.sl [],.sl []]
def Av:Sc:=⟨[84],[120],[84],[120],[84],[120],5,false,0,[],[],[],[],[]⟩
theorem Fe:T .bP oe:=.bP _ _ _ _ _ _ _ _ _ _ _ _ _ (by simp) (by simp) (by simp) (by simp) (by simp) (by simp) (by simp) (by simp) (by simp) (λ_ h=>by cases h) (by simp) (λ_ h=>by cases h)
theorem Ff (m:Int):R1 (cf m) 9 oe (.int .i64 0):=mK (by kernel_rfl)
theorem Pc (m:Int):R1 (cf m) 24 (.sl []) (.int .i64 0):=mK (by kernel_rfl)
theorem arZ (m:Int):R1 (cf m) 8 ex0 (.int .i64 0):=mK (by kernel_rfl)
theorem ev0 (m:Int):ai (cf m) 27 [.ptr (.arg 0) 0,.t ex0,.map (.arg 1)] (IC Av) (aL (.inr 11) (IC Av)):=uC (by kernel_rfl)
theorem ar0 (m:Int):R1 (cf m) 8 ex1 (.int .i64 0):=mK (by kernel_rfl)
theorem ev1 (m:Int):ai (cf m) 27 [.ptr (.arg 0) 0,.t ex1,.map (.arg 1)] (IC Av) (aL (.inl (.agg [.int .u8 0,.bool false,.int .i64 0,.str [],.str [],.sl [],.sl []])) (IC Av)):=uC (by kernel_rfl)
theorem ar1 (m:Int):R1 (cf m) 8 ex2 (.int .i64 0):=mK (by kernel_rfl)
theorem ar2 (m:Int):R1 (cf m) 8 ex3 (.int .i64 0):=mK (by kernel_rfl)
theorem ev3 (m:Int):ai (cf m) 27 [.ptr (.arg 0) 0,.t ex3,.map (.arg 1)] (IC Av) (aL (.inr 9) (IC Av)):=uC (by kernel_rfl)
def Pd:uX:=λ_ args bq=>match args,bq with
 | [.ptr (.arg 0) 0,.t (.sl [.agg [.str a,.str b]])],[.cells 120 [.bX,.map (.arg 1),.t (.sl [])],.map [] 0]=>cond (HK a [84]) (cond (HK b [120]) (some adQ) none) none
 |_,_=>none
def api:Ext:=λ|89=>some Pd|_=>none
theorem U0 (m:Int):rE (Ys m) 89 Pd:=by
 intro ev aI args bq r h G w vs hw hg had hH hv;unfold Pd at h;split at h
 ·rename_i a b;cases ha:HK a [84] with
  |false=>rw[ha] at h;cases h
  | true=>
    cases hb:HK b [120] with
    |false=>rw[ha,hb] at h;cases h
    | true=>
      rw[ha,hb] at h
      obtain rfl:adQ=r:=Option.some.inj h
      have e1:=Ig ha
      have e2:=Ig hb
      subst e1
      subst e2
      exact alm m G w vs hw hg had hH hv
 ·cases h
theorem ag3 (m:Int):GJ (Ys m) api:=zF (by
 intro g s e;unfold api at e;split at e
 ·obtain rfl:=Option.some.inj e;exact U0 m
 ·cases e)
theorem ev2 (m:Int):ai (cf m) 27 [.ptr (.arg 0) 0,.t ex2,.map (.arg 1)] (IC Av) (aL (.inl (.agg [.int .u8 0,.bool true,.int .i64 0,.str [],.str [],.sl [],.sl []])) (IC Av)):=K5 (ag3 m) (by kernel_rfl)
end
end Go.Proofs.YtfdnciimclnncaaGreatDoor.w.e
