/- What the law's own questions come to. -/
import Derived.Test.YtfdnciimclnncaaGreatDoorAH
import Derived.Test.YtfdnciimclnncaaGreatDoorAI
set_option linter.unusedVariables false
set_option linter.unusedSimpArgs false
namespace Go.Proofs.YtfdnciimclnncaaGreatDoor.w.e
open Go Go.Abs Go.RowKit
set_option maxRecDepth 100000
set_option maxHeartbeats 2000000
noncomputable section
def nU:Tree:=.agg [.str [84],.str [120],.str [84],.str [120],.str [84],.str [120],.int .u8 5,.bool false,.int .i64 0,.str [],.str [],.sl [],.sl []]
def Ai:Sc:=⟨[84],[120],[84],[120],[84],[120],5,false,0,[],[],[],[],[]⟩
theorem Ep:T .bQ nU:=.bQ _ _ _ _ _ _ _ _ _ _ _ _ _ (by simp) (by simp) (by simp) (by simp) (by simp) (by simp) (by simp) (by simp) (by simp) (λ_ h=>by cases h) (by simp) (λ_ h=>by cases h)
theorem Er (m:Int):R1 (cf m) 9 nU (.int .i64 0):=mK (by kernel_rfl)
theorem Pf (m:Int):R1 (cf m) 24 (.sl []) (.int .i64 0):=mK (by kernel_rfl)
theorem arF (m:Int):R1 (cf m) 8 ex0 (.int .i64 0):=mK (by kernel_rfl)
theorem ev0 (m:Int):ai (cf m) 27 [.ptr (.arg 0) 0,.t ex0,.map (.arg 1)] (Iv Ai) (aN (.inr 11) (Iv Ai)):=uI (by kernel_rfl)
theorem arG (m:Int):R1 (cf m) 8 ex1 (.int .i64 0):=mK (by kernel_rfl)
theorem ev1 (m:Int):ai (cf m) 27 [.ptr (.arg 0) 0,.t ex1,.map (.arg 1)] (Iv Ai) (aN (.inl (.agg [.int .u8 0,.bool false,.int .i64 0,.str [],.str [],.sl [],.sl []])) (Iv Ai)):=uI (by kernel_rfl)
theorem arH (m:Int):R1 (cf m) 8 ex2 (.int .i64 0):=mK (by kernel_rfl)
theorem arI (m:Int):R1 (cf m) 8 ex3 (.int .i64 0):=mK (by kernel_rfl)
theorem ev3 (m:Int):ai (cf m) 27 [.ptr (.arg 0) 0,.t ex3,.map (.arg 1)] (Iv Ai) (aN (.inr 9) (Iv Ai)):=uI (by kernel_rfl)
def Pg:vn:=λ_ args bu=>match args,bu with
 | [.ptr (.arg 0) 0,.t (.sl [.agg [.str a,.str b]])],[.cells 120 [.bW,.map (.arg 1),.t (.sl [])],.map [] 0]=>cond (Hs a [84]) (cond (Hs b [120]) (some adN) none) none
 |_,_=>none
def ao2:Ext:=λ|89=>some Pg|_=>none
theorem UW (m:Int):rz (Yw m) 89 Pg:=by
 intro ev aK args bu r h G w vs hw hg had hH hv;unfold Pg at h;split at h
 ·rename_i a b;cases ha:Hs a [84] with
  |false=>rw[ha] at h;cases h
  | true=>
    cases hb:Hs b [120] with
    |false=>rw[ha,hb] at h;cases h
    | true=>
      rw[ha,hb] at h
      obtain rfl:adN=r:=Option.some.inj h
      have e1:=HX ha
      have e2:=HX hb
      subst e1
      subst e2
      exact ak5 m G w vs hw hg had hH hv
 ·cases h
theorem ag6 (m:Int):Gr (Yw m) ao2:=zq (by
 intro g s e;unfold ao2 at e;split at e
 ·obtain rfl:=Option.some.inj e;exact UW m
 ·cases e)
theorem ev2 (m:Int):ai (cf m) 27 [.ptr (.arg 0) 0,.t ex2,.map (.arg 1)] (Iv Ai) (aN (.inl (.agg [.int .u8 0,.bool true,.int .i64 0,.str [],.str [],.sl [],.sl []])) (Iv Ai)):=Lf (ag6 m) (by kernel_rfl)
end
end Go.Proofs.YtfdnciimclnncaaGreatDoor.w.e
