/- Who is met first: one Uid. -/
import Derived.Test.YtfdnciimclnncaaGreatDoorAF
set_option linter.unusedVariables false
set_option linter.unusedSimpArgs false
namespace Go.Proofs.YtfdnciimclnncaaGreatDoor.w.e
open Go Go.Abs
set_option maxRecDepth 100000
set_option maxHeartbeats 2000000
noncomputable section
def alk (n:Nat):List Nat->Bool
 | []=>false
 |k::r=>Nat.beq n k||alk n r
def Ys (m:Int):ew:={live.cfg m with lW:=λf d=>alk f [91,89,140,183,139,96,143,184]||alk (f*1000+d) [304023,48016,48021,48027,48046,97064,55008,55010,27060,20012]}
theorem ag1 (m:Int):(Ys m).P.prog.follows .mixedOrders=true:=live.ah m
theorem apf {m:Int}{G:Gh}(h:jK (cf m) G):jK (Ys m) G:=λn cs e=>h n cs e
theorem K5 {m:Int}{X:Ext}(hX:GJ (Ys m) X){g:FuncId}{args:List TV}{bq:List aP}{r:br}(h:Bn (Ys m) X 300 g args bq=some r):ai (cf m) g args bq r:=by
 rw[Df] at h;exactλG w vs hw hg ha hh hv=>C7 (C:=Ys m) (ag1 m) hX 300 g args bq _ h G w vs hw (apf hg) ha hh hv
theorem ag2 (m:Int):ai (cf m) 139 [.iface 124 (.ptr (.arg 0) 0),.t (.iface 28 (.agg [.str [84],.str [120]]))] [.cells 120 [.bX,.map (.arg 1),.t (.sl [])],.map [(.t (.agg [.str [84],.str [120]]),.t (.int .i64 1),0)] 1] (.ret (.t (.cG [])) [.cells 120 [.ref (.loc [2,7]) 0 1,.map (.arg 1),.t (.sl [])],.map [(.t (.agg [.str [84],.str [120]]),.t (.int .i64 1),0)] 1] [(.loc [2,7],.arr (28,true) 2 false [.t (.str [84]),.t (.str [120])])]):=K5 (X:=λ_=>none) (λ_ _ h=>by cases h) (by kernel_rfl)
def adQ:br:=.ret (.t (.cG [])) [.cells 120 [.ref (.loc [31,2,7]) 0 1,.map (.arg 1),.t (.sl [])],.map [(.t (.agg [.str [84],.str [120]]),.t (.int .i64 1),0)] 1] [((.loc [31,2,7]),.arr (28,true) 2 false [.t (.str [84]),.t (.str [120])])]
theorem alm (m:Int):ai (cf m) 89 [.ptr (.arg 0) 0,.t (.sl [.agg [.str [84],.str [120]]])] [.cells 120 [.bX,.map (.arg 1),.t (.sl [])],.map [] 0] adQ:=by
 obtain⟨ev,aI,apg⟩:∃ev,aC (cf m) ev/\Has ev 139 (px [.iface 124 (.ptr (.arg 0) 0),.t (.iface 28 (.agg [.str [84],.str [120]]))] [.cells 120 [.bX,.map (.arg 1),.t (.sl [])],.map [(.t (.agg [.str [84],.str [120]]),.t (.int .i64 1),0)] 1] (.ret (.t (.cG [])) [.cells 120 [.ref (.loc [2,7]) 0 1,.map (.arg 1),.t (.sl [])],.map [(.t (.agg [.str [84],.str [120]]),.t (.int .i64 1),0)] 1] [(.loc [2,7],.arr (28,true) 2 false [.t (.str [84]),.t (.str [120])])])):=⟨_,(aq (fU (ag2 m)) aF),au⟩;refine ai.iE ?_;refine AX.start 36 2 Tryz.func89 rfl (by decide) rfl rfl (by decide) ?_;refine AX.frames ?_;have aph:=wP (P:=(cf m).P) (es:=[]) (x:=(.agg [.str [84],.str [120]])) Ci rfl Ch T8 rfl tW (KM.nil (K:=bB)) ⟨_,_,rfl⟩;exact⟨(),q4 ah 0 [1] [oT,oE (show([.agg [.str [84],.str [120]]]:List Tree)[0]?=some _ from rfl),oO aph,oT,oO aph,oZ,oJ (Dn (P:=(cf m).P) (es:=[]) (x:=(.agg [.str [84],.str [120]])) Ci rfl Ch T8 rfl tW (KM.nil (K:=bB)) ⟨_,_,rfl⟩ 0),oM (Dq (x:=(.agg [.str [84],.str [120]])) (KM.nil (K:=bB)) KB.nil (kD [] (.agg [.str [84],.str [120]])) (IntKind.wrap .i64 ((kD [] (.agg [.str [84],.str [120]]))+1))),oP (wQ (P:=(cf m).P) (es:=[]) (x:=(.agg [.str [84],.str [120]])) Ci rfl Ch T8 rfl tW (KM.nil (K:=bB)) ⟨_,_,rfl⟩ 0),iI bB (nH [] 0 (.agg [.str [84],.str [120]]) (IntKind.wrap .i64 ((kD [] (.agg [.str [84],.str [120]]))+1))) (uE [] 0 (.agg [.str [84],.str [120]])) (iW (KM.nil (K:=bB)) ⟨_,_,rfl⟩ _ _),iI bB (nH [] 0 (.agg [.str [84],.str [120]]) (IntKind.wrap .i64 ((kD [] (.agg [.str [84],.str [120]]))+1))) (uE [] 0 (.agg [.str [84],.str [120]])) (iW (KM.nil (K:=bB)) ⟨_,_,rfl⟩ _ _),oC (jm apg),iI bB (nH [] 0 (.agg [.str [84],.str [120]]) (IntKind.wrap .i64 ((kD [] (.agg [.str [84],.str [120]]))+1))) (uE [] 0 (.agg [.str [84],.str [120]])) (iW (KM.nil (K:=bB)) ⟨_,_,rfl⟩ _ _),cU 28 2 [.agg [.str [84],.str [120]]],Il 0 1 (by omega),oF,iI bB (nH [] 0 (.agg [.str [84],.str [120]]) (IntKind.wrap .i64 ((kD [] (.agg [.str [84],.str [120]]))+1))) (uE [] 0 (.agg [.str [84],.str [120]])) (iW (KM.nil (K:=bB)) ⟨_,_,rfl⟩ _ _),cU 28 2 [.agg [.str [84],.str [120]]],iI bB (nH [] 0 (.agg [.str [84],.str [120]]) (IntKind.wrap .i64 ((kD [] (.agg [.str [84],.str [120]]))+1))) (uE [] 0 (.agg [.str [84],.str [120]])) (iW (KM.nil (K:=bB)) ⟨_,_,rfl⟩ _ _)]⟩
end
end Go.Proofs.YtfdnciimclnncaaGreatDoor.w.e
