/- Who is met first: one Uid. -/
import Derived.Test.YtfdnciimclnncaaGreatDoorAF
set_option linter.unusedVariables false
set_option linter.unusedSimpArgs false
namespace Go.Proofs.YtfdnciimclnncaaGreatDoor.w.e
open Go Go.Abs
set_option maxRecDepth 100000
set_option maxHeartbeats 2000000
noncomputable section
def ak1 (n:Nat):List Nat->Bool
 | []=>false
 |k::r=>Nat.beq n k||ak1 n r
def Yk (m:Int):ey:={live.cfg m with lS:=λf d=>ak1 f [91,89,140,183,139,96,143,184]||ak1 (f*1000+d) [304023,48016,48021,48027,48046,97064,55008,55010,27060,20012]}
theorem agQ (m:Int):(Yk m).P.prog.follows .mixedOrders=true:=live.ah m
theorem ao9 {m:Int}{G:Gh}(h:jI (cf m) G):jI (Yk m) G:=λn cs e=>h n cs e
theorem KZ {m:Int}{X:Ext}(hX:Ge (Yk m) X){g:FuncId}{args:List TV}{bu:List aO}{r:br}(h:A3 (Yk m) X 300 g args bu=some r):ai (cf m) g args bu r:=by
 rw[CU] at h;exactλG w vs hw hg ha hh hv=>CJ (C:=Yk m) (agQ m) hX 300 g args bu _ h G w vs hw (ao9 hg) ha hh hv
theorem agR (m:Int):ai (cf m) 139 [.iface 124 (.ptr (.arg 0) 0),.t (.iface 28 (.agg [.str [84],.str [120]]))] [.cells 120 [.bX,.map (.arg 1),.t (.sl [])],.map [(.t (.agg [.str [84],.str [120]]),.t (.int .i64 1),0)] 1] (.ret (.t (.cF [])) [.cells 120 [.ref (.loc [2,7]) 0 1,.map (.arg 1),.t (.sl [])],.map [(.t (.agg [.str [84],.str [120]]),.t (.int .i64 1),0)] 1] [(.loc [2,7],.arr (28,true) 2 false [.t (.str [84]),.t (.str [120])])]):=KZ (X:=λ_=>none) (λ_ _ h=>by cases h) (by kernel_rfl)
def adz:br:=.ret (.t (.cF [])) [.cells 120 [.ref (.loc [31,2,7]) 0 1,.map (.arg 1),.t (.sl [])],.map [(.t (.agg [.str [84],.str [120]]),.t (.int .i64 1),0)] 1] [((.loc [31,2,7]),.arr (28,true) 2 false [.t (.str [84]),.t (.str [120])])]
theorem ak3 (m:Int):ai (cf m) 89 [.ptr (.arg 0) 0,.t (.sl [.agg [.str [84],.str [120]]])] [.cells 120 [.bX,.map (.arg 1),.t (.sl [])],.map [] 0] adz:=by
 obtain⟨ev,aJ,apa⟩:∃ev,aC (cf m) ev/\Has ev 139 (px [.iface 124 (.ptr (.arg 0) 0),.t (.iface 28 (.agg [.str [84],.str [120]]))] [.cells 120 [.bX,.map (.arg 1),.t (.sl [])],.map [(.t (.agg [.str [84],.str [120]]),.t (.int .i64 1),0)] 1] (.ret (.t (.cF [])) [.cells 120 [.ref (.loc [2,7]) 0 1,.map (.arg 1),.t (.sl [])],.map [(.t (.agg [.str [84],.str [120]]),.t (.int .i64 1),0)] 1] [(.loc [2,7],.arr (28,true) 2 false [.t (.str [84]),.t (.str [120])])])):=⟨_,(aq (fQ (agR m)) aF),au⟩;refine ai.gO ?_;refine AX.start 36 2 Tryz.func89 rfl (by decide) rfl rfl (by decide) ?_;refine AX.frames ?_;have apb:=wC (P:=(cf m).P) (es:=[]) (x:=(.agg [.str [84],.str [120]])) B3 rfl B2 TQ rfl tQ (KM.nil (K:=bC)) ⟨_,_,rfl⟩;exact⟨(),qQ ah 0 [1] [oT,oE (show([.agg [.str [84],.str [120]]]:List Tree)[0]?=some _ from rfl),oO apb,oT,oO apb,oZ,oJ (C2 (P:=(cf m).P) (es:=[]) (x:=(.agg [.str [84],.str [120]])) B3 rfl B2 TQ rfl tQ (KM.nil (K:=bC)) ⟨_,_,rfl⟩ 0),oM (C3 (x:=(.agg [.str [84],.str [120]])) (KM.nil (K:=bC)) KB.nil (kX [] (.agg [.str [84],.str [120]])) (IntKind.wrap .i64 ((kX [] (.agg [.str [84],.str [120]]))+1))),oP (wD (P:=(cf m).P) (es:=[]) (x:=(.agg [.str [84],.str [120]])) B3 rfl B2 TQ rfl tQ (KM.nil (K:=bC)) ⟨_,_,rfl⟩ 0),iG bC (nI [] 0 (.agg [.str [84],.str [120]]) (IntKind.wrap .i64 ((kX [] (.agg [.str [84],.str [120]]))+1))) (uz [] 0 (.agg [.str [84],.str [120]])) (iU (KM.nil (K:=bC)) ⟨_,_,rfl⟩ _ _),iG bC (nI [] 0 (.agg [.str [84],.str [120]]) (IntKind.wrap .i64 ((kX [] (.agg [.str [84],.str [120]]))+1))) (uz [] 0 (.agg [.str [84],.str [120]])) (iU (KM.nil (K:=bC)) ⟨_,_,rfl⟩ _ _),oC (jm apa),iG bC (nI [] 0 (.agg [.str [84],.str [120]]) (IntKind.wrap .i64 ((kX [] (.agg [.str [84],.str [120]]))+1))) (uz [] 0 (.agg [.str [84],.str [120]])) (iU (KM.nil (K:=bC)) ⟨_,_,rfl⟩ _ _),dc 28 2 [.agg [.str [84],.str [120]]],HN 0 1 (by omega),oF,iG bC (nI [] 0 (.agg [.str [84],.str [120]]) (IntKind.wrap .i64 ((kX [] (.agg [.str [84],.str [120]]))+1))) (uz [] 0 (.agg [.str [84],.str [120]])) (iU (KM.nil (K:=bC)) ⟨_,_,rfl⟩ _ _),dc 28 2 [.agg [.str [84],.str [120]]],iG bC (nI [] 0 (.agg [.str [84],.str [120]]) (IntKind.wrap .i64 ((kX [] (.agg [.str [84],.str [120]]))+1))) (uz [] 0 (.agg [.str [84],.str [120]])) (iU (KM.nil (K:=bC)) ⟨_,_,rfl⟩ _ _)]⟩
end
end Go.Proofs.YtfdnciimclnncaaGreatDoor.w.e
