/- Who is met first: one Uid. -/
import Derived.Test.YtfdnciimclnncaaGreatDoorAF
set_option linter.unusedVariables false
set_option linter.unusedSimpArgs false
namespace Go.Proofs.YtfdnciimclnncaaGreatDoor.w.e
open Go Go.Abs
set_option maxRecDepth 100000
set_option maxHeartbeats 2000000
noncomputable section
def ak4 (n:Nat):List Nat->Bool
 | []=>false
 |k::r=>Nat.beq n k||ak4 n r
def Yw (m:Int):ez:={live.cfg m with lW:=λf d=>ak4 f [91,89,140,183,139,96,143,184]||ak4 (f*1000+d) [304023,48016,48021,48027,48046,97064,55008,55010,27060,20012]}
theorem ag4 (m:Int):(Yw m).P.prog.follows .mixedOrders=true:=live.ah m
theorem aoZ {m:Int}{G:Gh}(h:jK (cf m) G):jK (Yw m) G:=λn cs e=>h n cs e
theorem Lf {m:Int}{X:Ext}(hX:Gr (Yw m) X){g:FuncId}{args:List TV}{bu:List aP}{r:bh}(h:A7 (Yw m) X 300 g args bu=some r):ai (cf m) g args bu r:=by
 rw[CZ] at h;exactλG w vs hw hg ha hh hv=>CO (C:=Yw m) (ag4 m) hX 300 g args bu _ h G w vs hw (aoZ hg) ha hh hv
theorem ag5 (m:Int):ai (cf m) 139 [.iface 124 (.ptr (.arg 0) 0),.t (.iface 28 (.agg [.str [84],.str [120]]))] [.cells 120 [.bW,.map (.arg 1),.t (.sl [])],.map [(.t (.agg [.str [84],.str [120]]),.t (.int .i64 1),0)] 1] (.ret (.t (.bU [])) [.cells 120 [.ref (.loc [2,7]) 0 1,.map (.arg 1),.t (.sl [])],.map [(.t (.agg [.str [84],.str [120]]),.t (.int .i64 1),0)] 1] [(.loc [2,7],.arr (28,true) 2 false [.t (.str [84]),.t (.str [120])])]):=Lf (X:=λ_=>none) (λ_ _ h=>by cases h) (by kernel_rfl)
def adN:bh:=.ret (.t (.bU [])) [.cells 120 [.ref (.loc [31,2,7]) 0 1,.map (.arg 1),.t (.sl [])],.map [(.t (.agg [.str [84],.str [120]]),.t (.int .i64 1),0)] 1] [((.loc [31,2,7]),.arr (28,true) 2 false [.t (.str [84]),.t (.str [120])])]
theorem ak5 (m:Int):ai (cf m) 89 [.ptr (.arg 0) 0,.t (.sl [.agg [.str [84],.str [120]]])] [.cells 120 [.bW,.map (.arg 1),.t (.sl [])],.map [] 0] adN:=by
 obtain⟨ev,aK,ao0⟩:∃ev,aD (cf m) ev/\Has ev 139 (px [.iface 124 (.ptr (.arg 0) 0),.t (.iface 28 (.agg [.str [84],.str [120]]))] [.cells 120 [.bW,.map (.arg 1),.t (.sl [])],.map [(.t (.agg [.str [84],.str [120]]),.t (.int .i64 1),0)] 1] (.ret (.t (.bU [])) [.cells 120 [.ref (.loc [2,7]) 0 1,.map (.arg 1),.t (.sl [])],.map [(.t (.agg [.str [84],.str [120]]),.t (.int .i64 1),0)] 1] [(.loc [2,7],.arr (28,true) 2 false [.t (.str [84]),.t (.str [120])])])):=⟨_,(aq (fT (ag5 m)) aF),au⟩;refine ai.gO ?_;refine AX.start 36 2 Tryz.func89 rfl (by decide) rfl rfl (by decide) ?_;refine AX.frames ?_;have ao1:=wM (P:=(cf m).P) (es:=[]) (x:=(.agg [.str [84],.str [120]])) B6 rfl B5 T6 rfl uf (KM.nil (K:=bB)) ⟨_,_,rfl⟩;exact⟨(),qH ah 0 [1] [oT,oE (show([.agg [.str [84],.str [120]]]:List Tree)[0]?=some _ from rfl),oO ao1,oT,oO ao1,oZ,oJ (C7 (P:=(cf m).P) (es:=[]) (x:=(.agg [.str [84],.str [120]])) B6 rfl B5 T6 rfl uf (KM.nil (K:=bB)) ⟨_,_,rfl⟩ 0),oM (C8 (x:=(.agg [.str [84],.str [120]])) (KM.nil (K:=bB)) KB.nil (kZ [] (.agg [.str [84],.str [120]])) (IntKind.wrap .i64 ((kZ [] (.agg [.str [84],.str [120]]))+1))),oP (wN (P:=(cf m).P) (es:=[]) (x:=(.agg [.str [84],.str [120]])) B6 rfl B5 T6 rfl uf (KM.nil (K:=bB)) ⟨_,_,rfl⟩ 0),iH bB (nN [] 0 (.agg [.str [84],.str [120]]) (IntKind.wrap .i64 ((kZ [] (.agg [.str [84],.str [120]]))+1))) (uK [] 0 (.agg [.str [84],.str [120]])) (iV (KM.nil (K:=bB)) ⟨_,_,rfl⟩ _ _),iH bB (nN [] 0 (.agg [.str [84],.str [120]]) (IntKind.wrap .i64 ((kZ [] (.agg [.str [84],.str [120]]))+1))) (uK [] 0 (.agg [.str [84],.str [120]])) (iV (KM.nil (K:=bB)) ⟨_,_,rfl⟩ _ _),oC (jo ao0),iH bB (nN [] 0 (.agg [.str [84],.str [120]]) (IntKind.wrap .i64 ((kZ [] (.agg [.str [84],.str [120]]))+1))) (uK [] 0 (.agg [.str [84],.str [120]])) (iV (KM.nil (K:=bB)) ⟨_,_,rfl⟩ _ _),cZ 28 2 [.agg [.str [84],.str [120]]],H8 0 1 (by omega),oF,iH bB (nN [] 0 (.agg [.str [84],.str [120]]) (IntKind.wrap .i64 ((kZ [] (.agg [.str [84],.str [120]]))+1))) (uK [] 0 (.agg [.str [84],.str [120]])) (iV (KM.nil (K:=bB)) ⟨_,_,rfl⟩ _ _),cZ 28 2 [.agg [.str [84],.str [120]]],iH bB (nN [] 0 (.agg [.str [84],.str [120]]) (IntKind.wrap .i64 ((kZ [] (.agg [.str [84],.str [120]]))+1))) (uK [] 0 (.agg [.str [84],.str [120]])) (iV (KM.nil (K:=bB)) ⟨_,_,rfl⟩ _ _)]⟩
end
end Go.Proofs.YtfdnciimclnncaaGreatDoor.w.e
