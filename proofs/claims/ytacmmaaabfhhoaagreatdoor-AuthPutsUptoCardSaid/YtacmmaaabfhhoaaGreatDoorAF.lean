/- AuthPuts: any arguments. -/
import Derived.Test.YtacmmaaabfhhoaaGreatDoorAB
import Derived.Test.YtacmmaaabfhhoaaGreatDoorAC
import Derived.Test.YtacmmaaabfhhoaaGreatDoorAE
set_option linter.unusedVariables false
set_option linter.unusedSimpArgs false
namespace Go.Proofs.YtacmmaaabfhhoaaGreatDoor.w.e
open Go Go.Abs
set_option maxRecDepth 100000
set_option maxHeartbeats 2000000
noncomputable section
open Go.Abs.Ty
open Go.Proofs.YtacmmaaabfhhoaaGreatDoor.arg
theorem XI (m:Int)(Ts:List Tree)(h:Mg PP 1048576 [22,48,9] Ts):ai (cf m) 6 (Ts.map .t) [] (.ret (.t (.bool true)) [] []):=by
 match Ts,h with
 | [x,z,y],⟨h1,h3,h2,_⟩=>
  obtain⟨l,rfl,hl,hl2⟩:=T.dN (DW (by decide) h1)
  have M8:=Hj (by decide) h3
  obtain⟨pid,pm,k1,dO,t1,k2,dG,t2,k3,dP,t3,cs,rfl,g0,g1,g2,g3,g4,g5,g6,g7,g8,g9,g10,g11⟩:=T.bC M8
  obtain⟨a,rfl,ha⟩:=T.cN (LY (by decide) h2)
  exact XC m (UY m) l hl hl2 pid pm k1 dO t1 k2 dG t2 k3 dP t3 cs (by assumption) (by assumption) (by assumption) (by assumption) (by assumption) (by assumption) (by assumption) (by assumption) (by assumption) (by assumption) (by assumption) (by assumption) M8 a ha
end
end Go.Proofs.YtacmmaaabfhhoaaGreatDoor.w.e
