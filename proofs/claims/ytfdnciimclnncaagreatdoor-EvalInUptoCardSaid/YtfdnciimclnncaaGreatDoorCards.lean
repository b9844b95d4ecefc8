/-
  DERIVED. GIVEN WITH THE SEED: THE CARDS: each row of YtfdnciimclnncaaGreatDoorRows.lean that lists a variable, with what it lists TIED to the program's text (the seventh form; the later family's looks); each row that meets fmt, with fmt's text TOLD by the authors' own Lean function (tested against real Go, not proved from fmt's source: count such statements apart). THE CARD IS WHAT COUNTS. Prove the row's statement (the work); the ties are given (YtfdnciimclnncaaGreatDoorTie.lean); close each card by the builder's one call (the guide's Derived/Test/ToyasCard.lean, 'card_holds'). Laid BY PROGRAM, IN A SANDBOX (cutbox-door.mjs). By AI agents, Wed Nov 11 2026. No macro, syntax, notation, axiom, sorry.
-/
import Derived.Test.YtfdnciimclnncaaGreatDoorRows
import GoSem.ClaimSeven
namespace Go.Proofs.YtfdnciimclnncaaGreatDoor
namespace Rows

/-- THE TIED CARD OF 'lictorlaw12.EvalLazy'. -/
def evalLazyCard : Claim7 := { stood := { row := evalLazyRow, standIns := [], harness := (true, "78ba8a24c579b615970b07d97dbbbdb781ca336664b1043d3cab83cf51f6deb6"), looks := true }, kinds := [], alts := [], laidByText := true, laidKinds := [.data, .data, .data, .data, .sentinel, .sentinel, .listed, .data, .pinned], laidTests := true, laidLooks := .later }
def EvalLazyCardSaid : Prop := Claim7.holds Tryz.pinned (.plain (OpenSpec.ofChange evalLazySpec)) evalLazyCard

/-- THE TIED CARD OF 'lictorlaw12.EvalNumbers'. -/
def evalNumbersCard : Claim7 := { stood := { row := evalNumbersRow, standIns := [], harness := (true, "78ba8a24c579b615970b07d97dbbbdb781ca336664b1043d3cab83cf51f6deb6"), looks := true }, kinds := [], alts := [], laidByText := true, laidKinds := [.data, .data, .data, .data, .sentinel, .sentinel, .listed, .data, .pinned], laidTests := true, laidLooks := .later }
def EvalNumbersCardSaid : Prop := Claim7.holds Tryz.pinned (.plain (OpenSpec.ofChange evalNumbersSpec)) evalNumbersCard

/-- THE TIED CARD OF 'lictorlaw12.EvalIn'. -/
def evalInCard : Claim7 := { stood := { row := evalInRow, standIns := [], harness := (true, "78ba8a24c579b615970b07d97dbbbdb781ca336664b1043d3cab83cf51f6deb6"), looks := true }, kinds := [], alts := [], laidByText := true, laidKinds := [.data, .data, .data, .data, .sentinel, .sentinel, .listed, .data, .pinned], laidTests := true, laidLooks := .later }
def EvalInCardSaid : Prop := Claim7.holds Tryz.pinned (.plain (OpenSpec.ofChange evalInSpec)) evalInCard

/-- THE TIED CARD OF 'lictorlaw12.EvalBools'. -/
def evalBoolsCard : Claim7 := { stood := { row := evalBoolsRow, standIns := [], harness := (true, "78ba8a24c579b615970b07d97dbbbdb781ca336664b1043d3cab83cf51f6deb6"), looks := true }, kinds := [], alts := [], laidByText := true, laidKinds := [.data, .data, .data, .data, .sentinel, .sentinel, .listed, .data, .pinned], laidTests := true, laidLooks := .later }
def EvalBoolsCardSaid : Prop := Claim7.holds Tryz.pinned (.plain (OpenSpec.ofChange evalBoolsSpec)) evalBoolsCard

/-- THE SECOND FORM's CARD OF 'lictorlaw12.EvalLazy'. -/
def evalLazyUptoCard : Claim7 := { stood := { row := evalLazyUptoRow, standIns := [], harness := (true, "78ba8a24c579b615970b07d97dbbbdb781ca336664b1043d3cab83cf51f6deb6"), looks := true }, kinds := [], alts := [], laidByText := true, laidKinds := [.data, .data, .data, .data, .sentinel, .sentinel, .listed, .data, .pinned], laidTests := true, laidLooks := .later }
def EvalLazyUptoCardSaid : Prop := Claim7.holds Tryz.pinned (.plain (OpenSpec.upto evalLazySpec)) evalLazyUptoCard

/-- THE SECOND FORM's CARD OF 'lictorlaw12.EvalNumbers'. -/
def evalNumbersUptoCard : Claim7 := { stood := { row := evalNumbersUptoRow, standIns := [], harness := (true, "78ba8a24c579b615970b07d97dbbbdb781ca336664b1043d3cab83cf51f6deb6"), looks := true }, kinds := [], alts := [], laidByText := true, laidKinds := [.data, .data, .data, .data, .sentinel, .sentinel, .listed, .data, .pinned], laidTests := true, laidLooks := .later }
def EvalNumbersUptoCardSaid : Prop := Claim7.holds Tryz.pinned (.plain (OpenSpec.upto evalNumbersSpec)) evalNumbersUptoCard

/-- THE SECOND FORM's CARD OF 'lictorlaw12.EvalIn'. -/
def evalInUptoCard : Claim7 := { stood := { row := evalInUptoRow, standIns := [], harness := (true, "78ba8a24c579b615970b07d97dbbbdb781ca336664b1043d3cab83cf51f6deb6"), looks := true }, kinds := [], alts := [], laidByText := true, laidKinds := [.data, .data, .data, .data, .sentinel, .sentinel, .listed, .data, .pinned], laidTests := true, laidLooks := .later }
def EvalInUptoCardSaid : Prop := Claim7.holds Tryz.pinned (.plain (OpenSpec.upto evalInSpec)) evalInUptoCard

/-- THE SECOND FORM's CARD OF 'lictorlaw12.EvalBools'. -/
def evalBoolsUptoCard : Claim7 := { stood := { row := evalBoolsUptoRow, standIns := [], harness := (true, "78ba8a24c579b615970b07d97dbbbdb781ca336664b1043d3cab83cf51f6deb6"), looks := true }, kinds := [], alts := [], laidByText := true, laidKinds := [.data, .data, .data, .data, .sentinel, .sentinel, .listed, .data, .pinned], laidTests := true, laidLooks := .later }
def EvalBoolsUptoCardSaid : Prop := Claim7.holds Tryz.pinned (.plain (OpenSpec.upto evalBoolsSpec)) evalBoolsUptoCard
end Rows
end Go.Proofs.YtfdnciimclnncaaGreatDoor
