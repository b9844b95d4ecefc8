/-
  DERIVED. GIVEN WITH THE SEED: THE CARDS: each row of YtnehabngggljlaaGreatDoorRows.lean that lists a variable, with what it lists TIED to the program's text (the seventh form; the later family's looks); each row that meets fmt, with fmt's text TOLD by the authors' own Lean function (tested against real Go, not proved from fmt's source: count such statements apart). THE CARD IS WHAT COUNTS. Prove the row's statement (the work); the ties are given (YtnehabngggljlaaGreatDoorTie.lean); close each card by the builder's one call (the guide's Derived/Test/ToyasCard.lean, 'card_holds'). Laid BY PROGRAM, IN A SANDBOX (cutbox-door.mjs). By AI agents, Wed Nov 11 2026. No macro, syntax, notation, axiom, sorry.
-/
import Derived.Test.YtnehabngggljlaaGreatDoorRows
import GoSem.ClaimSeven
namespace Go.Proofs.YtnehabngggljlaaGreatDoor
namespace Rows

/-- THE TIED CARD OF 'lictorlaw13.TypesUids'. -/
def typesUidsCard : Claim7 := { stood := { row := typesUidsRow, standIns := [], harness := (true, "3e708b5c3b4c89039a428652e34e2421e96a4fb0d0bac8eec0a29258d3fd0b0e"), looks := true }, kinds := [], alts := [], laidByText := true, laidKinds := [.data, .data, .data, .data, .sentinel, .sentinel, .listed, .data, .pinned], laidTests := true, laidLooks := .later }
def TypesUidsCardSaid : Prop := Claim7.holds Tryz.pinned (.plain (OpenSpec.ofChange typesUidsSpec)) typesUidsCard

/-- THE SECOND FORM's CARD OF 'lictorlaw13.TypesUids'. -/
def typesUidsUptoCard : Claim7 := { stood := { row := typesUidsUptoRow, standIns := [], harness := (true, "3e708b5c3b4c89039a428652e34e2421e96a4fb0d0bac8eec0a29258d3fd0b0e"), looks := true }, kinds := [], alts := [], laidByText := true, laidKinds := [.data, .data, .data, .data, .sentinel, .sentinel, .listed, .data, .pinned], laidTests := true, laidLooks := .later }
def TypesUidsUptoCardSaid : Prop := Claim7.holds Tryz.pinned (.plain (OpenSpec.upto typesUidsSpec)) typesUidsUptoCard
end Rows
end Go.Proofs.YtnehabngggljlaaGreatDoor
