/-
  DERIVED. GIVEN WITH THE SEED: THE CARDS: each row of YtbahblehihbpkaaGreatDoorRows.lean that lists a variable, with what it lists TIED to the program's text (the seventh form; the later family's looks); each row that meets fmt, with fmt's text TOLD by the authors' own Lean function (tested against real Go, not proved from fmt's source: count such statements apart). THE CARD IS WHAT COUNTS. Prove the row's statement (the work); the ties are given (YtbahblehihbpkaaGreatDoorTie.lean); close each card by the builder's one call (the guide's Derived/Test/ToyasCard.lean, 'card_holds'). Laid BY PROGRAM, IN A SANDBOX (cutbox-door.mjs). By AI agents, Wed Nov 11 2026. No macro, syntax, notation, axiom, sorry.
-/
import Derived.Test.YtbahblehihbpkaaGreatDoorRows
import GoSem.ClaimSeven
namespace Go.Proofs.YtbahblehihbpkaaGreatDoor
namespace Rows

/-- THE TIED CARD OF 'lictorlaw10.SchemaNested'. -/
def schemaNestedCard : Claim7 := { stood := { row := schemaNestedRow, standIns := [], harness := (true, "98704e1d170e996086831df092d2d0089486241f6ad76b5c6618026ca5b14f04"), looks := true }, kinds := [], alts := [], laidByText := true, laidKinds := [.data, .data, .data, .data, .sentinel, .sentinel, .listed, .data, .pinned], laidTests := true, laidLooks := .later }
def SchemaNestedCardSaid : Prop := Claim7.holds Tryz.pinned (.plain (OpenSpec.ofChange schemaNestedSpec)) schemaNestedCard

/-- THE TIED CARD OF 'lictorlaw10.SchemaOwn'. -/
def schemaOwnCard : Claim7 := { stood := { row := schemaOwnRow, standIns := [], harness := (true, "98704e1d170e996086831df092d2d0089486241f6ad76b5c6618026ca5b14f04"), looks := true }, kinds := [], alts := [], laidByText := true, laidKinds := [.data, .data, .data, .data, .sentinel, .sentinel, .listed, .data, .pinned], laidTests := true, laidLooks := .later }
def SchemaOwnCardSaid : Prop := Claim7.holds Tryz.pinned (.plain (OpenSpec.ofChange schemaOwnSpec)) schemaOwnCard

/-- THE SECOND FORM's CARD OF 'lictorlaw10.SchemaNested'. -/
def schemaNestedUptoCard : Claim7 := { stood := { row := schemaNestedUptoRow, standIns := [], harness := (true, "98704e1d170e996086831df092d2d0089486241f6ad76b5c6618026ca5b14f04"), looks := true }, kinds := [], alts := [], laidByText := true, laidKinds := [.data, .data, .data, .data, .sentinel, .sentinel, .listed, .data, .pinned], laidTests := true, laidLooks := .later }
def SchemaNestedUptoCardSaid : Prop := Claim7.holds Tryz.pinned (.plain (OpenSpec.upto schemaNestedSpec)) schemaNestedUptoCard

/-- THE SECOND FORM's CARD OF 'lictorlaw10.SchemaOwn'. -/
def schemaOwnUptoCard : Claim7 := { stood := { row := schemaOwnUptoRow, standIns := [], harness := (true, "98704e1d170e996086831df092d2d0089486241f6ad76b5c6618026ca5b14f04"), looks := true }, kinds := [], alts := [], laidByText := true, laidKinds := [.data, .data, .data, .data, .sentinel, .sentinel, .listed, .data, .pinned], laidTests := true, laidLooks := .later }
def SchemaOwnUptoCardSaid : Prop := Claim7.holds Tryz.pinned (.plain (OpenSpec.upto schemaOwnSpec)) schemaOwnUptoCard
end Rows
end Go.Proofs.YtbahblehihbpkaaGreatDoor
