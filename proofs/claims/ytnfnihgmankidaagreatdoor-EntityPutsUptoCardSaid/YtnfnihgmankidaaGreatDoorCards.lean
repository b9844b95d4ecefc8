/-
  DERIVED. GIVEN WITH THE SEED: THE CARDS: each row of YtnfnihgmankidaaGreatDoorRows.lean that lists a variable, with what it lists TIED to the program's text (the seventh form; the later family's looks); each row that meets fmt, with fmt's text TOLD by the authors' own Lean function (tested against real Go, not proved from fmt's source: count such statements apart). THE CARD IS WHAT COUNTS. Prove the row's statement (the work); the ties are given (YtnfnihgmankidaaGreatDoorTie.lean); close each card by the builder's one call (the guide's Derived/Test/ToyasCard.lean, 'card_holds'). Laid BY PROGRAM, IN A SANDBOX (cutbox-door.mjs). By AI agents, Wed Nov 11 2026. No macro, syntax, notation, axiom, sorry.
-/
import Derived.Test.YtnfnihgmankidaaGreatDoorRows
import GoSem.ClaimSeven
namespace Go.Proofs.YtnfnihgmankidaaGreatDoor
namespace Rows

/-- THE TIED CARD OF 'lictorlaw11.EntityOwn'. -/
def entityOwnCard : Claim7 := { stood := { row := entityOwnRow, standIns := [], harness := (true, "ce2c7cc9c9133abb44382dda354e4bc5dca2c2233b9cc313e31a8852c638c284"), looks := true }, kinds := [], alts := [], laidByText := true, laidKinds := [.data, .data, .data, .data, .sentinel, .sentinel, .listed, .data, .pinned], laidTests := true, laidLooks := .later }
def EntityOwnCardSaid : Prop := Claim7.holds Tryz.pinned (.plain (OpenSpec.ofChange entityOwnSpec)) entityOwnCard

/-- THE TIED CARD OF 'lictorlaw11.EntityAbove'. -/
def entityAboveCard : Claim7 := { stood := { row := entityAboveRow, standIns := [], harness := (true, "ce2c7cc9c9133abb44382dda354e4bc5dca2c2233b9cc313e31a8852c638c284"), looks := true }, kinds := [], alts := [], laidByText := true, laidKinds := [.data, .data, .data, .data, .sentinel, .sentinel, .listed, .data, .pinned], laidTests := true, laidLooks := .later }
def EntityAboveCardSaid : Prop := Claim7.holds Tryz.pinned (.plain (OpenSpec.ofChange entityAboveSpec)) entityAboveCard

/-- THE TIED CARD OF 'lictorlaw11.EntityRows'. -/
def entityRowsCard : Claim7 := { stood := { row := entityRowsRow, standIns := [], harness := (true, "ce2c7cc9c9133abb44382dda354e4bc5dca2c2233b9cc313e31a8852c638c284"), looks := true }, kinds := [], alts := [], laidByText := true, laidKinds := [.data, .data, .data, .data, .sentinel, .sentinel, .listed, .data, .pinned], laidTests := true, laidLooks := .later }
def EntityRowsCardSaid : Prop := Claim7.holds Tryz.pinned (.plain (OpenSpec.ofChange entityRowsSpec)) entityRowsCard

/-- THE TIED CARD OF 'lictorlaw11.EntityPuts'. -/
def entityPutsCard : Claim7 := { stood := { row := entityPutsRow, standIns := [], harness := (true, "ce2c7cc9c9133abb44382dda354e4bc5dca2c2233b9cc313e31a8852c638c284"), looks := true }, kinds := [], alts := [], laidByText := true, laidKinds := [.data, .data, .data, .data, .sentinel, .sentinel, .listed, .data, .pinned], laidTests := true, laidLooks := .later }
def EntityPutsCardSaid : Prop := Claim7.holds Tryz.pinned (.plain (OpenSpec.ofChange entityPutsSpec)) entityPutsCard

/-- THE SECOND FORM's CARD OF 'lictorlaw11.EntityOwn'. -/
def entityOwnUptoCard : Claim7 := { stood := { row := entityOwnUptoRow, standIns := [], harness := (true, "ce2c7cc9c9133abb44382dda354e4bc5dca2c2233b9cc313e31a8852c638c284"), looks := true }, kinds := [], alts := [], laidByText := true, laidKinds := [.data, .data, .data, .data, .sentinel, .sentinel, .listed, .data, .pinned], laidTests := true, laidLooks := .later }
def EntityOwnUptoCardSaid : Prop := Claim7.holds Tryz.pinned (.plain (OpenSpec.upto entityOwnSpec)) entityOwnUptoCard

/-- THE SECOND FORM's CARD OF 'lictorlaw11.EntityAbove'. -/
def entityAboveUptoCard : Claim7 := { stood := { row := entityAboveUptoRow, standIns := [], harness := (true, "ce2c7cc9c9133abb44382dda354e4bc5dca2c2233b9cc313e31a8852c638c284"), looks := true }, kinds := [], alts := [], laidByText := true, laidKinds := [.data, .data, .data, .data, .sentinel, .sentinel, .listed, .data, .pinned], laidTests := true, laidLooks := .later }
def EntityAboveUptoCardSaid : Prop := Claim7.holds Tryz.pinned (.plain (OpenSpec.upto entityAboveSpec)) entityAboveUptoCard

/-- THE SECOND FORM's CARD OF 'lictorlaw11.EntityRows'. -/
def entityRowsUptoCard : Claim7 := { stood := { row := entityRowsUptoRow, standIns := [], harness := (true, "ce2c7cc9c9133abb44382dda354e4bc5dca2c2233b9cc313e31a8852c638c284"), looks := true }, kinds := [], alts := [], laidByText := true, laidKinds := [.data, .data, .data, .data, .sentinel, .sentinel, .listed, .data, .pinned], laidTests := true, laidLooks := .later }
def EntityRowsUptoCardSaid : Prop := Claim7.holds Tryz.pinned (.plain (OpenSpec.upto entityRowsSpec)) entityRowsUptoCard

/-- THE SECOND FORM's CARD OF 'lictorlaw11.EntityPuts'. -/
def entityPutsUptoCard : Claim7 := { stood := { row := entityPutsUptoRow, standIns := [], harness := (true, "ce2c7cc9c9133abb44382dda354e4bc5dca2c2233b9cc313e31a8852c638c284"), looks := true }, kinds := [], alts := [], laidByText := true, laidKinds := [.data, .data, .data, .data, .sentinel, .sentinel, .listed, .data, .pinned], laidTests := true, laidLooks := .later }
def EntityPutsUptoCardSaid : Prop := Claim7.holds Tryz.pinned (.plain (OpenSpec.upto entityPutsSpec)) entityPutsUptoCard
end Rows
end Go.Proofs.YtnfnihgmankidaaGreatDoor
