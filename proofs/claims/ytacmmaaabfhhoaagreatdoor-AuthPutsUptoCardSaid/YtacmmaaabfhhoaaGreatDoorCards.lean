/-
  DERIVED. GIVEN WITH THE SEED: THE CARDS: each row of YtacmmaaabfhhoaaGreatDoorRows.lean that lists a variable, with what it lists TIED to the program's text (the seventh form; the later family's looks); each row that meets fmt, with fmt's text TOLD by the authors' own Lean function (tested against real Go, not proved from fmt's source: count such statements apart). THE CARD IS WHAT COUNTS. Prove the row's statement (the work); the ties are given (YtacmmaaabfhhoaaGreatDoorTie.lean); close each card by the builder's one call (the guide's Derived/Test/ToyasCard.lean, 'card_holds'). Laid BY PROGRAM, IN A SANDBOX (cutbox-door.mjs). By AI agents, Wed Nov 11 2026. No macro, syntax, notation, axiom, sorry.
-/
import Derived.Test.YtacmmaaabfhhoaaGreatDoorRows
import GoSem.ClaimSeven
namespace Go.Proofs.YtacmmaaabfhhoaaGreatDoor
namespace Rows

/-- THE TIED CARD OF 'lictorlaw15.AuthJust'. -/
def authJustCard : Claim7 := { stood := { row := authJustRow, standIns := [], harness := (true, "55a74bfa1db8f4ad70eca1f124c05d957899382654b68abf2384a7a81e34fd9f"), looks := true }, kinds := [], alts := [], laidByText := true, laidKinds := [.data, .data, .data, .data, .sentinel, .sentinel, .listed, .data, .pinned], laidTests := true, laidLooks := .later }
def AuthJustCardSaid : Prop := Claim7.holds Tryz.pinned (.plain (OpenSpec.ofChange authJustSpec)) authJustCard

/-- THE TIED CARD OF 'lictorlaw15.AuthNone'. -/
def authNoneCard : Claim7 := { stood := { row := authNoneRow, standIns := [], harness := (true, "55a74bfa1db8f4ad70eca1f124c05d957899382654b68abf2384a7a81e34fd9f"), looks := true }, kinds := [], alts := [], laidByText := true, laidKinds := [.data, .data, .data, .data, .sentinel, .sentinel, .listed, .data, .pinned], laidTests := true, laidLooks := .later }
def AuthNoneCardSaid : Prop := Claim7.holds Tryz.pinned (.plain (OpenSpec.ofChange authNoneSpec)) authNoneCard

/-- THE TIED CARD OF 'lictorlaw15.AuthForbids'. -/
def authForbidsCard : Claim7 := { stood := { row := authForbidsRow, standIns := [], harness := (true, "55a74bfa1db8f4ad70eca1f124c05d957899382654b68abf2384a7a81e34fd9f"), looks := true }, kinds := [], alts := [], laidByText := true, laidKinds := [.data, .data, .data, .data, .sentinel, .sentinel, .listed, .data, .pinned], laidTests := true, laidLooks := .later }
def AuthForbidsCardSaid : Prop := Claim7.holds Tryz.pinned (.plain (OpenSpec.ofChange authForbidsSpec)) authForbidsCard

/-- THE TIED CARD OF 'lictorlaw15.AuthPuts'. -/
def authPutsCard : Claim7 := { stood := { row := authPutsRow, standIns := [], harness := (true, "55a74bfa1db8f4ad70eca1f124c05d957899382654b68abf2384a7a81e34fd9f"), looks := true }, kinds := [], alts := [], laidByText := true, laidKinds := [.data, .data, .data, .data, .sentinel, .sentinel, .listed, .data, .pinned], laidTests := true, laidLooks := .later }
def AuthPutsCardSaid : Prop := Claim7.holds Tryz.pinned (.plain (OpenSpec.ofChange authPutsSpec)) authPutsCard

/-- THE SECOND FORM's CARD OF 'lictorlaw15.AuthJust'. -/
def authJustUptoCard : Claim7 := { stood := { row := authJustUptoRow, standIns := [], harness := (true, "55a74bfa1db8f4ad70eca1f124c05d957899382654b68abf2384a7a81e34fd9f"), looks := true }, kinds := [], alts := [], laidByText := true, laidKinds := [.data, .data, .data, .data, .sentinel, .sentinel, .listed, .data, .pinned], laidTests := true, laidLooks := .later }
def AuthJustUptoCardSaid : Prop := Claim7.holds Tryz.pinned (.plain (OpenSpec.upto authJustSpec)) authJustUptoCard

/-- THE SECOND FORM's CARD OF 'lictorlaw15.AuthNone'. -/
def authNoneUptoCard : Claim7 := { stood := { row := authNoneUptoRow, standIns := [], harness := (true, "55a74bfa1db8f4ad70eca1f124c05d957899382654b68abf2384a7a81e34fd9f"), looks := true }, kinds := [], alts := [], laidByText := true, laidKinds := [.data, .data, .data, .data, .sentinel, .sentinel, .listed, .data, .pinned], laidTests := true, laidLooks := .later }
def AuthNoneUptoCardSaid : Prop := Claim7.holds Tryz.pinned (.plain (OpenSpec.upto authNoneSpec)) authNoneUptoCard

/-- THE SECOND FORM's CARD OF 'lictorlaw15.AuthForbids'. -/
def authForbidsUptoCard : Claim7 := { stood := { row := authForbidsUptoRow, standIns := [], harness := (true, "55a74bfa1db8f4ad70eca1f124c05d957899382654b68abf2384a7a81e34fd9f"), looks := true }, kinds := [], alts := [], laidByText := true, laidKinds := [.data, .data, .data, .data, .sentinel, .sentinel, .listed, .data, .pinned], laidTests := true, laidLooks := .later }
def AuthForbidsUptoCardSaid : Prop := Claim7.holds Tryz.pinned (.plain (OpenSpec.upto authForbidsSpec)) authForbidsUptoCard

/-- THE SECOND FORM's CARD OF 'lictorlaw15.AuthPuts'. -/
def authPutsUptoCard : Claim7 := { stood := { row := authPutsUptoRow, standIns := [], harness := (true, "55a74bfa1db8f4ad70eca1f124c05d957899382654b68abf2384a7a81e34fd9f"), looks := true }, kinds := [], alts := [], laidByText := true, laidKinds := [.data, .data, .data, .data, .sentinel, .sentinel, .listed, .data, .pinned], laidTests := true, laidLooks := .later }
def AuthPutsUptoCardSaid : Prop := Claim7.holds Tryz.pinned (.plain (OpenSpec.upto authPutsSpec)) authPutsUptoCard
end Rows
end Go.Proofs.YtacmmaaabfhhoaaGreatDoor
