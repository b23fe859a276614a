/-
  DERIVED. GIVEN WITH THE SEED: THE CARDS: each row of YtfilpiajpmaaiaaGreatDoorRows.lean that lists a variable, with what it lists TIED to the program's text (the seventh form; the later family's looks); each row that meets fmt, with fmt's text TOLD by the authors' own Lean function (tested against real Go, not proved from fmt's source: count such statements apart). THE CARD IS WHAT COUNTS. Prove the row's statement (the work); the ties are given (YtfilpiajpmaaiaaGreatDoorTie.lean); close each card by the builder's one call (the guide's Derived/Test/ToyasCard.lean, 'card_holds'). Laid BY PROGRAM, IN A SANDBOX (cutbox-door.mjs). By AI agents, Wed Nov 11 2026. No macro, syntax, notation, axiom, sorry.
-/
import Derived.Test.YtfilpiajpmaaiaaGreatDoorRows
import GoSem.ClaimSeven
namespace Go.Proofs.YtfilpiajpmaaiaaGreatDoor
namespace Rows

/-- THE TIED CARD OF 'sluicewaylaw26.ShipNone'. -/
def shipNoneCard : Claim7 := { stood := { row := shipNoneRow, standIns := [], harness := (true, "40a9def2740ce027acfe26b6af2aa72b81b3588806fa7a9731b6d8ce32760ddf"), looks := true }, kinds := [], alts := [], laidByText := true, laidKinds := [.sentinel, .sentinel, .sentinel], laidTests := true, laidLooks := .later }
def ShipNoneCardSaid : Prop := Claim7.holds Tryz.pinned (.plain (OpenSpec.ofChange shipNoneSpec)) shipNoneCard

/-- THE SECOND FORM's CARD OF 'sluicewaylaw26.ShipNone'. -/
def shipNoneUptoCard : Claim7 := { stood := { row := shipNoneUptoRow, standIns := [], harness := (true, "40a9def2740ce027acfe26b6af2aa72b81b3588806fa7a9731b6d8ce32760ddf"), looks := true }, kinds := [], alts := [], laidByText := true, laidKinds := [.sentinel, .sentinel, .sentinel], laidTests := true, laidLooks := .later }
def ShipNoneUptoCardSaid : Prop := Claim7.holds Tryz.pinned (.plain (OpenSpec.upto shipNoneSpec)) shipNoneUptoCard
end Rows
end Go.Proofs.YtfilpiajpmaaiaaGreatDoor
