/-
  DERIVED. GIVEN WITH THE SEED: THE CARDS: each row of YtfnbgfmmlgbfjaaGreatDoorRows.lean that lists a variable, with what it lists TIED to the program's text (the seventh form; the later family's looks); each row that meets fmt, with fmt's text TOLD by the authors' own Lean function (tested against real Go, not proved from fmt's source: count such statements apart). THE CARD IS WHAT COUNTS. Prove the row's statement (the work); the ties are given (YtfnbgfmmlgbfjaaGreatDoorTie.lean); close each card by the builder's one call (the guide's Derived/Test/ToyasCard.lean, 'card_holds'). Laid BY PROGRAM, IN A SANDBOX (cutbox-door.mjs). By AI agents, Wed Nov 11 2026. No macro, syntax, notation, axiom, sorry.
-/
import Derived.Test.YtfnbgfmmlgbfjaaGreatDoorRows
import GoSem.ClaimSeven
namespace Go.Proofs.YtfnbgfmmlgbfjaaGreatDoor
namespace Rows

/-- THE TIED CARD OF 'sluicewaylaw22.RedoNone'. -/
def redoNoneCard : Claim7 := { stood := { row := redoNoneRow, standIns := [], harness := (true, "c16beb0770215a0f9618b8210f3e8d38bb35a778c2c5deb5a742cc1fd28b2665"), looks := true }, kinds := [], alts := [], laidByText := true, laidKinds := [.sentinel, .sentinel], laidTests := true, laidLooks := .later }
def RedoNoneCardSaid : Prop := Claim7.holds Tryz.pinned (.plain (OpenSpec.ofChange redoNoneSpec)) redoNoneCard

/-- THE TIED CARD OF 'sluicewaylaw26.ShipNone'. -/
def shipNoneCard : Claim7 := { stood := { row := shipNoneRow, standIns := [], harness := (true, "c16beb0770215a0f9618b8210f3e8d38bb35a778c2c5deb5a742cc1fd28b2665"), looks := true }, kinds := [], alts := [], laidByText := true, laidKinds := [.sentinel, .sentinel, .sentinel], laidTests := true, laidLooks := .later }
def ShipNoneCardSaid : Prop := Claim7.holds Tryz.pinned (.plain (OpenSpec.ofChange shipNoneSpec)) shipNoneCard

/-- THE TIED CARD OF 'sluicewaylaw24.HallNone'. -/
def hallNoneCard : Claim7 := { stood := { row := hallNoneRow, standIns := [], harness := (true, "c16beb0770215a0f9618b8210f3e8d38bb35a778c2c5deb5a742cc1fd28b2665"), looks := true }, kinds := [], alts := [], laidByText := true, laidKinds := [.sentinel, .sentinel, .sentinel], laidTests := true, laidLooks := .later }
def HallNoneCardSaid : Prop := Claim7.holds Tryz.pinned (.plain (OpenSpec.ofChange hallNoneSpec)) hallNoneCard

/-- THE SECOND FORM's CARD OF 'sluicewaylaw22.RedoNone'. -/
def redoNoneUptoCard : Claim7 := { stood := { row := redoNoneUptoRow, standIns := [], harness := (true, "c16beb0770215a0f9618b8210f3e8d38bb35a778c2c5deb5a742cc1fd28b2665"), looks := true }, kinds := [], alts := [], laidByText := true, laidKinds := [.sentinel, .sentinel], laidTests := true, laidLooks := .later }
def RedoNoneUptoCardSaid : Prop := Claim7.holds Tryz.pinned (.plain (OpenSpec.upto redoNoneSpec)) redoNoneUptoCard

/-- THE SECOND FORM's CARD OF 'sluicewaylaw26.ShipNone'. -/
def shipNoneUptoCard : Claim7 := { stood := { row := shipNoneUptoRow, standIns := [], harness := (true, "c16beb0770215a0f9618b8210f3e8d38bb35a778c2c5deb5a742cc1fd28b2665"), looks := true }, kinds := [], alts := [], laidByText := true, laidKinds := [.sentinel, .sentinel, .sentinel], laidTests := true, laidLooks := .later }
def ShipNoneUptoCardSaid : Prop := Claim7.holds Tryz.pinned (.plain (OpenSpec.upto shipNoneSpec)) shipNoneUptoCard

/-- THE SECOND FORM's CARD OF 'sluicewaylaw24.HallNone'. -/
def hallNoneUptoCard : Claim7 := { stood := { row := hallNoneUptoRow, standIns := [], harness := (true, "c16beb0770215a0f9618b8210f3e8d38bb35a778c2c5deb5a742cc1fd28b2665"), looks := true }, kinds := [], alts := [], laidByText := true, laidKinds := [.sentinel, .sentinel, .sentinel], laidTests := true, laidLooks := .later }
def HallNoneUptoCardSaid : Prop := Claim7.holds Tryz.pinned (.plain (OpenSpec.upto hallNoneSpec)) hallNoneUptoCard
end Rows
end Go.Proofs.YtfnbgfmmlgbfjaaGreatDoor
