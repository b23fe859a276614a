/-
  DERIVED. GIVEN WITH THE SEED: THE CARDS: each row of YtgplkbfjlidinaaDoorRows.lean that lists a variable, with what it lists TIED to the program's text (the seventh form; the later family's looks); each row that meets fmt, with fmt's text TOLD by the authors' own Lean function (tested against real Go, not proved from fmt's source: count such statements apart). THE CARD IS WHAT COUNTS. Prove the row's statement (the work); the ties are given (YtgplkbfjlidinaaDoorTie.lean); close each card by the builder's one call (the guide's Derived/Test/ToyasCard.lean, 'card_holds'). Laid BY PROGRAM, IN A SANDBOX (cutbox-door.mjs). By AI agents, Wed Nov 11 2026. No macro, syntax, notation, axiom, sorry.
-/
import Derived.Test.YtgplkbfjlidinaaDoorRows
import GoSem.ClaimSeven
namespace Go.Proofs.YtgplkbfjlidinaaDoor
namespace Rows

/-- THE TIED CARD OF 'sluicewaylaw07.AsmLines'. -/
def asmLinesCard : Claim7 := { stood := { row := asmLinesRow, standIns := [], harness := (true, "cd1525efc0376700508984b5e2ae094d1ea58c92571d72c2f9b011e93e6cf388"), looks := true }, kinds := [], alts := [], laidByText := true, laidKinds := [.data, .data, .data, .data, .pinned], laidTests := true, laidLooks := .later }
def AsmLinesCardSaid : Prop := Claim7.holds Tryd.pinned (.plain (OpenSpec.ofChange asmLinesSpec)) asmLinesCard

/-- THE TIED CARD OF 'sluicewaylaw07.AsmApart'. -/
def asmApartCard : Claim7 := { stood := { row := asmApartRow, standIns := [], harness := (true, "cd1525efc0376700508984b5e2ae094d1ea58c92571d72c2f9b011e93e6cf388"), looks := true }, kinds := [], alts := [], laidByText := true, laidKinds := [.data, .data, .data, .data, .pinned], laidTests := true, laidLooks := .later }
def AsmApartCardSaid : Prop := Claim7.holds Tryd.pinned (.plain (OpenSpec.ofChange asmApartSpec)) asmApartCard

/-- THE SECOND FORM's CARD OF 'sluicewaylaw07.AsmLines'. -/
def asmLinesUptoCard : Claim7 := { stood := { row := asmLinesUptoRow, standIns := [], harness := (true, "cd1525efc0376700508984b5e2ae094d1ea58c92571d72c2f9b011e93e6cf388"), looks := true }, kinds := [], alts := [], laidByText := true, laidKinds := [.data, .data, .data, .data, .pinned], laidTests := true, laidLooks := .later }
def AsmLinesUptoCardSaid : Prop := Claim7.holds Tryd.pinned (.plain (OpenSpec.upto asmLinesSpec)) asmLinesUptoCard

/-- THE SECOND FORM's CARD OF 'sluicewaylaw07.AsmApart'. -/
def asmApartUptoCard : Claim7 := { stood := { row := asmApartUptoRow, standIns := [], harness := (true, "cd1525efc0376700508984b5e2ae094d1ea58c92571d72c2f9b011e93e6cf388"), looks := true }, kinds := [], alts := [], laidByText := true, laidKinds := [.data, .data, .data, .data, .pinned], laidTests := true, laidLooks := .later }
def AsmApartUptoCardSaid : Prop := Claim7.holds Tryd.pinned (.plain (OpenSpec.upto asmApartSpec)) asmApartUptoCard
end Rows
end Go.Proofs.YtgplkbfjlidinaaDoor
