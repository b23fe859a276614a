/-
  DERIVED. GIVEN WITH THE SEED: THE CARDS: each row of YtdgadbbjnhnkeaaGreatDoorRows.lean that lists a variable, with what it lists TIED to the program's text (the seventh form; the later family's looks); each row that meets fmt, with fmt's text TOLD by the authors' own Lean function (tested against real Go, not proved from fmt's source: count such statements apart). THE CARD IS WHAT COUNTS. Prove the row's statement (the work); the ties are given (YtdgadbbjnhnkeaaGreatDoorTie.lean); close each card by the builder's one call (the guide's Derived/Test/ToyasCard.lean, 'card_holds'). Laid BY PROGRAM, IN A SANDBOX (cutbox-door.mjs). By AI agents, Wed Nov 11 2026. No macro, syntax, notation, axiom, sorry.
-/
import Derived.Test.YtdgadbbjnhnkeaaGreatDoorRows
import GoSem.ClaimSeven
namespace Go.Proofs.YtdgadbbjnhnkeaaGreatDoor
namespace Rows

/-- THE TIED CARD OF 'sluicewaylaw24.HallNone'. -/
def hallNoneCard : Claim7 := { stood := { row := hallNoneRow, standIns := [], harness := (true, "b662a9592b132d34ff4ad9775a3b142cc0c6b06be76facf16519e978be9252d7"), looks := true }, kinds := [], alts := [], laidByText := true, laidKinds := [.sentinel, .sentinel, .sentinel], laidTests := true, laidLooks := .later }
def HallNoneCardSaid : Prop := Claim7.holds Tryz.pinned (.plain (OpenSpec.ofChange hallNoneSpec)) hallNoneCard

/-- THE TIED CARD OF 'sluicewaylaw23.EngineNone'. -/
def engineNoneCard : Claim7 := { stood := { row := engineNoneRow, standIns := [], harness := (true, "b662a9592b132d34ff4ad9775a3b142cc0c6b06be76facf16519e978be9252d7"), looks := true }, kinds := [], alts := [], laidByText := true, laidKinds := [.sentinel, .sentinel, .sentinel], laidTests := true, laidLooks := .later }
def EngineNoneCardSaid : Prop := Claim7.holds Tryz.pinned (.plain (OpenSpec.ofChange engineNoneSpec)) engineNoneCard

/-- THE SECOND FORM's CARD OF 'sluicewaylaw24.HallNone'. -/
def hallNoneUptoCard : Claim7 := { stood := { row := hallNoneUptoRow, standIns := [], harness := (true, "b662a9592b132d34ff4ad9775a3b142cc0c6b06be76facf16519e978be9252d7"), looks := true }, kinds := [], alts := [], laidByText := true, laidKinds := [.sentinel, .sentinel, .sentinel], laidTests := true, laidLooks := .later }
def HallNoneUptoCardSaid : Prop := Claim7.holds Tryz.pinned (.plain (OpenSpec.upto hallNoneSpec)) hallNoneUptoCard

/-- THE SECOND FORM's CARD OF 'sluicewaylaw23.EngineNone'. -/
def engineNoneUptoCard : Claim7 := { stood := { row := engineNoneUptoRow, standIns := [], harness := (true, "b662a9592b132d34ff4ad9775a3b142cc0c6b06be76facf16519e978be9252d7"), looks := true }, kinds := [], alts := [], laidByText := true, laidKinds := [.sentinel, .sentinel, .sentinel], laidTests := true, laidLooks := .later }
def EngineNoneUptoCardSaid : Prop := Claim7.holds Tryz.pinned (.plain (OpenSpec.upto engineNoneSpec)) engineNoneUptoCard
end Rows
end Go.Proofs.YtdgadbbjnhnkeaaGreatDoor
