/-
  NARROWER THAN 'FOR EVERY INPUT', by the rows' own cells (each row's printed sentence says how): ShipNone: laid.
  DERIVED. THE GIVEN ROWS OF THIS SEAT. 1 by the template 'for every input the law returns true; each argument reads behind the call as it read before'; 0 by the template 'total and deterministic' (their statements: YtfilpiajpmaaiaaGreatDoorTotals.lean).
  GIVEN WITH THE SEED: the statements are not yours to turn. If you find one false, say at which input.
  Laid BY PROGRAM, IN A SANDBOX (cutbox-rows.mjs): the forced cells as the released guide's own fill.sh prints them over the translation 1c6f34fec0d75e82… (all of the seat's roots in one cut). By AI agents, Wed Nov 11 2026. No macro, syntax, notation, axiom, sorry.
-/
import Derived.Test.YtfilpiajpmaaiaaGreatDoorChecked
import GoSem.Claim
import GoSem.ClaimJoined
import GoSem.ClaimMapViews
import Derived.JoinedTies
import Derived.KernelRfl
namespace Go.Proofs.YtfilpiajpmaaiaaGreatDoor
/- THE CELL 'sum', in the pinned program and in every row, IS THE sha256 OF THE DUMP (.gsa) THAT YtfilpiajpmaaiaaGreatDoorProg.lean LOADS. Nothing in Lean hashes anything: it is a label: what it is worth is what the hold of that sum in a sandbox is worth. -/
noncomputable def Tryz.pinned : Pinned := { name := "ytfilpiajpmaaiaagreatdoor", sum := "1c6f34fec0d75e821f9de810088ff565278058cbb36cbc26a48997351881ed22", checked := Tryz.checked }
namespace Rows
def none {H : Type} : Left H := { results := [], args := [] }

/- WHAT THE LISTED PACKAGE-LEVEL VARIABLES READ AS WHEN THE CALL BEGINS. Each datum BY PROGRAM (the guide's laid-datum.mjs) off the statement by which the dump's own 'gosem.cut.vars' lays the variable. In a bare row this is a premise. The card (YtfilpiajpmaaiaaGreatDoorCards.lean) ties it to the program's text. -/
def laid_sluiceway_exec_errAbort {H : Type} : DataW H := .iface "*errors.errorString" (.ptr (.agg [.lit (.string [103, 105, 118, 101, 110, 32, 117, 112])]))
def laid_sluiceway_exec_errFuel {H : Type} : DataW H := .iface "*errors.errorString" (.ptr (.agg [.lit (.string [111, 117, 116, 32, 111, 102, 32, 102, 117, 101, 108])]))
def laid_sluiceway_engine_errNoRoom {H : Type} : DataW H := .iface "*errors.errorString" (.ptr (.agg [.lit (.string [110, 111, 32, 114, 111, 111, 109])]))

/-- 'sluicewaylaw26.ShipNone': WHATEVER THE INPUT: true; the input reads as it did. -/
def shipNoneSpec : ChangeSpec := { name := "shipNone", fn := fun _ => fun
  | [d1, d2] => { results := [.lit (.bool true)], args := [d1, d2] }
  | _ => none }
def shipNoneRow : OpenClaim := { program := "ytfilpiajpmaaiaagreatdoor", sum := "1c6f34fec0d75e821f9de810088ff565278058cbb36cbc26a48997351881ed22", func := "sluiceway/sluicewaylaw26.ShipNone", spec := "shipNone", inPlace := ["internal/reflectlite.TypeOf", "slices.overlaps[sluiceway/tree.item]", "slices.overlaps[*sluiceway/tree.node]", "math/bits.Add64"], unfollowed := true, recurses := true, named := ["sluiceway/engine.errNoRoom", "sluiceway/exec.errAbort", "sluiceway/exec.errFuel"], plainKeys := false, apart := false, laid := [("sluiceway/exec.errAbort", laid_sluiceway_exec_errAbort), ("sluiceway/exec.errFuel", laid_sluiceway_exec_errFuel), ("sluiceway/engine.errNoRoom", laid_sluiceway_engine_errNoRoom)] }
def ShipNoneSaid : Prop := shipNoneRow.holds Tryz.pinned (OpenSpec.ofChange shipNoneSpec)

/-- ITS FALSE NEIGHBOUR: 'it returns false'. Refute it at one input. -/
def shipNoneWrong : ChangeSpec := { name := "shipNone", fn := fun _ => fun
  | [d1, d2] => { results := [.lit (.bool false)], args := [d1, d2] }
  | _ => none }
def ShipNoneWrongFalsely : Prop := shipNoneRow.holds Tryz.pinned (OpenSpec.ofChange shipNoneWrong)

/- THE SECOND FORM. 'bulk': how many values and letters a reading holds, each counted each time it is reached (what is shared counts as often as it is met; a slice's spare places count too). A statement '..UptoSaid' is the law's where the arguments, and the package variables that the reading takes, are together of bulk at most 1048576: NARROWER than '..Said'. Prove '..Said' where nothing that the law and all that it calls make is longer than what came in: it says more and counts as full. Else prove '..UptoSaid'. A law counts once. -/
mutual
def uptoBulk {H : Type} : DataW H → Nat
  | .lit (.string bytes) => bytes.length + 1
  | .lit _ => 1
  | .nil => 1
  | .ptr d => uptoBulk d + 1
  | .slice elems spare => uptoBulkAll elems + uptoBulkAll spare + 1
  | .agg parts => uptoBulkAll parts + 1
  | .iface _ d => uptoBulk d + 1
  | .map entries => uptoBulkEntries entries + 1
  | .held _ => 1
def uptoBulkAll {H : Type} : List (DataW H) → Nat
  | [] => 0
  | d :: r => uptoBulk d + uptoBulkAll r
def uptoBulkEntries {H : Type} : List (Lit × DataW H) → Nat
  | [] => 0
  | x :: r => uptoBulkEntry x + uptoBulkEntries r
def uptoBulkEntry {H : Type} : Lit × DataW H → Nat
  | (.string bytes, d) => bytes.length + uptoBulk d + 1
  | (_, d) => uptoBulk d + 1
 end
def uptoSmall : (H : Type) → List (DataW H) → Bool := fun _ ds => decide (uptoBulkAll ds ≤ 1048576)
def OpenSpec.upto (s : _root_.Go.ChangeSpec) : _root_.Go.OpenSpec := { _root_.Go.OpenSpec.ofChange s with cond := some uptoSmall }

/-- 'sluicewaylaw26.ShipNone', WHERE WHAT IT READS IS OF BULK AT MOST 1048576: true; the input reads as it did. -/
def shipNoneUptoRow : OpenClaim := { program := "ytfilpiajpmaaiaagreatdoor", sum := "1c6f34fec0d75e821f9de810088ff565278058cbb36cbc26a48997351881ed22", func := "sluiceway/sluicewaylaw26.ShipNone", spec := "shipNone", inPlace := ["internal/reflectlite.TypeOf", "slices.overlaps[sluiceway/tree.item]", "slices.overlaps[*sluiceway/tree.node]", "math/bits.Add64"], unfollowed := true, recurses := true, named := ["sluiceway/engine.errNoRoom", "sluiceway/exec.errAbort", "sluiceway/exec.errFuel"], plainKeys := false, apart := false, laid := [("sluiceway/exec.errAbort", laid_sluiceway_exec_errAbort), ("sluiceway/exec.errFuel", laid_sluiceway_exec_errFuel), ("sluiceway/engine.errNoRoom", laid_sluiceway_engine_errNoRoom)], narrowed := true }
def ShipNoneUptoSaid : Prop := shipNoneUptoRow.holds Tryz.pinned (OpenSpec.upto shipNoneSpec)

end Rows
end Go.Proofs.YtfilpiajpmaaiaaGreatDoor
