/-
  NARROWER THAN 'FOR EVERY INPUT', by the rows' own cells (each row's printed sentence says how): HallNone: laid · EngineNone: laid.
  DERIVED. THE GIVEN ROWS OF THIS SEAT. 2 by the template 'for every input the law returns true; each argument reads behind the call as it read before'; 0 by the template 'total and deterministic' (their statements: YtdgadbbjnhnkeaaGreatDoorTotals.lean).
  GIVEN WITH THE SEED: the statements are not yours to turn. If you find one false, say at which input.
  Laid BY PROGRAM, IN A SANDBOX (cutbox-rows.mjs): the forced cells as the released guide's own fill.sh prints them over the translation 603d32f84c93e885… (all of the seat's roots in one cut). By AI agents, Wed Nov 11 2026. No macro, syntax, notation, axiom, sorry.
-/
import Derived.Test.YtdgadbbjnhnkeaaGreatDoorChecked
import GoSem.Claim
import GoSem.ClaimJoined
import GoSem.ClaimMapViews
import Derived.JoinedTies
import Derived.KernelRfl
namespace Go.Proofs.YtdgadbbjnhnkeaaGreatDoor
/- THE CELL 'sum', in the pinned program and in every row, IS THE sha256 OF THE DUMP (.gsa) THAT YtdgadbbjnhnkeaaGreatDoorProg.lean LOADS. Nothing in Lean hashes anything: it is a label: what it is worth is what the hold of that sum in a sandbox is worth. -/
noncomputable def Tryz.pinned : Pinned := { name := "ytdgadbbjnhnkeaagreatdoor", sum := "603d32f84c93e885688dfc8108a6c913d36561c432059fc67c1b42e4317b1256", checked := Tryz.checked }
namespace Rows
def none {H : Type} : Left H := { results := [], args := [] }

/- WHAT THE LISTED PACKAGE-LEVEL VARIABLES READ AS WHEN THE CALL BEGINS. Each datum BY PROGRAM (the guide's laid-datum.mjs) off the statement by which the dump's own 'gosem.cut.vars' lays the variable. In a bare row this is a premise. The card (YtdgadbbjnhnkeaaGreatDoorCards.lean) ties it to the program's text. -/
def laid_sluiceway_exec_errAbort {H : Type} : DataW H := .iface "*errors.errorString" (.ptr (.agg [.lit (.string [103, 105, 118, 101, 110, 32, 117, 112])]))
def laid_sluiceway_exec_errFuel {H : Type} : DataW H := .iface "*errors.errorString" (.ptr (.agg [.lit (.string [111, 117, 116, 32, 111, 102, 32, 102, 117, 101, 108])]))
def laid_sluiceway_engine_errNoRoom {H : Type} : DataW H := .iface "*errors.errorString" (.ptr (.agg [.lit (.string [110, 111, 32, 114, 111, 111, 109])]))

/-- 'sluicewaylaw24.HallNone': WHATEVER THE INPUT: true; the input reads as it did. -/
def hallNoneSpec : ChangeSpec := { name := "hallNone", fn := fun _ => fun
  | [d1, d2] => { results := [.lit (.bool true)], args := [d1, d2] }
  | _ => none }
def hallNoneRow : OpenClaim := { program := "ytdgadbbjnhnkeaagreatdoor", sum := "603d32f84c93e885688dfc8108a6c913d36561c432059fc67c1b42e4317b1256", func := "sluiceway/sluicewaylaw24.HallNone", spec := "hallNone", inPlace := ["internal/reflectlite.TypeOf", "slices.overlaps[sluiceway/tree.item]", "slices.overlaps[*sluiceway/tree.node]", "math/bits.Add64", "slices.overlaps[sluiceway/sweep.note]", "maps.clone"], unfollowed := true, recurses := true, named := ["sluiceway/engine.errNoRoom", "sluiceway/exec.errAbort", "sluiceway/exec.errFuel"], plainKeys := false, apart := false, laid := [("sluiceway/exec.errAbort", laid_sluiceway_exec_errAbort), ("sluiceway/exec.errFuel", laid_sluiceway_exec_errFuel), ("sluiceway/engine.errNoRoom", laid_sluiceway_engine_errNoRoom)] }
def HallNoneSaid : Prop := hallNoneRow.holds Tryz.pinned (OpenSpec.ofChange hallNoneSpec)

/-- ITS FALSE NEIGHBOUR: 'it returns false'. Refute it at one input. -/
def hallNoneWrong : ChangeSpec := { name := "hallNone", fn := fun _ => fun
  | [d1, d2] => { results := [.lit (.bool false)], args := [d1, d2] }
  | _ => none }
def HallNoneWrongFalsely : Prop := hallNoneRow.holds Tryz.pinned (OpenSpec.ofChange hallNoneWrong)

/-- 'sluicewaylaw23.EngineNone': WHATEVER THE INPUT: true; the input reads as it did. -/
def engineNoneSpec : ChangeSpec := { name := "engineNone", fn := fun _ => fun
  | [d1, d2, d3] => { results := [.lit (.bool true)], args := [d1, d2, d3] }
  | _ => none }
def engineNoneRow : OpenClaim := { program := "ytdgadbbjnhnkeaagreatdoor", sum := "603d32f84c93e885688dfc8108a6c913d36561c432059fc67c1b42e4317b1256", func := "sluiceway/sluicewaylaw23.EngineNone", spec := "engineNone", inPlace := ["internal/reflectlite.TypeOf", "slices.overlaps[sluiceway/tree.item]", "slices.overlaps[*sluiceway/tree.node]", "math/bits.Add64", "slices.overlaps[sluiceway/sweep.note]"], unfollowed := true, recurses := true, named := ["sluiceway/engine.errNoRoom", "sluiceway/exec.errAbort", "sluiceway/exec.errFuel"], plainKeys := false, apart := false, laid := [("sluiceway/exec.errAbort", laid_sluiceway_exec_errAbort), ("sluiceway/exec.errFuel", laid_sluiceway_exec_errFuel), ("sluiceway/engine.errNoRoom", laid_sluiceway_engine_errNoRoom)] }
def EngineNoneSaid : Prop := engineNoneRow.holds Tryz.pinned (OpenSpec.ofChange engineNoneSpec)

/-- ITS FALSE NEIGHBOUR: 'it returns false'. Refute it at one input. -/
def engineNoneWrong : ChangeSpec := { name := "engineNone", fn := fun _ => fun
  | [d1, d2, d3] => { results := [.lit (.bool false)], args := [d1, d2, d3] }
  | _ => none }
def EngineNoneWrongFalsely : Prop := engineNoneRow.holds Tryz.pinned (OpenSpec.ofChange engineNoneWrong)

/- THE SECOND FORM. 'bulk': how many values and letters a reading holds, each counted each time it is reached (what is shared counts as often as it is met; a slice's spare places count too). A statement '..UptoSaid' is the law's where the arguments, and the package variables that the reading takes, are together of bulk at most 1048576: NARROWER than '..Said'. Prove '..Said' where nothing that the law and all that it calls make is longer than what came in: it says more and counts as full. Else prove '..UptoSaid'. A law counts once. -/
mutual
def uptoBulk {H : Type} : DataW H → Nat
  | .lit (.string bytes) => bytes.length + 1
  | .lit _ => 1
  | .nil => 1
  | .ptr d => uptoBulk d + 1
  | .slice elems spare => uptoBulkAll elems + uptoBulkAll spare + 1
  | .agg parts => uptoBulkAll parts + 1
  | .iface _ d => uptoBulk d + 1
  | .map entries => uptoBulkEntries entries + 1
  | .held _ => 1
def uptoBulkAll {H : Type} : List (DataW H) → Nat
  | [] => 0
  | d :: r => uptoBulk d + uptoBulkAll r
def uptoBulkEntries {H : Type} : List (Lit × DataW H) → Nat
  | [] => 0
  | x :: r => uptoBulkEntry x + uptoBulkEntries r
def uptoBulkEntry {H : Type} : Lit × DataW H → Nat
  | (.string bytes, d) => bytes.length + uptoBulk d + 1
  | (_, d) => uptoBulk d + 1
 end
def uptoSmall : (H : Type) → List (DataW H) → Bool := fun _ ds => decide (uptoBulkAll ds ≤ 1048576)
def OpenSpec.upto (s : _root_.Go.ChangeSpec) : _root_.Go.OpenSpec := { _root_.Go.OpenSpec.ofChange s with cond := some uptoSmall }

/-- 'sluicewaylaw24.HallNone', WHERE WHAT IT READS IS OF BULK AT MOST 1048576: true; the input reads as it did. -/
def hallNoneUptoRow : OpenClaim := { program := "ytdgadbbjnhnkeaagreatdoor", sum := "603d32f84c93e885688dfc8108a6c913d36561c432059fc67c1b42e4317b1256", func := "sluiceway/sluicewaylaw24.HallNone", spec := "hallNone", inPlace := ["internal/reflectlite.TypeOf", "slices.overlaps[sluiceway/tree.item]", "slices.overlaps[*sluiceway/tree.node]", "math/bits.Add64", "slices.overlaps[sluiceway/sweep.note]", "maps.clone"], unfollowed := true, recurses := true, named := ["sluiceway/engine.errNoRoom", "sluiceway/exec.errAbort", "sluiceway/exec.errFuel"], plainKeys := false, apart := false, laid := [("sluiceway/exec.errAbort", laid_sluiceway_exec_errAbort), ("sluiceway/exec.errFuel", laid_sluiceway_exec_errFuel), ("sluiceway/engine.errNoRoom", laid_sluiceway_engine_errNoRoom)], narrowed := true }
def HallNoneUptoSaid : Prop := hallNoneUptoRow.holds Tryz.pinned (OpenSpec.upto hallNoneSpec)

/-- 'sluicewaylaw23.EngineNone', WHERE WHAT IT READS IS OF BULK AT MOST 1048576: true; the input reads as it did. -/
def engineNoneUptoRow : OpenClaim := { program := "ytdgadbbjnhnkeaagreatdoor", sum := "603d32f84c93e885688dfc8108a6c913d36561c432059fc67c1b42e4317b1256", func := "sluiceway/sluicewaylaw23.EngineNone", spec := "engineNone", inPlace := ["internal/reflectlite.TypeOf", "slices.overlaps[sluiceway/tree.item]", "slices.overlaps[*sluiceway/tree.node]", "math/bits.Add64", "slices.overlaps[sluiceway/sweep.note]"], unfollowed := true, recurses := true, named := ["sluiceway/engine.errNoRoom", "sluiceway/exec.errAbort", "sluiceway/exec.errFuel"], plainKeys := false, apart := false, laid := [("sluiceway/exec.errAbort", laid_sluiceway_exec_errAbort), ("sluiceway/exec.errFuel", laid_sluiceway_exec_errFuel), ("sluiceway/engine.errNoRoom", laid_sluiceway_engine_errNoRoom)], narrowed := true }
def EngineNoneUptoSaid : Prop := engineNoneUptoRow.holds Tryz.pinned (OpenSpec.upto engineNoneSpec)

end Rows
end Go.Proofs.YtdgadbbjnhnkeaaGreatDoor
