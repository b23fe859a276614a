/-
  No cell of these rows narrows 'for every input' (looked for: loops, veiled, ifaces, maps, wideKeys, modest, calm, conditions, laid).
  DERIVED. THE GIVEN ROWS OF THIS SEAT. 5 by the template 'for every input the law returns true; each argument reads behind the call as it read before'; 0 by the template 'total and deterministic' (their statements: YtciboddlflbhkaaTotals.lean).
  GIVEN WITH THE SEED: the statements are not yours to turn. If you find one false, say at which input.
  Laid BY PROGRAM, IN A SANDBOX (cutbox-rows.mjs): the forced cells as the released guide's own fill.sh prints them over the translation df963878583fa6c4… (all of the seat's roots in one cut). By AI agents, Wed Nov 11 2026. No macro, syntax, notation, axiom, sorry.
-/
import Derived.Test.YtciboddlflbhkaaChecked
import GoSem.Claim
import GoSem.ClaimJoined
import GoSem.ClaimMapViews
import Derived.JoinedTies
import Derived.KernelRfl
namespace Go.Proofs.Ytciboddlflbhkaa
/- THE CELL 'sum', in the pinned program and in every row, IS THE sha256 OF THE DUMP (.gsa) THAT YtciboddlflbhkaaProg.lean LOADS. Nothing in Lean hashes anything: it is a label: what it is worth is what the hold of that sum in a sandbox is worth. -/
noncomputable def Try.pinned : Pinned := { name := "ytciboddlflbhkaa", sum := "df963878583fa6c4ab0ecfd8d5d0cfbcfbd98a061f4e8e5d061c9e651e75de9f", checked := Try.checked }
namespace Rows
def none {H : Type} : Left H := { results := [], args := [] }

/-- 'sluicewaylaw28.HistPlays': WHATEVER THE INPUT: true; the input reads as it did. -/
def histPlaysSpec : ChangeSpec := { name := "histPlays", fn := fun _ => fun
  | [d1, d2, d3] => { results := [.lit (.bool true)], args := [d1, d2, d3] }
  | _ => none }
def histPlaysRow : OpenClaim := { program := "ytciboddlflbhkaa", sum := "df963878583fa6c4ab0ecfd8d5d0cfbcfbd98a061f4e8e5d061c9e651e75de9f", func := "sluiceway/sluicewaylaw28.HistPlays", spec := "histPlays", unfollowed := true, recurses := true, plainKeys := false, apart := false }
def HistPlaysSaid : Prop := histPlaysRow.holds Try.pinned (OpenSpec.ofChange histPlaysSpec)

/-- ITS FALSE NEIGHBOUR: 'it returns false'. Refute it at one input. -/
def histPlaysWrong : ChangeSpec := { name := "histPlays", fn := fun _ => fun
  | [d1, d2, d3] => { results := [.lit (.bool false)], args := [d1, d2, d3] }
  | _ => none }
def HistPlaysWrongFalsely : Prop := histPlaysRow.holds Try.pinned (OpenSpec.ofChange histPlaysWrong)

/-- 'sluicewaylaw28.HistThins': WHATEVER THE INPUT: true; the input reads as it did. -/
def histThinsSpec : ChangeSpec := { name := "histThins", fn := fun _ => fun
  | [d1, d2, d3] => { results := [.lit (.bool true)], args := [d1, d2, d3] }
  | _ => none }
def histThinsRow : OpenClaim := { program := "ytciboddlflbhkaa", sum := "df963878583fa6c4ab0ecfd8d5d0cfbcfbd98a061f4e8e5d061c9e651e75de9f", func := "sluiceway/sluicewaylaw28.HistThins", spec := "histThins", unfollowed := true, recurses := true, plainKeys := false, apart := false }
def HistThinsSaid : Prop := histThinsRow.holds Try.pinned (OpenSpec.ofChange histThinsSpec)

/-- ITS FALSE NEIGHBOUR: 'it returns false'. Refute it at one input. -/
def histThinsWrong : ChangeSpec := { name := "histThins", fn := fun _ => fun
  | [d1, d2, d3] => { results := [.lit (.bool false)], args := [d1, d2, d3] }
  | _ => none }
def HistThinsWrongFalsely : Prop := histThinsRow.holds Try.pinned (OpenSpec.ofChange histThinsWrong)

/-- 'sluicewaylaw28.HistRanges': WHATEVER THE INPUT: true; the input reads as it did. -/
def histRangesSpec : ChangeSpec := { name := "histRanges", fn := fun _ => fun
  | [d1, d2, d3] => { results := [.lit (.bool true)], args := [d1, d2, d3] }
  | _ => none }
def histRangesRow : OpenClaim := { program := "ytciboddlflbhkaa", sum := "df963878583fa6c4ab0ecfd8d5d0cfbcfbd98a061f4e8e5d061c9e651e75de9f", func := "sluiceway/sluicewaylaw28.HistRanges", spec := "histRanges", unfollowed := true, recurses := true, plainKeys := false, apart := false }
def HistRangesSaid : Prop := histRangesRow.holds Try.pinned (OpenSpec.ofChange histRangesSpec)

/-- ITS FALSE NEIGHBOUR: 'it returns false'. Refute it at one input. -/
def histRangesWrong : ChangeSpec := { name := "histRanges", fn := fun _ => fun
  | [d1, d2, d3] => { results := [.lit (.bool false)], args := [d1, d2, d3] }
  | _ => none }
def HistRangesWrongFalsely : Prop := histRangesRow.holds Try.pinned (OpenSpec.ofChange histRangesWrong)

/-- 'sluicewaylaw28.HistNone': WHATEVER THE INPUT: true; the input reads as it did. -/
def histNoneSpec : ChangeSpec := { name := "histNone", fn := fun _ => fun
  | [d1, d2] => { results := [.lit (.bool true)], args := [d1, d2] }
  | _ => none }
def histNoneRow : OpenClaim := { program := "ytciboddlflbhkaa", sum := "df963878583fa6c4ab0ecfd8d5d0cfbcfbd98a061f4e8e5d061c9e651e75de9f", func := "sluiceway/sluicewaylaw28.HistNone", spec := "histNone", unfollowed := true, recurses := true, plainKeys := false, apart := false }
def HistNoneSaid : Prop := histNoneRow.holds Try.pinned (OpenSpec.ofChange histNoneSpec)

/-- ITS FALSE NEIGHBOUR: 'it returns false'. Refute it at one input. -/
def histNoneWrong : ChangeSpec := { name := "histNone", fn := fun _ => fun
  | [d1, d2] => { results := [.lit (.bool false)], args := [d1, d2] }
  | _ => none }
def HistNoneWrongFalsely : Prop := histNoneRow.holds Try.pinned (OpenSpec.ofChange histNoneWrong)

/-- 'sluicewaylaw28.HistStores': WHATEVER THE INPUT: true; the input reads as it did. -/
def histStoresSpec : ChangeSpec := { name := "histStores", fn := fun _ => fun
  | [d1, d2] => { results := [.lit (.bool true)], args := [d1, d2] }
  | _ => none }
def histStoresRow : OpenClaim := { program := "ytciboddlflbhkaa", sum := "df963878583fa6c4ab0ecfd8d5d0cfbcfbd98a061f4e8e5d061c9e651e75de9f", func := "sluiceway/sluicewaylaw28.HistStores", spec := "histStores", inPlace := ["slices.overlaps[sluiceway/tree.item]", "slices.overlaps[*sluiceway/tree.node]"], unfollowed := true, recurses := true, plainKeys := false, apart := false }
def HistStoresSaid : Prop := histStoresRow.holds Try.pinned (OpenSpec.ofChange histStoresSpec)

/-- ITS FALSE NEIGHBOUR: 'it returns false'. Refute it at one input. -/
def histStoresWrong : ChangeSpec := { name := "histStores", fn := fun _ => fun
  | [d1, d2] => { results := [.lit (.bool false)], args := [d1, d2] }
  | _ => none }
def HistStoresWrongFalsely : Prop := histStoresRow.holds Try.pinned (OpenSpec.ofChange histStoresWrong)

/- THE SECOND FORM. 'bulk': how many values and letters a reading holds, each counted each time it is reached (what is shared counts as often as it is met; a slice's spare places count too). A statement '..UptoSaid' is the law's where the arguments, and the package variables that the reading takes, are together of bulk at most 1048576: NARROWER than '..Said'. Prove '..Said' where nothing that the law and all that it calls make is longer than what came in: it says more and counts as full. Else prove '..UptoSaid'. A law counts once. -/
mutual
def uptoBulk {H : Type} : DataW H → Nat
  | .lit (.string bytes) => bytes.length + 1
  | .lit _ => 1
  | .nil => 1
  | .ptr d => uptoBulk d + 1
  | .slice elems spare => uptoBulkAll elems + uptoBulkAll spare + 1
  | .agg parts => uptoBulkAll parts + 1
  | .iface _ d => uptoBulk d + 1
  | .map entries => uptoBulkEntries entries + 1
  | .held _ => 1
def uptoBulkAll {H : Type} : List (DataW H) → Nat
  | [] => 0
  | d :: r => uptoBulk d + uptoBulkAll r
def uptoBulkEntries {H : Type} : List (Lit × DataW H) → Nat
  | [] => 0
  | x :: r => uptoBulkEntry x + uptoBulkEntries r
def uptoBulkEntry {H : Type} : Lit × DataW H → Nat
  | (.string bytes, d) => bytes.length + uptoBulk d + 1
  | (_, d) => uptoBulk d + 1
 end
def uptoSmall : (H : Type) → List (DataW H) → Bool := fun _ ds => decide (uptoBulkAll ds ≤ 1048576)
def OpenSpec.upto (s : _root_.Go.ChangeSpec) : _root_.Go.OpenSpec := { _root_.Go.OpenSpec.ofChange s with cond := some uptoSmall }

/-- 'sluicewaylaw28.HistPlays', WHERE WHAT IT READS IS OF BULK AT MOST 1048576: true; the input reads as it did. -/
def histPlaysUptoRow : OpenClaim := { program := "ytciboddlflbhkaa", sum := "df963878583fa6c4ab0ecfd8d5d0cfbcfbd98a061f4e8e5d061c9e651e75de9f", func := "sluiceway/sluicewaylaw28.HistPlays", spec := "histPlays", unfollowed := true, recurses := true, plainKeys := false, apart := false, narrowed := true }
def HistPlaysUptoSaid : Prop := histPlaysUptoRow.holds Try.pinned (OpenSpec.upto histPlaysSpec)

/-- 'sluicewaylaw28.HistThins', WHERE WHAT IT READS IS OF BULK AT MOST 1048576: true; the input reads as it did. -/
def histThinsUptoRow : OpenClaim := { program := "ytciboddlflbhkaa", sum := "df963878583fa6c4ab0ecfd8d5d0cfbcfbd98a061f4e8e5d061c9e651e75de9f", func := "sluiceway/sluicewaylaw28.HistThins", spec := "histThins", unfollowed := true, recurses := true, plainKeys := false, apart := false, narrowed := true }
def HistThinsUptoSaid : Prop := histThinsUptoRow.holds Try.pinned (OpenSpec.upto histThinsSpec)

/-- 'sluicewaylaw28.HistRanges', WHERE WHAT IT READS IS OF BULK AT MOST 1048576: true; the input reads as it did. -/
def histRangesUptoRow : OpenClaim := { program := "ytciboddlflbhkaa", sum := "df963878583fa6c4ab0ecfd8d5d0cfbcfbd98a061f4e8e5d061c9e651e75de9f", func := "sluiceway/sluicewaylaw28.HistRanges", spec := "histRanges", unfollowed := true, recurses := true, plainKeys := false, apart := false, narrowed := true }
def HistRangesUptoSaid : Prop := histRangesUptoRow.holds Try.pinned (OpenSpec.upto histRangesSpec)

/-- 'sluicewaylaw28.HistNone', WHERE WHAT IT READS IS OF BULK AT MOST 1048576: true; the input reads as it did. -/
def histNoneUptoRow : OpenClaim := { program := "ytciboddlflbhkaa", sum := "df963878583fa6c4ab0ecfd8d5d0cfbcfbd98a061f4e8e5d061c9e651e75de9f", func := "sluiceway/sluicewaylaw28.HistNone", spec := "histNone", unfollowed := true, recurses := true, plainKeys := false, apart := false, narrowed := true }
def HistNoneUptoSaid : Prop := histNoneUptoRow.holds Try.pinned (OpenSpec.upto histNoneSpec)

/-- 'sluicewaylaw28.HistStores', WHERE WHAT IT READS IS OF BULK AT MOST 1048576: true; the input reads as it did. -/
def histStoresUptoRow : OpenClaim := { program := "ytciboddlflbhkaa", sum := "df963878583fa6c4ab0ecfd8d5d0cfbcfbd98a061f4e8e5d061c9e651e75de9f", func := "sluiceway/sluicewaylaw28.HistStores", spec := "histStores", inPlace := ["slices.overlaps[sluiceway/tree.item]", "slices.overlaps[*sluiceway/tree.node]"], unfollowed := true, recurses := true, plainKeys := false, apart := false, narrowed := true }
def HistStoresUptoSaid : Prop := histStoresUptoRow.holds Try.pinned (OpenSpec.upto histStoresSpec)

end Rows
end Go.Proofs.Ytciboddlflbhkaa
