/-
  No cell of these rows narrows 'for every input' (looked for: loops, veiled, ifaces, maps, wideKeys, modest, calm, conditions, laid).
  DERIVED. THE GIVEN ROWS OF THIS SEAT. 5 by the template 'for every input the law returns true; each argument reads behind the call as it read before'; 0 by the template 'total and deterministic' (their statements: YtekeepgjegkedaaTotals.lean).
  GIVEN WITH THE SEED: the statements are not yours to turn. If you find one false, say at which input.
  Laid BY PROGRAM, IN A SANDBOX (cutbox-rows.mjs): the forced cells as the released guide's own fill.sh prints them over the translation 0ff6e741a3283778… (all of the seat's roots in one cut). By AI agents, Wed Nov 11 2026. No macro, syntax, notation, axiom, sorry.
-/
import Derived.Test.YtekeepgjegkedaaChecked
import GoSem.Claim
import GoSem.ClaimJoined
import GoSem.ClaimMapViews
import Derived.JoinedTies
import Derived.KernelRfl
namespace Go.Proofs.Ytekeepgjegkedaa
/- THE CELL 'sum', in the pinned program and in every row, IS THE sha256 OF THE DUMP (.gsa) THAT YtekeepgjegkedaaProg.lean LOADS. Nothing in Lean hashes anything: it is a label: what it is worth is what the hold of that sum in a sandbox is worth. -/
noncomputable def Try.pinned : Pinned := { name := "ytekeepgjegkedaa", sum := "0ff6e741a32837784882af2da69502a3f5881481035af7e188dfdf6fab09266a", checked := Try.checked }
namespace Rows
def none {H : Type} : Left H := { results := [], args := [] }

/-- 'sluicewaylaw10.FootGood': WHATEVER THE INPUT: true; the input reads as it did. -/
def footGoodSpec : ChangeSpec := { name := "footGood", fn := fun _ => fun
  | [d1, d2] => { results := [.lit (.bool true)], args := [d1, d2] }
  | _ => none }
def footGoodRow : OpenClaim := { program := "ytekeepgjegkedaa", sum := "0ff6e741a32837784882af2da69502a3f5881481035af7e188dfdf6fab09266a", func := "sluiceway/sluicewaylaw10.FootGood", spec := "footGood", unfollowed := true, recurses := true, apart := false }
def FootGoodSaid : Prop := footGoodRow.holds Try.pinned (OpenSpec.ofChange footGoodSpec)

/-- ITS FALSE NEIGHBOUR: 'it returns false'. Refute it at one input. -/
def footGoodWrong : ChangeSpec := { name := "footGood", fn := fun _ => fun
  | [d1, d2] => { results := [.lit (.bool false)], args := [d1, d2] }
  | _ => none }
def FootGoodWrongFalsely : Prop := footGoodRow.holds Try.pinned (OpenSpec.ofChange footGoodWrong)

/-- 'sluicewaylaw10.FootJoins': WHATEVER THE INPUT: true; the input reads as it did. -/
def footJoinsSpec : ChangeSpec := { name := "footJoins", fn := fun _ => fun
  | [d1, d2] => { results := [.lit (.bool true)], args := [d1, d2] }
  | _ => none }
def footJoinsRow : OpenClaim := { program := "ytekeepgjegkedaa", sum := "0ff6e741a32837784882af2da69502a3f5881481035af7e188dfdf6fab09266a", func := "sluiceway/sluicewaylaw10.FootJoins", spec := "footJoins", unfollowed := true, recurses := true, apart := false }
def FootJoinsSaid : Prop := footJoinsRow.holds Try.pinned (OpenSpec.ofChange footJoinsSpec)

/-- ITS FALSE NEIGHBOUR: 'it returns false'. Refute it at one input. -/
def footJoinsWrong : ChangeSpec := { name := "footJoins", fn := fun _ => fun
  | [d1, d2] => { results := [.lit (.bool false)], args := [d1, d2] }
  | _ => none }
def FootJoinsWrongFalsely : Prop := footJoinsRow.holds Try.pinned (OpenSpec.ofChange footJoinsWrong)

/-- 'sluicewaylaw10.FootMeets': WHATEVER THE INPUT: true; the input reads as it did. -/
def footMeetsSpec : ChangeSpec := { name := "footMeets", fn := fun _ => fun
  | [d1, d2, d3] => { results := [.lit (.bool true)], args := [d1, d2, d3] }
  | _ => none }
def footMeetsRow : OpenClaim := { program := "ytekeepgjegkedaa", sum := "0ff6e741a32837784882af2da69502a3f5881481035af7e188dfdf6fab09266a", func := "sluiceway/sluicewaylaw10.FootMeets", spec := "footMeets", unfollowed := true, recurses := true, apart := false }
def FootMeetsSaid : Prop := footMeetsRow.holds Try.pinned (OpenSpec.ofChange footMeetsSpec)

/-- ITS FALSE NEIGHBOUR: 'it returns false'. Refute it at one input. -/
def footMeetsWrong : ChangeSpec := { name := "footMeets", fn := fun _ => fun
  | [d1, d2, d3] => { results := [.lit (.bool false)], args := [d1, d2, d3] }
  | _ => none }
def FootMeetsWrongFalsely : Prop := footMeetsRow.holds Try.pinned (OpenSpec.ofChange footMeetsWrong)

/-- 'sluicewaylaw10.FootPuts': WHATEVER THE INPUT: true; the input reads as it did. -/
def footPutsSpec : ChangeSpec := { name := "footPuts", fn := fun _ => fun
  | [d] => { results := [.lit (.bool true)], args := [d] }
  | _ => none }
def footPutsRow : OpenClaim := { program := "ytekeepgjegkedaa", sum := "0ff6e741a32837784882af2da69502a3f5881481035af7e188dfdf6fab09266a", func := "sluiceway/sluicewaylaw10.FootPuts", spec := "footPuts", unfollowed := true, recurses := true, apart := false }
def FootPutsSaid : Prop := footPutsRow.holds Try.pinned (OpenSpec.ofChange footPutsSpec)

/-- ITS FALSE NEIGHBOUR: 'it returns false'. Refute it at one input. -/
def footPutsWrong : ChangeSpec := { name := "footPuts", fn := fun _ => fun
  | [d] => { results := [.lit (.bool false)], args := [d] }
  | _ => none }
def FootPutsWrongFalsely : Prop := footPutsRow.holds Try.pinned (OpenSpec.ofChange footPutsWrong)

/-- 'sluicewaylaw10.FootTakes': WHATEVER THE INPUT: true; the input reads as it did. -/
def footTakesSpec : ChangeSpec := { name := "footTakes", fn := fun _ => fun
  | [d] => { results := [.lit (.bool true)], args := [d] }
  | _ => none }
def footTakesRow : OpenClaim := { program := "ytekeepgjegkedaa", sum := "0ff6e741a32837784882af2da69502a3f5881481035af7e188dfdf6fab09266a", func := "sluiceway/sluicewaylaw10.FootTakes", spec := "footTakes", unfollowed := true, recurses := true, apart := false }
def FootTakesSaid : Prop := footTakesRow.holds Try.pinned (OpenSpec.ofChange footTakesSpec)

/-- ITS FALSE NEIGHBOUR: 'it returns false'. Refute it at one input. -/
def footTakesWrong : ChangeSpec := { name := "footTakes", fn := fun _ => fun
  | [d] => { results := [.lit (.bool false)], args := [d] }
  | _ => none }
def FootTakesWrongFalsely : Prop := footTakesRow.holds Try.pinned (OpenSpec.ofChange footTakesWrong)

/- THE SECOND FORM. 'bulk': how many values and letters a reading holds, each counted each time it is reached (what is shared counts as often as it is met; a slice's spare places count too). A statement '..UptoSaid' is the law's where the arguments, and the package variables that the reading takes, are together of bulk at most 1048576: NARROWER than '..Said'. Prove '..Said' where nothing that the law and all that it calls make is longer than what came in: it says more and counts as full. Else prove '..UptoSaid'. A law counts once. -/
mutual
def uptoBulk {H : Type} : DataW H → Nat
  | .lit (.string bytes) => bytes.length + 1
  | .lit _ => 1
  | .nil => 1
  | .ptr d => uptoBulk d + 1
  | .slice elems spare => uptoBulkAll elems + uptoBulkAll spare + 1
  | .agg parts => uptoBulkAll parts + 1
  | .iface _ d => uptoBulk d + 1
  | .map entries => uptoBulkEntries entries + 1
  | .held _ => 1
def uptoBulkAll {H : Type} : List (DataW H) → Nat
  | [] => 0
  | d :: r => uptoBulk d + uptoBulkAll r
def uptoBulkEntries {H : Type} : List (Lit × DataW H) → Nat
  | [] => 0
  | x :: r => uptoBulkEntry x + uptoBulkEntries r
def uptoBulkEntry {H : Type} : Lit × DataW H → Nat
  | (.string bytes, d) => bytes.length + uptoBulk d + 1
  | (_, d) => uptoBulk d + 1
 end
def uptoSmall : (H : Type) → List (DataW H) → Bool := fun _ ds => decide (uptoBulkAll ds ≤ 1048576)
def OpenSpec.upto (s : _root_.Go.ChangeSpec) : _root_.Go.OpenSpec := { _root_.Go.OpenSpec.ofChange s with cond := some uptoSmall }

/-- 'sluicewaylaw10.FootGood', WHERE WHAT IT READS IS OF BULK AT MOST 1048576: true; the input reads as it did. -/
def footGoodUptoRow : OpenClaim := { program := "ytekeepgjegkedaa", sum := "0ff6e741a32837784882af2da69502a3f5881481035af7e188dfdf6fab09266a", func := "sluiceway/sluicewaylaw10.FootGood", spec := "footGood", unfollowed := true, recurses := true, apart := false, narrowed := true }
def FootGoodUptoSaid : Prop := footGoodUptoRow.holds Try.pinned (OpenSpec.upto footGoodSpec)

/-- 'sluicewaylaw10.FootJoins', WHERE WHAT IT READS IS OF BULK AT MOST 1048576: true; the input reads as it did. -/
def footJoinsUptoRow : OpenClaim := { program := "ytekeepgjegkedaa", sum := "0ff6e741a32837784882af2da69502a3f5881481035af7e188dfdf6fab09266a", func := "sluiceway/sluicewaylaw10.FootJoins", spec := "footJoins", unfollowed := true, recurses := true, apart := false, narrowed := true }
def FootJoinsUptoSaid : Prop := footJoinsUptoRow.holds Try.pinned (OpenSpec.upto footJoinsSpec)

/-- 'sluicewaylaw10.FootMeets', WHERE WHAT IT READS IS OF BULK AT MOST 1048576: true; the input reads as it did. -/
def footMeetsUptoRow : OpenClaim := { program := "ytekeepgjegkedaa", sum := "0ff6e741a32837784882af2da69502a3f5881481035af7e188dfdf6fab09266a", func := "sluiceway/sluicewaylaw10.FootMeets", spec := "footMeets", unfollowed := true, recurses := true, apart := false, narrowed := true }
def FootMeetsUptoSaid : Prop := footMeetsUptoRow.holds Try.pinned (OpenSpec.upto footMeetsSpec)

/-- 'sluicewaylaw10.FootPuts', WHERE WHAT IT READS IS OF BULK AT MOST 1048576: true; the input reads as it did. -/
def footPutsUptoRow : OpenClaim := { program := "ytekeepgjegkedaa", sum := "0ff6e741a32837784882af2da69502a3f5881481035af7e188dfdf6fab09266a", func := "sluiceway/sluicewaylaw10.FootPuts", spec := "footPuts", unfollowed := true, recurses := true, apart := false, narrowed := true }
def FootPutsUptoSaid : Prop := footPutsUptoRow.holds Try.pinned (OpenSpec.upto footPutsSpec)

/-- 'sluicewaylaw10.FootTakes', WHERE WHAT IT READS IS OF BULK AT MOST 1048576: true; the input reads as it did. -/
def footTakesUptoRow : OpenClaim := { program := "ytekeepgjegkedaa", sum := "0ff6e741a32837784882af2da69502a3f5881481035af7e188dfdf6fab09266a", func := "sluiceway/sluicewaylaw10.FootTakes", spec := "footTakes", unfollowed := true, recurses := true, apart := false, narrowed := true }
def FootTakesUptoSaid : Prop := footTakesUptoRow.holds Try.pinned (OpenSpec.upto footTakesSpec)

end Rows
end Go.Proofs.Ytekeepgjegkedaa
