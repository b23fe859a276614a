/- What inputs are told as. -/
import Derived.Test.YtegigohhnplomaaBase
import Derived.Test.YtegigohhnplomaaAiCon
import Derived.Test.YtegigohhnplomaaKit
set_option linter.unusedVariables false
set_option linter.unusedSimpArgs false
set_option linter.unnecessarySimpa false
namespace Go.Proofs.Ytegigohhnplomaa
open Go.ChangeShapes Go.WideShapes Go.ChangeAt Go.RowKit Go.Ai
theorem Try.own : ownKnob Try.prog.godebug = none := Z1
theorem Try.laidOut : laidOutB Try.prog = true := Z1
theorem i64 {n : Int} (h : IntKind.i64.min ≤ n ∧ n ≤ IntKind.i64.max) : in64 n := ⟨h.1, Int.lt_add_one_of_le h.2⟩
theorem rep_key : Rep Try.prog 3 48 Z1v (fun k : Key => in64 k.1 ∧ in64 k.2) :=
 (rep_struct Try.underlying48 (repF_cons (rep_int Try.underlying3) (repF_one (rep_int Try.underlying3)))).map (fun x => x) (fun _ => rfl) fun x h => ⟨i64 h.1, i64 h.2⟩
theorem rep_span : Rep Try.prog 3 71 Z1y (fun x : Span => in64 x.1 ∧ in64 x.2.1 ∧ in64 x.2.2) :=
 (rep_struct Try.underlying71 (repF_cons (rep_int Try.underlying3) (repF_cons (rep_int Try.underlying3) (repF_one (rep_int Try.underlying3))))).map (fun x => x) (fun _ => rfl) fun x h => ⟨i64 h.1, i64 h.2.1, i64 h.2.2⟩
def inCode (x : Code) : Prop := in64 x.1 ∧ in64 x.2.1 ∧ in64 x.2.2.1 ∧ in64 x.2.2.2.1 ∧ in64 x.2.2.2.2.1 ∧ in64 x.2.2.2.2.2
theorem rep_code : Rep Try.prog 3 52 Z1w inCode :=
 (rep_struct Try.underlying52 (repF_cons (rep_int Try.underlying3) (repF_cons (rep_int Try.underlying3) (repF_cons (rep_int Try.underlying3) (repF_cons (rep_int Try.underlying3) (repF_cons (rep_int Try.underlying3) (repF_one (rep_int Try.underlying3)))))))).map (fun x => x) (fun _ => rfl) fun x h => ⟨i64 h.1, i64 h.2.1, i64 h.2.2.1, i64 h.2.2.2.1, i64 h.2.2.2.2.1, i64 h.2.2.2.2.2⟩
def inWr (x : Wr) : Prop := in64 x.1 ∧ in64 x.2.1 ∧ in64 x.2.2.1
theorem rep_write : Rep Try.prog 4 50 Z21 inWr :=
 (rep_struct Try.underlying50 (repF_cons rep_key (repF_cons (rep_int Try.underlying3) (repF_one (rep_bool Try.underlying4))))).map (fun x => (x.1.1, x.1.2, x.2.1, x.2.2)) (fun _ => rfl) fun x h => ⟨h.1.1, h.1.2, i64 h.2.1⟩
abbrev Rec := Int × Bool × (Int × List Code) × (List Key × List Span × List Key) × List Wr
noncomputable def rcells (x : Rec) : List Value := [.int .i64 x.1, .bool x.2.1, .int .i64 x.2.2.1.1, inlL Z1w 6 x.2.2.1.2, inlL Z1v 2 x.2.2.2.1.1, inlL Z1y 3 x.2.2.2.1.2.1, inlL Z1v 2 x.2.2.2.1.2.2, inlL Z21 4 x.2.2.2.2]
def inRec (x : Rec) : Prop := in64 x.1 ∧ (in64 x.2.2.1.1 ∧ ∀ c ∈ x.2.2.1.2, inCode c) ∧ ((∀ k ∈ x.2.2.2.1.1, in64 k.1 ∧ in64 k.2) ∧ (∀ k ∈ x.2.2.2.1.2.1, in64 k.1 ∧ in64 k.2.1 ∧ in64 k.2.2) ∧ ∀ k ∈ x.2.2.2.1.2.2, in64 k.1 ∧ in64 k.2) ∧ ∀ w ∈ x.2.2.2.2, inWr w
theorem rep_rec : Rep Try.prog 6 31 rcells inRec :=
 (rep_struct Try.underlying31 (repF_cons (rep_int Try.underlying3) (repF_cons (rep_bool Try.underlying4)
  (repF_cons (rep_struct Try.underlying24 (repF_cons (rep_int Try.underlying3) (repF_one (rep_slice Try.underlying22 Z1 rep_code))))
   (repF_cons (rep_struct Try.underlying28 (repF_cons (rep_slice Try.underlying25 Z1 rep_key) (repF_cons (rep_slice Try.underlying26 Z1 rep_span) (repF_one (rep_slice Try.underlying25 Z1 rep_key)))))
    (repF_one (rep_slice Try.underlying29 Z1 rep_write))))))).map (fun x => x) (fun _ => rfl)
  fun x h => ⟨i64 h.1, ⟨i64 h.2.2.1.1, h.2.2.1.2.2⟩, ⟨h.2.2.2.1.1.2, h.2.2.2.1.2.1.2, h.2.2.2.1.2.2.2⟩, h.2.2.2.2.2⟩
end Go.Proofs.Ytegigohhnplomaa