/- What inputs are told as. -/
import Derived.Test.YtekeepgjegkedaaBase
import Derived.Test.YtekeepgjegkedaaAiCon
set_option linter.unusedVariables false
set_option linter.unusedSimpArgs false
set_option linter.unnecessarySimpa false
namespace Go.Proofs.Ytekeepgjegkedaa
open Go.ChangeShapes Go.WideShapes Go.ChangeAt Go.RowKit Go.Ai
theorem Try.own : ownKnob Try.prog.godebug = none := by kernel_rfl
theorem Try.laidOut : laidOutB Try.prog = true := by kernel_rfl
theorem rep_key : Rep Try.prog 3 30 kcells (fun k : Key => in64 k.1 ∧ in64 k.2) :=
  (rep_struct Try.underlying30 (repF_cons (rep_int Try.underlying3) (repF_one (rep_int Try.underlying3)))).map (fun x => x) (fun _ => rfl) fun x h => ⟨⟨h.1.1, Int.lt_add_one_of_le h.1.2⟩, h.2.1, Int.lt_add_one_of_le h.2.2⟩
theorem rep_span : Rep Try.prog 3 32 scells (fun x : Span => in64 x.2.1 ∧ in64 x.2.2) :=
  (rep_struct Try.underlying32 (repF_cons (rep_int Try.underlying3) (repF_cons (rep_int Try.underlying3) (repF_one (rep_int Try.underlying3))))).map (fun x => x) (fun _ => rfl) fun x h => ⟨⟨h.2.1.1, Int.lt_add_one_of_le h.2.1.2⟩, h.2.2.1, Int.lt_add_one_of_le h.2.2.2⟩
theorem rep_foot : Rep Try.prog 5 25 fcells (fun x : Foot => (∀ k ∈ x.1, in64 k.1 ∧ in64 k.2) ∧ (∀ s ∈ x.2.1, in64 s.2.1 ∧ in64 s.2.2) ∧ ∀ k ∈ x.2.2, in64 k.1 ∧ in64 k.2) :=
  (rep_struct Try.underlying25 (repF_cons (rep_slice Try.underlying22 (by kernel_rfl) rep_key) (repF_cons (rep_slice Try.underlying23 (by kernel_rfl) rep_span) (repF_one (rep_slice Try.underlying22 (by kernel_rfl) rep_key))))).map (fun x => x) (fun _ => rfl) fun x h => ⟨h.1.2, h.2.1.2, h.2.2.2⟩
end Go.Proofs.Ytekeepgjegkedaa