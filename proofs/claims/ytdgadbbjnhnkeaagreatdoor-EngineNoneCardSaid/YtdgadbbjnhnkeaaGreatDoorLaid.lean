/- What the listed variables hold; programs as inputs. -/
import Derived.Test.YtdgadbbjnhnkeaaGreatDoorHallNil
import Derived.OpenShut
import Derived.LaidMore
import Derived.Lay
import Derived.SevenTiedAt
import Derived.Stop.Joined
set_option linter.unusedVariables false
set_option linter.unusedSimpArgs false
set_option linter.unnecessarySimpa false
namespace Go.Proofs.YtdgadbbjnhnkeaaGreatDoor
open Go.ChangeShapes Go.WideShapes Go.ChangeAt Go.RowKit Go.Ai
theorem Tryz.own : ownKnob Tryz.prog.godebug = none := by kernel_rfl
theorem Tryz.laidOut : laidOutB Tryz.prog = true := by kernel_rfl
theorem rep_code : Rep Tryz.prog 3 85 ccells (fun _ : Code => True) :=
  (rep_struct Tryz.underlying85 (repF_cons (rep_int Tryz.underlying3) (repF_cons (rep_int Tryz.underlying3) (repF_cons (rep_int Tryz.underlying3) (repF_cons (rep_int Tryz.underlying3) (repF_cons (rep_int Tryz.underlying3) (repF_one (rep_int Tryz.underlying3)))))))).map (fun x => x) (fun _ => rfl) fun _ _ => trivial
noncomputable def gcells (x : Int × List Code) : List Value := [.int .i64 x.1, inlL ccells 6 x.2]
theorem rep_prog : Rep Tryz.prog 5 24 gcells (fun x => x.2.length ≤ 9223372036854775807) :=
  (rep_struct Tryz.underlying24 (repF_cons (rep_int Tryz.underlying3) (repF_one (rep_slice Tryz.underlying22 (by kernel_rfl) rep_code)))).map (fun x => x) (fun _ => rfl) fun _ h => h.2.1
abbrev seatLaid : List (String × DataW Unit) := [("sluiceway/exec.errAbort", Rows.laid_sluiceway_exec_errAbort), ("sluiceway/exec.errFuel", Rows.laid_sluiceway_exec_errFuel), ("sluiceway/engine.errNoRoom", Rows.laid_sluiceway_engine_errNoRoom)]
set_option maxRecDepth 100000 in
theorem err532 : ∀ u, Tryz.prog.typeName? 3 u = some "*errors.errorString" → u = 532 := errType (by kernel_rfl) (by kernel_rfl)
set_option maxRecDepth 100000 in
theorem laid_errs {W : World} (h : laidMetH Tryz.prog seatLaid W) : ∀ g, g < 3 → ErrAt W 532 g := by
  rw [MakeChecks.laidMetH_plain _ _ _ (by kernel_rfl)] at h
  obtain ⟨ps, hv, _, hcell⟩ := h
  obtain ⟨g1, t1, cs1, f1, p1, q1, a1, b1, c1, d1, ⟨g2, t2, cs2, f2, p2, q2, a2, b2, c2, d2, ⟨g3, t3, cs3, f3, p3, q3, a3, b3, c3, d3, rfl, rfl⟩, rfl⟩, rfl⟩ := hv
  obtain rfl : (1 : Nat) = g1 := Option.some.inj (Eq.trans (by kernel_rfl) a1)
  obtain rfl : (2 : Nat) = g2 := Option.some.inj (Eq.trans (by kernel_rfl) a2)
  obtain rfl : (0 : Nat) = g3 := Option.some.inj (Eq.trans (by kernel_rfl) a3)
  obtain rfl : (32 : Nat) = t1 := Option.some.inj (Eq.trans (by kernel_rfl) b1)
  obtain rfl : (32 : Nat) = t2 := Option.some.inj (Eq.trans (by kernel_rfl) b2)
  obtain rfl : (32 : Nat) = t3 := Option.some.inj (Eq.trans (by kernel_rfl) b3)
  intro g hg
  rcases (by omega : g = 0 ∨ g = 1 ∨ g = 2) with rfl | rfl | rfl
  · exact sent_at (q := []) err532 Tryz.underlying532 Tryz.underlying32 a3 c3 d3 fun b off hm => (hcell b off (by simp only [List.mem_append, List.append_nil] at hm ⊢; exact .inr (.inr (.inl hm)))).2
  · exact sent_at (q := []) err532 Tryz.underlying532 Tryz.underlying32 a1 c1 d1 fun b off hm => (hcell b off (by simp only [List.mem_append, List.append_nil] at hm ⊢; exact .inl (.inl hm))).2
  · exact sent_at (q := []) err532 Tryz.underlying532 Tryz.underlying32 a2 c2 d2 fun b off hm => (hcell b off (by simp only [List.mem_append, List.append_nil] at hm ⊢; exact .inr (.inl (.inl hm)))).2
end Go.Proofs.YtdgadbbjnhnkeaaGreatDoor