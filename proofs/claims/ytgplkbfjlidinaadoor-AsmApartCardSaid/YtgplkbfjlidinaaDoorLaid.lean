/- What the listed variables hold; inputs. -/
import Derived.Test.YtgplkbfjlidinaaDoorPrint
import Derived.Test.YtgplkbfjlidinaaDoorAiCon
import Derived.OpenShut
import Derived.LaidMore
import Derived.Lay
import Derived.SevenTiedAt
import Derived.Stop.Joined
import Derived.Lib.LaidTab
set_option linter.unusedVariables false
set_option linter.unusedSimpArgs false
set_option linter.unnecessarySimpa false
namespace Go.Proofs.YtgplkbfjlidinaaDoor
open Go.ChangeShapes Go.WideShapes Go.ChangeAt Go.RowKit Go.Ai Go.Proofs
theorem Tryd.own : ownKnob Tryd.prog.godebug = none := by kernel_rfl
theorem Tryd.laidOut : laidOutB Tryd.prog = true := by kernel_rfl
abbrev seatLaid : List (String × DataW Unit) := [("math/bits.deBruijn32tab", Rows.laid_math_bits_deBruijn32tab), ("math/bits.deBruijn64tab", Rows.laid_math_bits_deBruijn64tab), ("internal/strconv.uint64pow10", Rows.laid_internal_strconv_uint64pow10), ("unicode/utf8.acceptRanges", Rows.laid_unicode_utf8_acceptRanges), ("unicode/utf8.first", Rows.laid_unicode_utf8_first)]
set_option maxRecDepth 100000 in
theorem laid_tab {W : World} (h : laidMetH Tryd.prog seatLaid W) : VarsOk Tryd.prog W 1001 := by
  rw [MakeChecks.laidMetH_plain _ _ _ (by kernel_rfl)] at h
  obtain ⟨ps, hv, _, hcell⟩ := h
  obtain ⟨g0, t0, cs0, f0, p0, q0, a0, b0, c0, d0, ⟨g1, t1, cs1, f1, p1, q1, a1, b1, c1, d1, ⟨gt, tt, ct, ft, pt, qt, at_, bt, cct, dt, ⟨g3, t3, cs3, f3, p3, q3, a3, b3, c3, d3, ⟨g4, t4, cs4, f4, p4, q4, a4, b4, c4, d4, rfl, rfl⟩, rfl⟩, rfl⟩, rfl⟩, rfl⟩ := hv
  obtain rfl : (1 : Nat) = gt := Option.some.inj (Eq.trans (by kernel_rfl) at_)
  obtain rfl : (90 : Nat) = tt := Option.some.inj (Eq.trans (by kernel_rfl) bt)
  have e := Lib.cells_of_tab (k := .u64) (zs := Lib.pow10Tab) Tryd.underlying90 Tryd.underlying67 (by kernel_rfl) (by kernel_rfl) dt
  refine ⟨by decide, by kernel_rfl, ?_, fun b hb => ?_, fun b hb => ?_⟩
  · show W.var? Tryd.prog "internal/strconv.uint64pow10" = _
    rw [cct, ← e]
  · exfalso
    revert hb
    exact (fun (h : b + 1 = 0 ∨ b + 1 = 0) => by omega)
  · exfalso
    revert hb
    exact (fun (h : b + 1 = 0) => by omega)
theorem rep_code : Rep Tryd.prog 3 23 ccells inC :=
  (rep_struct Tryd.underlying23 (repF_cons (rep_int Tryd.underlying3) (repF_cons (rep_int Tryd.underlying3) (repF_cons (rep_int Tryd.underlying3) (repF_cons (rep_int Tryd.underlying3) (repF_cons (rep_int Tryd.underlying3) (repF_one (rep_int Tryd.underlying3)))))))).map (fun x => x) (fun _ => rfl) fun x h => ⟨⟨h.1.1, Int.lt_add_one_of_le h.1.2⟩, ⟨h.2.1.1, Int.lt_add_one_of_le h.2.1.2⟩, ⟨h.2.2.1.1, Int.lt_add_one_of_le h.2.2.1.2⟩, ⟨h.2.2.2.1.1, Int.lt_add_one_of_le h.2.2.2.1.2⟩, ⟨h.2.2.2.2.1.1, Int.lt_add_one_of_le h.2.2.2.2.1.2⟩, ⟨h.2.2.2.2.2.1, Int.lt_add_one_of_le h.2.2.2.2.2.2⟩⟩
noncomputable def gcells (x : Int × List Code) : List Value := [.int .i64 x.1, inlL ccells 6 x.2]
theorem rep_prog : Rep Tryd.prog 5 39 gcells (fun x => in64 x.1 ∧ x.2.length ≤ maxLen ∧ ∀ c ∈ x.2, inC c) :=
  (rep_struct Tryd.underlying39 (repF_cons (rep_int Tryd.underlying3) (repF_one (rep_slice Tryd.underlying37 (by kernel_rfl) rep_code)))).map (fun x => x) (fun _ => rfl) fun _ h => ⟨⟨h.1.1, Int.lt_add_one_of_le h.1.2⟩, h.2.1, h.2.2⟩
end Go.Proofs.YtgplkbfjlidinaaDoor