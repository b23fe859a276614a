/- What the listed variables hold; inputs. -/
import Derived.Test.YtgplkbfjlidinabDoorPrint
import Derived.Test.YtgplkbfjlidinabDoorAiCon
import Derived.Test.YtgplkbfjlidinabDoorAiHit
import Derived.OpenShut
import Derived.LaidMore
import Derived.Lay
import Derived.SevenTiedAt
import Derived.Stop.Joined
import Derived.Lib.LaidTab
import Derived.Test.YtgplkbfjlidinabDoorKit
set_option linter.unusedVariables false
set_option linter.unusedSimpArgs false
set_option linter.unnecessarySimpa false
set_option maxRecDepth 100000
namespace Go.Proofs.YtgplkbfjlidinabDoor
open Go.ChangeShapes Go.WideShapes Go.ChangeAt Go.RowKit Go.Ai Go.Proofs
theorem Tryd.own : ownKnob Tryd.prog.godebug = none := Z3
theorem Tryd.laidOut : laidOutB Tryd.prog = true := Z3
abbrev seatLaid : List (String × DataW Unit) := [("math/bits.deBruijn32tab", Rows.laid_math_bits_deBruijn32tab), ("math/bits.deBruijn64tab", Rows.laid_math_bits_deBruijn64tab), ("internal/strconv.uint64pow10", Rows.laid_internal_strconv_uint64pow10), ("unicode/utf8.acceptRanges", Rows.laid_unicode_utf8_acceptRanges), ("strconv.ErrRange", Rows.laid_strconv_ErrRange), ("strconv.ErrSyntax", Rows.laid_strconv_ErrSyntax), ("unicode/utf8.first", Rows.laid_unicode_utf8_first)]
theorem err136 : ∀ u, Tryd.prog.typeName? 3 u = some "*errors.errorString" → u = 136 := errType Z3 Z3
theorem laid_tab {W : World} (h : laidMetH Tryd.prog seatLaid W) : VarsOk Tryd.prog W 136000004004000 := by
 rw [MakeChecks.laidMetH_plain _ _ _ Z3] at h;obtain ⟨ps, hv, _, hcell⟩ := h;obtain ⟨g0, t0, cs0, f0, p0, q0, a0, b0, c0, d0, ⟨g1, t1, cs1, f1, p1, q1, a1, b1, c1, d1, ⟨gt, tt, ct, ft, pt, qt, at_, bt, cct, dt, ⟨g3, t3, cs3, f3, p3, q3, a3, b3, c3, d3, ⟨g4, t4, cs4, f4, p4, q4, a4, b4, c4, d4, ⟨g5, t5, cs5, f5, p5, q5, a5, b5, c5, d5, ⟨g6, t6, cs6, f6, p6, q6, a6, b6, c6, d6, rfl, rfl⟩, rfl⟩, rfl⟩, rfl⟩, rfl⟩, rfl⟩, rfl⟩ := hv;obtain rfl : (0 : Nat) = gt := Option.some.inj (Eq.trans Z3 at_);obtain rfl : (103 : Nat) = tt := Option.some.inj (Eq.trans Z3 bt);obtain rfl : (2 : Nat) = g5 := Option.some.inj (Eq.trans Z3 a5);obtain rfl : (27 : Nat) = t5 := Option.some.inj (Eq.trans Z3 b5);obtain rfl : (3 : Nat) = g4 := Option.some.inj (Eq.trans Z3 a4);obtain rfl : (27 : Nat) = t4 := Option.some.inj (Eq.trans Z3 b4);have e := Lib.cells_of_tab (k := .u64) (zs := Lib.pow10Tab) Tryd.underlying103 Tryd.underlying84 Z3 Z3 dt;refine ⟨Zi, Z3, ?_, fun b hb => ?_, fun b hb => ?_⟩
 ·show W.var? Tryd.prog "internal/strconv.uint64pow10" = _;rw [cct, ← e]
 ·have hb : b + 1 = 3 ∨ b + 1 = 4 := hb;rcases (by omega : b = 2 ∨ b = 3) with rfl | rfl
  ·rw [(show gT 136000004004000 = 136 by decide)];obtain ⟨c_, t_, f_, v_, q1, q2, q3⟩ := sent_at (q := []) err136 Tryd.underlying136 Tryd.underlying27 a5 c5 d5 fun b off hm => (hcell b off (by simp only [List.mem_append, List.append_nil] at hm ⊢; first | exact .inr (.inr (.inr (.inr (.inr (.inl (.inl hm)))))) | exact .inr (.inr (.inr (.inr (.inr (.inl hm))))))).2
   exact ⟨v_, by unfold World.cell?; rw [q1]; simpa using q2, q3⟩
  ·rw [(show gT 136000004004000 = 136 by decide)];obtain ⟨c_, t_, f_, v_, q1, q2, q3⟩ := sent_at (q := []) err136 Tryd.underlying136 Tryd.underlying27 a4 c4 d4 fun b off hm => (hcell b off (by simp only [List.mem_append, List.append_nil] at hm ⊢; first | exact .inr (.inr (.inr (.inr (.inl (.inl hm))))) | exact .inr (.inr (.inr (.inr (.inl hm)))))).2
   exact ⟨v_, by unfold World.cell?; rw [q1]; simpa using q2, q3⟩
 ·exfalso;revert hb
  exact (fun (h : b + 1 = 0) => Z4)
theorem rep_code : Rep Tryd.prog 3 40 Z20 inC :=
 (rep_struct Tryd.underlying40 (repF_cons (rep_int Tryd.underlying3) (repF_cons (rep_int Tryd.underlying3) (repF_cons (rep_int Tryd.underlying3) (repF_cons (rep_int Tryd.underlying3) (repF_cons (rep_int Tryd.underlying3) (repF_one (rep_int Tryd.underlying3)))))))).map (fun x => x) (fun _ => rfl) fun x h => ⟨⟨h.1.1, Int.lt_add_one_of_le h.1.2⟩, ⟨h.2.1.1, Int.lt_add_one_of_le h.2.1.2⟩, ⟨h.2.2.1.1, Int.lt_add_one_of_le h.2.2.1.2⟩, ⟨h.2.2.2.1.1, Int.lt_add_one_of_le h.2.2.2.1.2⟩, ⟨h.2.2.2.2.1.1, Int.lt_add_one_of_le h.2.2.2.2.1.2⟩, ⟨h.2.2.2.2.2.1, Int.lt_add_one_of_le h.2.2.2.2.2.2⟩⟩
noncomputable def gcells (x : Int × List Code) : List Value := [.int .i64 x.1, inlL Z20 6 x.2]
theorem rep_prog : Rep Tryd.prog 5 24 gcells (fun x => in64 x.1 ∧ x.2.length ≤ maxLen ∧ ∀ c ∈ x.2, inC c) :=
 (rep_struct Tryd.underlying24 (repF_cons (rep_int Tryd.underlying3) (repF_one (rep_slice Tryd.underlying22 Z3 rep_code)))).map (fun x => x) (fun _ => rfl) fun _ h => ⟨⟨h.1.1, Int.lt_add_one_of_le h.1.2⟩, h.2.1, h.2.2⟩
end Go.Proofs.YtgplkbfjlidinabDoor