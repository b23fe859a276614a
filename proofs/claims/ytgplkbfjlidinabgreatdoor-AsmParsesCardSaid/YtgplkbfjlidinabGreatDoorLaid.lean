/- What the listed variables hold; inputs. -/
import Derived.Test.YtgplkbfjlidinabGreatDoorPrint
import Derived.Test.YtgplkbfjlidinabGreatDoorAiCon
import Derived.Test.YtgplkbfjlidinabGreatDoorAiHit
import Derived.OpenShut
import Derived.LaidMore
import Derived.Lay
import Derived.SevenTiedAt
import Derived.Stop.Joined
import Derived.Lib.LaidTab
import Derived.Test.YtgplkbfjlidinabGreatDoorKit
set_option linter.unusedVariables false
set_option linter.unusedSimpArgs false
set_option linter.unnecessarySimpa false
set_option maxRecDepth 100000
namespace Go.Proofs.YtgplkbfjlidinabGreatDoor
open Go.ChangeShapes Go.WideShapes Go.ChangeAt Go.RowKit Go.Ai Go.Proofs
theorem Tryz.own : ownKnob Tryz.prog.godebug = none := Z3
theorem Tryz.laidOut : laidOutB Tryz.prog = true := Z3
abbrev seatLaid : List (String × DataW Unit) := [("math/bits.deBruijn32tab", Rows.laid_math_bits_deBruijn32tab), ("math/bits.deBruijn64tab", Rows.laid_math_bits_deBruijn64tab), ("internal/strconv.uint64pow10", Rows.laid_internal_strconv_uint64pow10), ("unicode/utf8.acceptRanges", Rows.laid_unicode_utf8_acceptRanges), ("strconv.ErrRange", Rows.laid_strconv_ErrRange), ("strconv.ErrSyntax", Rows.laid_strconv_ErrSyntax), ("unicode/utf8.first", Rows.laid_unicode_utf8_first)]
theorem err135 : ∀ u, Tryz.prog.typeName? 3 u = some "*errors.errorString" → u = 135 := errType Z3 Z3
theorem laid_tab {W : World} (h : laidMetH Tryz.prog seatLaid W) : VarsOk Tryz.prog W 135000004004000 := by
 rw [MakeChecks.laidMetH_plain _ _ _ Z3] at h;obtain ⟨ps, hv, _, hcell⟩ := h;obtain ⟨g0, t0, cs0, f0, p0, q0, a0, b0, c0, d0, ⟨g1, t1, cs1, f1, p1, q1, a1, b1, c1, d1, ⟨gt, tt, ct, ft, pt, qt, at_, bt, cct, dt, ⟨g3, t3, cs3, f3, p3, q3, a3, b3, c3, d3, ⟨g4, t4, cs4, f4, p4, q4, a4, b4, c4, d4, ⟨g5, t5, cs5, f5, p5, q5, a5, b5, c5, d5, ⟨g6, t6, cs6, f6, p6, q6, a6, b6, c6, d6, rfl, rfl⟩, rfl⟩, rfl⟩, rfl⟩, rfl⟩, rfl⟩, rfl⟩ := hv;obtain rfl : (0 : Nat) = gt := Option.some.inj (Eq.trans Z3 at_);obtain rfl : (114 : Nat) = tt := Option.some.inj (Eq.trans Z3 bt);obtain rfl : (2 : Nat) = g5 := Option.some.inj (Eq.trans Z3 a5);obtain rfl : (27 : Nat) = t5 := Option.some.inj (Eq.trans Z3 b5);obtain rfl : (3 : Nat) = g4 := Option.some.inj (Eq.trans Z3 a4);obtain rfl : (27 : Nat) = t4 := Option.some.inj (Eq.trans Z3 b4);have e := Lib.cells_of_tab (k := .u64) (zs := Lib.pow10Tab) Tryz.underlying114 Tryz.underlying86 Z3 Z3 dt;refine ⟨Zj, Z3, ?_, fun b hb => ?_, fun b hb => ?_⟩
 ·show W.var? Tryz.prog "internal/strconv.uint64pow10" = _;rw [cct, ← e]
 ·have hb : b + 1 = 3 ∨ b + 1 = 4 := hb;rcases (by omega : b = 2 ∨ b = 3) with rfl | rfl
  ·rw [(show gT 135000004004000 = 135 by decide)];obtain ⟨c_, t_, f_, v_, q1, q2, q3⟩ := sent_at (q := []) err135 Tryz.underlying135 Tryz.underlying27 a5 c5 d5 fun b off hm => (hcell b off (by simp only [List.mem_append, List.append_nil] at hm ⊢; first | exact .inr (.inr (.inr (.inr (.inr (.inl (.inl hm)))))) | exact .inr (.inr (.inr (.inr (.inr (.inl hm))))))).2
   exact ⟨v_, by unfold World.cell?; rw [q1]; simpa using q2, q3⟩
  ·rw [(show gT 135000004004000 = 135 by decide)];obtain ⟨c_, t_, f_, v_, q1, q2, q3⟩ := sent_at (q := []) err135 Tryz.underlying135 Tryz.underlying27 a4 c4 d4 fun b off hm => (hcell b off (by simp only [List.mem_append, List.append_nil] at hm ⊢; first | exact .inr (.inr (.inr (.inr (.inl (.inl hm))))) | exact .inr (.inr (.inr (.inr (.inl hm)))))).2
   exact ⟨v_, by unfold World.cell?; rw [q1]; simpa using q2, q3⟩
 ·exfalso;revert hb
  exact (fun (h : b + 1 = 0) => Z4)
end Go.Proofs.YtgplkbfjlidinabGreatDoor