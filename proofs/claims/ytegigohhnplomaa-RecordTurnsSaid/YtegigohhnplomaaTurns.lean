/- For every record, every place and every byte RecordTurns answers true and leaves its arguments as they were. No condition. -/
import Derived.Test.YtegigohhnplomaaLawTurns
import Derived.Test.YtegigohhnplomaaLift
import Derived.Test.YtegigohhnplomaaKit
set_option linter.unusedVariables false
set_option linter.unusedSimpArgs false
set_option linter.unnecessarySimpa false
set_option maxRecDepth 100000
namespace Go.Proofs.Ytegigohhnplomaa
open Go.ChangeShapes Go.WideShapes Go.ChangeAt Go.RowKit Go.Ai
theorem turns_lifted (os : Os) (started : os.Started) (H : Type) (enc : TypeId × Value → H) :
  ReturnsInHanded {} Try.checked os 5 .any (Rows.recordTurnsSpec.pre6 enc Try.prog Try.f5 Rows.recordTurnsRow.domain false) (Rows.recordTurnsSpec.post enc Try.prog Try.f5 false true false false) := by
 refine returnsInHanded_of_change (C := Try.checked) Try.own started Z1 Try.func5
  (ChangeSpec.witness6 (enc := enc) (C := Try.checked) false ⟨#[], #[.agg #[.int .i64 0, .bool false, .int .i64 0, .slice none 0 0, .slice none 0 0, .slice none 0 0, .slice none 0 0, .slice none 0 0], .int .i64 0, .int .u8 0], []⟩ 8 Z1 Z1 Z1 Z1) ?_
 intro W base args ds gs before hval0 hW hcnd _;have hval : ∀ (j : Nat) t v, Try.f5.params[j]? = some t → args[j]? = some v → Value.okWide Try.prog W .any base t v := hval0;have hW' := hW;obtain ⟨p, q, hA0, hV, rfl, hfz, hnd⟩ := hW;have hA : DataW.TrodAll enc Try.prog W 0 (fun _ => true) true Try.f5.params.toList args.toList ds p := hA0;rw [Try.params5] at hA hval;obtain ⟨v0, v1, v2, d0, d1, d2, p0, p1, p2, rfl, rfl, rfl, h0, h1, h2⟩ := trodAll_three hA;obtain ⟨rfl, rfl⟩ := trodVars_none hV;obtain ⟨⟨sq, vl, ⟨fu, co⟩, ⟨rs, ss, ws⟩, wr⟩, ka, ra⟩ := arg_struct Try.underlying31 (hval 0 31 v0 rfl rfl) Z1 rep_rec h0;obtain ⟨at_, _, rb⟩ := arg_int (n := 1) Try.underlying3 (hval 1 3 v1 rfl rfl) Z1 (rep_int Try.underlying3) h1;obtain ⟨yy, ky, rc⟩ := arg_int (n := 1) Try.underlying5 (hval 2 5 v2 rfl rfl) Z1 (rep_int Try.underlying5) h2;obtain ⟨y, rfl⟩ : ∃ y : UInt8, yy = ((y.toNat : Nat) : Int) := by
  have k1 : 0 ≤ yy := ky.1;have k2 : yy ≤ 255 := ky.2;refine ⟨UInt8.ofNat yy.toNat, ?_⟩;rw [UInt8.toNat_ofNat'];omega
 obtain ⟨_, ⟨_, a4⟩, ⟨a1, a2, a3⟩, a5⟩ := ka;have hcalls := calls_sc (args' := #[v0, v1, v2]) (sr_lay (St.empty 0).get W) (Z1x 0) (fun i h => absurd h (dom_lay W i)) (.cons ra (.cons rb (.cons rc .nil))) ((lawTurns_sc sq vl fu co rs ss ws wr at_ y a1 a2 a3 a4 a5).up fun _ _ h => h.1);refine hcalls.mono fun e W' ⟨he, hw⟩ => ?_
 subst he;exact ⟨_, rfl, post_true (tb := 4) hW' rfl hw Try.laidOut Z1 Z1 Z1 rfl rfl rfl⟩
theorem recordTurns_holds : Rows.RecordTurnsSaid :=
 OpenClaim.holds_of_wide 5 Try.f5 rfl rfl rfl rfl rfl rfl rfl ⟨rfl, rfl, rfl, rfl, rfl⟩ rfl rfl rfl rfl rfl Z1 Try.func5 Z1
  (of_decide_eq_true Z1) (by unfold Func.isWrapper; first | (rw [if_pos (by decide +kernel)]; kernel_rfl) | (rw [if_neg (by decide +kernel)]; exact ⟨rfl, rfl⟩))
  (fun os started H enc _ => turns_lifted os started H enc)
#print axioms recordTurns_holds
end Go.Proofs.Ytegigohhnplomaa