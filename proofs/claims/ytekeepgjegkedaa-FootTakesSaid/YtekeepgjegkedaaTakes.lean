/- For all bytes FootTakes answers true and leaves its argument as it was. No condition. -/
import Derived.Test.YtekeepgjegkedaaLaw7
import Derived.Test.YtekeepgjegkedaaLift
import Derived.Test.YtekeepgjegkedaaKit
set_option linter.unusedVariables false
set_option linter.unusedSimpArgs false
set_option linter.unnecessarySimpa false
set_option maxRecDepth 100000
namespace Go.Proofs.Ytekeepgjegkedaa
open Go.ChangeShapes Go.WideShapes Go.ChangeAt Go.RowKit Go.Ai
theorem rep_byte {P : Program} {n : Nat} {t : TypeId} (hu : P.underlying t = some (.int .u8)) : Rep P (n + 1) t Z1n (fun _ => True) := fun xs h => by
 obtain ⟨x, rfl, h1, h2⟩ := rep_int hu xs h;have g1 : 0 ≤ x := h1;have g2 : x ≤ 255 := h2;refine ⟨UInt8.ofNat x.toNat, ?_, trivial⟩;show [Value.int .u8 x] = [Value.int .u8 ((UInt8.ofNat x.toNat).toNat : Int)];rw [ofNat_small Z5, Int.toNat_of_nonneg g1]
theorem takes_lifted (os : Os) (started : os.Started) (H : Type) (enc : TypeId × Value → H) :
  ReturnsInHanded {} Try.checked os 7 .any (Rows.footTakesSpec.pre6 enc Try.prog Try.f7 Rows.footTakesRow.domain false) (Rows.footTakesSpec.post enc Try.prog Try.f7 false true false false) := by
 refine returnsInHanded_of_change (C := Try.checked) Try.own started Z0 Try.func7
  (ChangeSpec.witness6 (enc := enc) (C := Try.checked) false ⟨#[], #[.slice none 0 0], []⟩ 8 Z0 Z0 Z0 Z0) ?_
 intro W base args ds gs before hval0 hW hcnd _;have hval : ∀ (j : Nat) t v, Try.f7.params[j]? = some t → args[j]? = some v → Value.okWide Try.prog W .any base t v := hval0;have hW' := hW;obtain ⟨p, q, hA0, hV, rfl, hfz, hnd⟩ := hW;have hA : DataW.TrodAll enc Try.prog W 0 (fun _ => true) true Try.f7.params.toList args.toList ds p := hA0;rw [Try.params7] at hA hval;obtain ⟨v0, d0, rfl, rfl, h0⟩ := trodAll_one hA;obtain ⟨rfl, rfl⟩ := trodVars_none hV;obtain ⟨b, ka, ra⟩ := arg_slice (g := fun l : List UInt8 => inlL Z1n 1 l) Try.underlying42 (hval 0 42 v0 rfl rfl) Z0 (rep_slice (n := 1) Try.underlying42 Z0 (rep_byte Try.underlying5)) h0;have hcalls := calls_sc (args' := #[v0]) (sr_lay (St.empty 0).get W) (Z1r 0) (fun i h => absurd h (dom_lay W i)) (.cons ra .nil) ((law7_sc b).up fun _ _ h => h.1);refine hcalls.mono fun e W' ⟨he, hw⟩ => ?_
 subst he;exact ⟨_, rfl, post_true (tb := 4) hW' rfl hw Try.laidOut Z0 Z0 Z0 rfl rfl rfl⟩
theorem footTakes_holds : Rows.FootTakesSaid :=
 OpenClaim.holds_of_wide 7 Try.f7 rfl rfl rfl rfl rfl rfl rfl ⟨rfl, rfl, rfl, rfl, rfl⟩ rfl rfl rfl rfl rfl Z0 Try.func7 Z0
  (of_decide_eq_true Z0) (by unfold Func.isWrapper; first | (rw [if_pos (by decide +kernel)]; kernel_rfl) | (rw [if_neg (by decide +kernel)]; exact ⟨rfl, rfl⟩))
  (fun os started H enc _ => takes_lifted os started H enc)
#print axioms footTakes_holds
end Go.Proofs.Ytekeepgjegkedaa