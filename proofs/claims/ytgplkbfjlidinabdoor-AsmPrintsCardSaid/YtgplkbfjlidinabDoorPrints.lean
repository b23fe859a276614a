/- For every program AsmPrints answers true and leaves its argument as it was. Conditions: the listed package variables hold what the text of the program lays there (the card ties them to the text). -/
import Derived.Test.YtgplkbfjlidinabDoorLawPrints
import Derived.Test.YtgplkbfjlidinabDoorLaid
import Derived.Test.YtgplkbfjlidinabDoorCards
import Derived.Test.YtgplkbfjlidinabDoorTie
import Derived.SevenTiedAt
import Derived.Test.YtgplkbfjlidinabDoorKit
set_option linter.unusedVariables false
set_option linter.unusedSimpArgs false
set_option linter.unnecessarySimpa false
set_option maxRecDepth 100000
namespace Go.Proofs.YtgplkbfjlidinabDoor
open Go.ChangeShapes Go.WideShapes Go.ChangeAt Go.RowKit Go.Ai
theorem asmPrints_lifted (os : Os) (started : os.Started) (H : Type) (enc : TypeId × Value → H) :
  ReturnsInHanded {} Tryd.checked os 3 .any (fun w args => (Rows.asmPrintsSpec.pre enc Tryd.prog Tryd.f3 Rows.asmPrintsRow.domain false w args ∧ laidMetH Tryd.prog seatLaid w) ∧ sizedMet enc Tryd.prog Tryd.f3 (OpenSpec.ofChange Rows.asmPrintsSpec) false w args)
   (Rows.asmPrintsSpec.post enc Tryd.prog Tryd.f3 false true false false) := by
 refine returnsInHanded_of_change_and (C := Tryd.checked) (X := fun w _ => laidMetH Tryd.prog seatLaid w) (fun _ _ _ hh h => h.of_heap hh) Tryd.own started Z3 Tryd.func3
  (ChangeSpec.witness_shaped (enc := enc) (C := Tryd.checked) (os := os) (X := fun w _ => laidMetH Tryd.prog seatLaid w) false (World.laidAll Tryd.prog os seatLaid) #[.agg #[.int .i64 0, .slice none 0 0]] 8 (World.laidAll_os _ _ _)
   (World.shaped_of_ZipB Z3 Z3) Z3 Z3 Z3
   (by rw [MakeChecks.laidMetH_plain _ _ _ Z3]; exact laidMet_laidAll _ Z3 Z3)) ?_
 intro W base args ds gs before hval0 hW _ _ hlaid _;have hval : ∀ (j : Nat) t v, Tryd.f3.params[j]? = some t → args[j]? = some v → Value.okWide Tryd.prog W .any base t v := hval0;have hW' := hW;obtain ⟨p, q, hA0, hV, rfl, hfz, hnd⟩ := hW;have hA : DataW.TrodAll enc Tryd.prog W 0 (fun _ => true) true Tryd.f3.params.toList args.toList ds p := hA0;rw [Tryd.params3] at hA hval;obtain ⟨v0, d0, rfl, rfl, h0⟩ := trodAll_one hA;obtain ⟨rfl, rfl⟩ := trodVars_none hV;obtain ⟨⟨fu, co⟩, k0, r0⟩ := arg_struct Tryd.underlying24 (hval 0 24 v0 rfl rfl) Z3 rep_prog h0;have hcalls := calls_scG (G := 136000004004000) (args' := #[v0]) (sr_layG (St.empty 0).get W) (tab_glob (laid_tab hlaid)) (Z25 0) (fun i h => absurd h (dom_layG W i)) (.cons (r0.mono lay_leG) .nil) ((lawPrints_sc fu co k0.1 k0.2.2).up fun _ _ h => h.1);refine hcalls.mono fun e W' ⟨he, hw⟩ => ?_
 subst he;exact ⟨_, rfl, post_true (tb := 4) hW' rfl hw Tryd.laidOut Z3 Z3 Z3 rfl rfl rfl⟩
theorem asmPrints_row_holds : Rows.AsmPrintsSaid :=
 OpenClaim.holds_of_wide 3 Tryd.f3 rfl rfl rfl rfl rfl rfl rfl ⟨rfl, rfl, rfl, rfl, rfl⟩ rfl rfl rfl rfl rfl Z3 Tryd.func3 Z3
  (of_decide_eq_true Z3) (by unfold Func.isWrapper; first | (rw [if_pos (by decide +kernel)]; kernel_rfl) | (rw [if_neg (by decide +kernel)]; exact ⟨rfl, rfl⟩))
  (fun os started H enc _ => asmPrints_lifted os started H enc)
theorem asmPrints_wf : Rows.asmPrintsRow.wfByText (OpenSpec.ofChange Rows.asmPrintsSpec) = true := Z3
theorem asmPrints_main : Tryd.pinned.checked.prog.mainIs = some (true, "d935bd8f14ceffd237ef2d2dbcd77af0e7985bd08708f53decf0f80545ba58e4".toList) := Z3
theorem asmPrints_looks : true = Tryd.pinned.checked.prog.looks [] := Z3
theorem asmPrints_goes : false = Rows.asmPrintsRow.goesBy Tryd.pinned.checked.prog := Z3
theorem asmPrints_named : Tryd.prog.funcNamed "sluiceway/sluicewaylaw07.AsmPrints" = some 3 := Z3
theorem asmPrints_stand : ([24].all fun u => !Tryd.prog.wantsStandIn u) = true := Z3
theorem asmPrints_holds : Rows.AsmPrintsCardSaid :=
 Claim7.holds_tied_plain_at .later [] [.data, .data, .data, .data, .sentinel, .sentinel, .pinned] true (true, "d935bd8f14ceffd237ef2d2dbcd77af0e7985bd08708f53decf0f80545ba58e4") true asmPrints_row_holds (fun _ h => Z02) asmPrints_wf (fun _ h => Z02) asmPrints_row_tie rfl ⟨rfl, rfl⟩ asmPrints_main rfl
  (fun f fn hf hfn => by
   obtain rfl : f = 3 := Option.some.inj (asmPrints_named.symm.trans hf) |>.symm;obtain rfl : fn = Tryd.f3 := (Option.some.inj (Tryd.func3.symm.trans hfn)).symm;exact ⟨asmPrints_looks, fun j t ht => by
    rw [Tryd.params3] at ht;have hm : t ∈ ([24] : List Nat) := by simpa using Array.mem_of_getElem? ht
    exact (show Tryd.prog.wantsStandIn t = false by simpa using List.all_eq_true.1 asmPrints_stand t hm)⟩)
  asmPrints_goes
#print axioms asmPrints_holds
end Go.Proofs.YtgplkbfjlidinabDoor