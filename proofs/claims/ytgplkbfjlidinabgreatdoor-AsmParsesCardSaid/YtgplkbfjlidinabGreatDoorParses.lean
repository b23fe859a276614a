/- For every text AsmParses answers true and leaves its argument as it was. Conditions: the listed package variables hold what the text of the program lays there (the card ties them to the text). -/
import Derived.Test.YtgplkbfjlidinabGreatDoorLawParses
import Derived.Test.YtgplkbfjlidinabGreatDoorLaid
import Derived.Test.YtgplkbfjlidinabGreatDoorCards
import Derived.Test.YtgplkbfjlidinabGreatDoorTie
import Derived.SevenTiedAt
import Derived.Test.YtgplkbfjlidinabGreatDoorKit
set_option linter.unusedVariables false
set_option linter.unusedSimpArgs false
set_option linter.unnecessarySimpa false
set_option maxRecDepth 100000
namespace Go.Proofs.YtgplkbfjlidinabGreatDoor
open Go.ChangeShapes Go.WideShapes Go.ChangeAt Go.RowKit Go.Ai
theorem asmParses_lifted (os : Os) (started : os.Started) (H : Type) (enc : TypeId × Value → H) :
  ReturnsInHanded {} Tryz.checked os 3 .any (fun w args => (Rows.asmParsesSpec.pre enc Tryz.prog Tryz.f3 Rows.asmParsesRow.domain false w args ∧ laidMetH Tryz.prog seatLaid w) ∧ sizedMet enc Tryz.prog Tryz.f3 (OpenSpec.ofChange Rows.asmParsesSpec) false w args)
   (Rows.asmParsesSpec.post enc Tryz.prog Tryz.f3 false true false false) := by
 refine returnsInHanded_of_change_and (C := Tryz.checked) (X := fun w _ => laidMetH Tryz.prog seatLaid w) (fun _ _ _ hh h => h.of_heap hh) Tryz.own started Z3 Tryz.func3
  (ChangeSpec.witness_shaped (enc := enc) (C := Tryz.checked) (os := os) (X := fun w _ => laidMetH Tryz.prog seatLaid w) false (World.laidAll Tryz.prog os seatLaid) #[.string ByteArray.empty] 8 (World.laidAll_os _ _ _)
   (World.shaped_of_ZipB Z3 Z3) Z3 Z3 Z3
   (by rw [MakeChecks.laidMetH_plain _ _ _ Z3]; exact laidMet_laidAll _ Z3 Z3)) ?_
 intro W base args ds gs before hval0 hW _ _ hlaid _;have hval : ∀ (j : Nat) t v, Tryz.f3.params[j]? = some t → args[j]? = some v → Value.okWide Tryz.prog W .any base t v := hval0;have hW' := hW;obtain ⟨p, q, hA0, hV, rfl, hfz, hnd⟩ := hW;have hA : DataW.TrodAll enc Tryz.prog W 0 (fun _ => true) true Tryz.f3.params.toList args.toList ds p := hA0;rw [Tryz.params3] at hA hval;obtain ⟨v0, d0, rfl, rfl, h0⟩ := trodAll_one hA;obtain ⟨rfl, rfl⟩ := trodVars_none hV;obtain ⟨⟨⟨tx⟩⟩, k0, r0⟩ := arg_string Tryz.underlying9 (hval 0 9 v0 rfl rfl) Z3 (rep_str (n := 7) Tryz.underlying9) h0;have hcalls := calls_scG (G := 135000004004000) (args' := #[v0]) (sr_layG (St.empty 0).get W) (tab_glob (laid_tab hlaid)) (Z2d 0) (fun i h => absurd h (dom_layG W i)) (.cons (r0.mono lay_leG) .nil) ((lawParses_sc tx).up fun _ _ h => h.1);refine hcalls.mono fun e W' ⟨he, hw⟩ => ?_
 subst he;exact ⟨_, rfl, post_true (tb := 4) hW' rfl hw Tryz.laidOut Z3 Z3 Z3 rfl rfl rfl⟩
theorem asmParses_row_holds : Rows.AsmParsesSaid :=
 OpenClaim.holds_of_wide 3 Tryz.f3 rfl rfl rfl rfl rfl rfl rfl ⟨rfl, rfl, rfl, rfl, rfl⟩ rfl rfl rfl rfl rfl Z3 Tryz.func3 Z3
  (of_decide_eq_true Z3) (by unfold Func.isWrapper; first | (rw [if_pos (by decide +kernel)]; kernel_rfl) | (rw [if_neg (by decide +kernel)]; exact ⟨rfl, rfl⟩))
  (fun os started H enc _ => asmParses_lifted os started H enc)
theorem asmParses_wf : Rows.asmParsesRow.wfByText (OpenSpec.ofChange Rows.asmParsesSpec) = true := Z3
theorem asmParses_main : Tryz.pinned.checked.prog.mainIs = some (true, "60afdb943985fe89731bdf949f3eb6d80462def6b7232fe27b8bf4cd9c01b9e2".toList) := Z3
theorem asmParses_looks : true = Tryz.pinned.checked.prog.looks [] := Z3
theorem asmParses_goes : false = Rows.asmParsesRow.goesBy Tryz.pinned.checked.prog := Z3
theorem asmParses_named : Tryz.prog.funcNamed "sluiceway/sluicewaylaw07.AsmParses" = some 3 := Z3
theorem asmParses_stand : ([9].all fun u => !Tryz.prog.wantsStandIn u) = true := Z3
theorem asmParses_holds : Rows.AsmParsesCardSaid :=
 Claim7.holds_tied_plain_at .later [] [.data, .data, .data, .data, .sentinel, .sentinel, .pinned] true (true, "60afdb943985fe89731bdf949f3eb6d80462def6b7232fe27b8bf4cd9c01b9e2") true asmParses_row_holds (fun _ h => Z02) asmParses_wf (fun _ h => Z02) asmParses_row_tie rfl ⟨rfl, rfl⟩ asmParses_main rfl
  (fun f fn hf hfn => by
   obtain rfl : f = 3 := Option.some.inj (asmParses_named.symm.trans hf) |>.symm;obtain rfl : fn = Tryz.f3 := (Option.some.inj (Tryz.func3.symm.trans hfn)).symm;exact ⟨asmParses_looks, fun j t ht => by
    rw [Tryz.params3] at ht;have hm : t ∈ ([9] : List Nat) := by simpa using Array.mem_of_getElem? ht
    exact (show Tryz.prog.wantsStandIn t = false by simpa using List.all_eq_true.1 asmParses_stand t hm)⟩)
  asmParses_goes
#print axioms asmParses_holds
end Go.Proofs.YtgplkbfjlidinabGreatDoor