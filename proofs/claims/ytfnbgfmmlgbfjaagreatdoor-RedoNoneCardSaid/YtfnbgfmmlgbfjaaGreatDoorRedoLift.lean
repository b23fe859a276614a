/- RedoNone at whatever input. -/
import Derived.Test.YtfnbgfmmlgbfjaaGreatDoorRead
import Derived.OpenShut
import Derived.LaidMore
import Derived.Lay
import Derived.SevenTiedAt
import Derived.Stop.Joined
namespace Go.Proofs.YtfnbgfmmlgbfjaaGreatDoor
open Go.ChangeShapes Go.WideShapes Go.ChangeAt Go.RowKit Go.Ai
theorem slice_of_wide {P : Program} {w : World} {r : Reach} {base : Nat} {t e : TypeId} {v : Value} (ht : P.underlying t = some (.slice e)) (h : Value.okWide P w r base t v) :
    v.cells.toList = [v] ∧ (0 < w.heap.size ∨ ∀ u ∈ [v], ∀ a l c, u ≠ .slice (some a) l c) := by
  have hc : Cell.okWide P w r base t v := by
    unfold Value.okWide at h
    rw [ht] at h
    exact h
  refine ⟨?_, ?_⟩
  · cases v <;> first
      | rfl
      | (unfold Cell.okWide Cell.ok at hc; rw [ht] at hc; exact hc.elim)
  · by_cases hp : 0 < w.heap.size
    · exact .inl hp
    · refine .inr ?_
      rintro u hu a l c rfl
      obtain rfl := List.mem_singleton.1 hu
      exact hp (pos_of_cell hc)
abbrev redoLaid : List (String × DataW Unit) := [("sluiceway/exec.errAbort", Rows.laid_sluiceway_exec_errAbort), ("sluiceway/exec.errFuel", Rows.laid_sluiceway_exec_errFuel)]
set_option maxRecDepth 100000 in
theorem redoNone_lifted (os : Os) (started : os.Started) (H : Type) (enc : TypeId × Value → H) :
    ReturnsInHanded {} Tryz.checked os 3 .any (fun w args => (Rows.redoNoneSpec.pre enc Tryz.prog Tryz.f3 Rows.redoNoneRow.domain false w args ∧ laidMetH Tryz.prog redoLaid w) ∧ sizedMet enc Tryz.prog Tryz.f3 (OpenSpec.ofChange Rows.redoNoneSpec) false w args)
      (Rows.redoNoneSpec.post enc Tryz.prog Tryz.f3 false true false false) := by
  refine returnsInHanded_of_change_and (C := Tryz.checked) (X := fun w _ => laidMetH Tryz.prog redoLaid w) (fun _ _ _ hh h => h.of_heap hh) Tryz.own started (by kernel_rfl) Tryz.func3
    (ChangeSpec.witness_shaped (enc := enc) (C := Tryz.checked) (os := os) (X := fun w _ => laidMetH Tryz.prog redoLaid w) false (World.laidAll Tryz.prog os redoLaid) #[.slice none 0 0, .int .i64 0] 8 (World.laidAll_os _ _ _)
      (World.shaped_of_ZipB (by kernel_rfl) (by kernel_rfl)) (by kernel_rfl) (by kernel_rfl) (by kernel_rfl)
      (by rw [MakeChecks.laidMetH_plain _ _ _ (by kernel_rfl)]; exact laidMet_laidAll _ (by kernel_rfl) (by kernel_rfl))) ?_
  intro W base args ds gs before hval0 hW _ _ _ _
  have hval : ∀ (j : Nat) t v, Tryz.f3.params[j]? = some t → args[j]? = some v → Value.okWide Tryz.prog W .any base t v := hval0
  have hW' := hW
  obtain ⟨p, q, hA0, hV, rfl, hfz, hnd⟩ := hW
  have hA : DataW.TrodAll enc Tryz.prog W 0 (fun _ => true) true Tryz.f3.params.toList args.toList ds p := hA0
  rw [Tryz.params3] at hA hval
  obtain ⟨v0, v1, d0, d1, p0, p1, rfl, rfl, rfl, h0, h1⟩ := trodAll_two hA
  obtain ⟨rfl, rfl⟩ := trodVars_none hV
  obtain ⟨n, rfl, rfl, rfl, _⟩ := open_int Tryz.underlying3 (hval 1 3 v1 rfl rfl) h1
  obtain ⟨hcells, hpos⟩ := slice_of_wide Tryz.underlying22 (hval 0 22 v0 rfl rfl)
  obtain ⟨fuel, hf⟩ := h0
  rw [hcells] at hf
  obtain ⟨β1, s1, cs0, w1, hv, hfit⟩ := lay (P := Tryz.prog) 7 22 (by kernel_rfl) fuel [v0] _ hf hpos β00 (St.empty 0) (sr00 _ W) (wf_empty 0) (fun i h => absurd h (dom00 i))
  obtain ⟨lv, rs, rfl, hl⟩ := lslot_of (n := 2) Tryz.underlying22 hfit
  have hcalls := calls_sc (args' := #[v0, .int .i64 n]) w1.sr w1.wf w1.shut (by cases hv with | cons hv _ => exact .cons hv (.cons (.int _ _) .nil)) (law_sc w1.wf (w1.rowed Rowed.empty) hl n)
  refine hcalls.mono fun e W' ⟨he, hw⟩ => ?_
  subst he
  exact ⟨_, rfl, post_true (tb := 4) hW' rfl hw Tryz.laidOut (by kernel_rfl) (by kernel_rfl) (by kernel_rfl) rfl rfl rfl⟩
end Go.Proofs.YtfnbgfmmlgbfjaaGreatDoor
