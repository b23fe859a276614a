/- For every number and all bytes StreamNone answers true and leaves its arguments as they were. No condition. -/
import Derived.Test.YtfcfphkcoongdaaLaw
namespace Go.Proofs.Ytfcfphkcoongdaa
open Go.ChangeShapes Go.WideShapes Go.ChangeAt Go.RowKit Go.Ai
theorem Try.own : ownKnob Try.prog.godebug = none := by kernel_rfl
theorem Try.laidOut : laidOutB Try.prog = true := by kernel_rfl
theorem c5_ : Try.prog.cellsOf 5 = 1 := by kernel_rfl
theorem slice_of_wide {P : Program} {w : World} {r : Reach} {base : Nat} {t e : TypeId} {v : Value} (ht : P.underlying t = some (.slice e)) (h : Value.okWide P w r base t v) :
    v.cells.toList = [v] ∧ (0 < w.heap.size ∨ ∀ u ∈ [v], ∀ a l c, u ≠ .slice (some a) l c) := by
  have hc : Cell.okWide P w r base t v := by
    unfold Value.okWide at h
    rw [ht] at h
    exact h
  refine ⟨?_, ?_⟩
  · cases v <;> first
      | rfl
      | (unfold Cell.okWide Cell.ok at hc; rw [ht] at hc; exact hc.elim)
  · by_cases hp : 0 < w.heap.size
    · exact .inl hp
    · refine .inr ?_
      rintro u hu a l c rfl
      obtain rfl := List.mem_singleton.1 hu
      exact hp (pos_of_cell hc)
set_option maxRecDepth 100000 in
theorem streamNone_lifted (os : Os) (started : os.Started) (H : Type) (enc : TypeId × Value → H) :
    ReturnsInHanded {} Try.checked os 3 .any (Rows.streamNoneSpec.pre6 enc Try.prog Try.f3 Rows.streamNoneRow.domain false) (Rows.streamNoneSpec.post enc Try.prog Try.f3 false true false false) := by
  refine returnsInHanded_of_change (C := Try.checked) Try.own started (by kernel_rfl) Try.func3
    (ChangeSpec.witness6 (enc := enc) (C := Try.checked) false ⟨#[], #[.int .i64 0, .slice none 0 0], []⟩ 8 (by kernel_rfl) (by kernel_rfl) (by kernel_rfl) (by kernel_rfl)) ?_
  intro W base args ds gs before hval0 hW hcnd _
  have hval : ∀ (j : Nat) t v, Try.f3.params[j]? = some t → args[j]? = some v → Value.okWide Try.prog W .any base t v := hval0
  have hW' := hW
  obtain ⟨p, q, hA0, hV, rfl, hfz, hnd⟩ := hW
  have hA : DataW.TrodAll enc Try.prog W 0 (fun _ => true) true Try.f3.params.toList args.toList ds p := hA0
  rw [Try.params3] at hA hval
  obtain ⟨v0, v1, d0, d1, p0, p1, rfl, rfl, rfl, h0, h1⟩ := trodAll_two hA
  obtain ⟨rfl, rfl⟩ := trodVars_none hV
  obtain ⟨n0, rfl, rfl, rfl, hwf⟩ := open_int Try.underlying3 (hval 0 3 v0 rfl rfl) h0
  obtain ⟨hcells, hpos⟩ := slice_of_wide Try.underlying22 (hval 1 22 v1 rfl rfl)
  obtain ⟨fuel, hf⟩ := h1
  rw [hcells] at hf
  have hb : -9223372036854775808 ≤ n0 ∧ n0 < 9223372036854775808 := by
    simp [Lit.wf, IntKind.min, IntKind.max, IntKind.signed, IntKind.bits] at hwf
    omega
  obtain ⟨β1, a, n, z, r, m, w1, hv, _, l, pl, _, sl⟩ := lay_flat (n := 5) Try.underlying22 (by rw [c5_]; omega) (by kernel_rfl) hf hpos β00 _ (sr00 _ W) (wf_empty 0) (fun i h => absurd h (dom00 i))
  rw [c5_] at l sl
  have hcalls := calls_sc (args' := #[.int .i64 n0, v1]) w1.sr w1.wf w1.shut (.cons (.int _ _) hv) (law_sc n0 a n z m r hb.1 hb.2 sl l pl)
  refine hcalls.mono fun e W' ⟨he, hw⟩ => ?_
  subst he
  exact ⟨_, rfl, post_true (tb := 4) hW' rfl hw Try.laidOut (by kernel_rfl) (by kernel_rfl) (by kernel_rfl) rfl rfl rfl⟩

theorem streamNone_holds : Rows.StreamNoneSaid :=
  OpenClaim.holds_of_wide 3 Try.f3 rfl rfl rfl rfl rfl rfl rfl ⟨rfl, rfl, rfl, rfl, rfl⟩ rfl rfl rfl rfl rfl (by kernel_rfl) Try.func3 (by kernel_rfl)
    (of_decide_eq_true (by kernel_rfl)) (by unfold Func.isWrapper; first | (rw [if_pos (by decide +kernel)]; kernel_rfl) | (rw [if_neg (by decide +kernel)]; exact ⟨rfl, rfl⟩))
    (fun os started H enc _ => streamNone_lifted os started H enc)
end Go.Proofs.Ytfcfphkcoongdaa
