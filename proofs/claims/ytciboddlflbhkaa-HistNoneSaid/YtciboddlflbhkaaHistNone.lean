/- For every key and every number HistNone answers true and leaves its arguments as they were. No condition. -/
import Derived.Test.YtciboddlflbhkaaAiPost
import Derived.Test.YtciboddlflbhkaaRows
namespace Go.Proofs.Ytciboddlflbhkaa
open Go.ChangeShapes Go.WideShapes Go.ChangeAt Go.RowKit Go.Ai
noncomputable def Try.ft : T Func := T.ofList Try.prog.funcs.toList
noncomputable def Try.tt : T (Option Ty) := T.ofList ((List.range 204).map (tyRow Try.prog))
noncomputable def Try.pt : T (Option (List CK)) := T.ofList ((List.range 204).map (peqOf Try.prog 20))
noncomputable def Try.cfg : Cfg := cfgP Try.prog 0 Try.ft Try.tt Try.pt
theorem Try.cfgOk : CfgOk Try.prog Try.cfg (okK 0) := cfgP_ok 0 204 (by kernel_rfl)
set_option maxRecDepth 100000 in
theorem none_run (a b n : Int) : allTrue (run Try.cfg 300 (.call 6 [.agg #[.int .i64 a, .int .i64 b], .int .i64 n]) (St.empty 0)) = true := by kernel_rfl
set_option maxRecDepth 100000 in
theorem none_calls (a b n : Int) (W : World) : Calls Try.prog 6 #[.agg #[.int .i64 a, .int .i64 b], .int .i64 n] W fun e W' => e = .returned (.bool true) ∧ Below W.heap.size W W' :=
  calls_true Try.cfgOk (sr00 _ W) (wf_empty 0) (fun i h => absurd h (dom00 i)) (vrs_plain (l := [.agg #[.int .i64 a, .int .i64 b], .int .i64 n]) rfl) (allTrue_all (none_run a b n))
theorem Try.own : ownKnob Try.prog.godebug = none := by kernel_rfl
theorem Try.laidOut : laidOutB Try.prog = true := by kernel_rfl

set_option maxRecDepth 100000 in
theorem none_lifted (os : Os) (started : os.Started) (H : Type) (enc : TypeId × Value → H) :
    ReturnsInHanded {} Try.checked os 6 .any (Rows.histNoneSpec.pre6 enc Try.prog Try.f6 Rows.histNoneRow.domain false) (Rows.histNoneSpec.post enc Try.prog Try.f6 false true false false) := by
  refine returnsInHanded_of_change (C := Try.checked) Try.own started (by kernel_rfl) Try.func6
    (ChangeSpec.witness6 (enc := enc) (C := Try.checked) false ⟨#[], #[.agg #[.int .i64 0, .int .i64 0], .int .i64 0], []⟩ 8 (by kernel_rfl) (by kernel_rfl) (by kernel_rfl) (by kernel_rfl)) ?_
  intro W base args ds gs before hval0 hW hcnd _
  have hval : ∀ (j : Nat) t v, Try.f6.params[j]? = some t → args[j]? = some v → Value.okWide Try.prog W .any base t v := hval0
  have hW' := hW
  obtain ⟨p, q, hA0, hV, rfl, hfz, hnd⟩ := hW
  have hA : DataW.TrodAll enc Try.prog W 0 (fun _ => true) true Try.f6.params.toList args.toList ds p := hA0
  rw [Try.params6] at hA hval
  obtain ⟨v0, v1, d0, d1, p0, p1, rfl, rfl, rfl, h0, h1⟩ := trodAll_two hA
  obtain ⟨rfl, rfl⟩ := trodVars_none hV
  obtain ⟨n, rfl, rfl, rfl, _⟩ := open_int Try.underlying3 (hval 1 3 v1 rfl rfl) h1
  obtain ⟨cs, rfl, hsz⟩ := okWide_struct Try.underlying24 (hval 0 24 v0 rfl rfl)
  obtain ⟨fuel, hf⟩ := h0
  obtain ⟨a, b, rfl⟩ := open_ints2 Try.underlying24 Try.underlying3 rfl rfl rfl rfl (by kernel_rfl) (by kernel_rfl) hf
  refine (none_calls a b n W).mono fun e W' ⟨he, hw⟩ => ?_
  subst he
  exact ⟨_, rfl, post_true (tb := 4) hW' rfl hw Try.laidOut (by kernel_rfl) (by kernel_rfl) (by kernel_rfl) rfl rfl rfl⟩

theorem histNone_holds : Rows.HistNoneSaid :=
  OpenClaim.holds_of_wide 6 Try.f6 rfl rfl rfl rfl rfl rfl rfl ⟨rfl, rfl, rfl, rfl, rfl⟩ rfl rfl rfl rfl rfl (by kernel_rfl) Try.func6 (by kernel_rfl)
    (of_decide_eq_true (by kernel_rfl)) (by unfold Func.isWrapper; first | (rw [if_pos (by decide +kernel)]; kernel_rfl) | (rw [if_neg (by decide +kernel)]; exact ⟨rfl, rfl⟩))
    (fun os started H enc _ => none_lifted os started H enc)
end Go.Proofs.Ytciboddlflbhkaa
