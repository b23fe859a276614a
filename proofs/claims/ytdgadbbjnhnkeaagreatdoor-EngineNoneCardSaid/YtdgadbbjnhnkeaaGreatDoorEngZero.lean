/- Open and Format of no devices. -/
import Derived.Test.YtdgadbbjnhnkeaaGreatDoorEngNil
set_option linter.unusedVariables false
set_option linter.unusedSimpArgs false
set_option linter.unnecessarySimpa false
namespace Go.Proofs.YtdgadbbjnhnkeaaGreatDoor
open Go.Ai
def var3B (v : Value) (N : Nat) : M (Res × St) → Bool
  | .ret (.val u, s) => eqVn 3 u v && (Nat.ble s.n N && (isErr 532 (s.get 0) && (isErr 532 (s.get 1) && isErr 532 (s.get 2))))
  | _ => false
theorem sc_var3 {f : FuncId} {args : List Value} {v : Value} (n N : Nat) (h : var3B v N (run Tryz3.cfg n (.call f args) (glob3 532)) = true) : SC Tryz.prog 3 f args (glob3 532) fun v0 s' => v0 = v ∧ s'.n ≤ N ∧ ∀ i, i < 3 → s'.get i = (glob3 532).get i := by
  refine sc_rec (sound_run Tryz3.cfgOk n) ?_
  unfold var3B at h
  split at h
  · rename_i u s e
    simp only [Bool.and_eq_true] at h
    obtain ⟨h0, h1, h2, h3, h4⟩ := h
    rw [e]
    exact ⟨u, rfl, eqVn_eq 3 h0, Nat.le_of_ble_eq_true h1, get3 (isErr_eq h2) (isErr_eq h3) (isErr_eq h4)⟩
  · cases h
abbrev Cf := Int × Int × Int × Int × Int × Int
noncomputable def con_open0 : Con Tryz.prog 3 := Con.pure3 (α := Cf) 532 23 (fun z => [.pointer none, .agg #[.int .i64 z.1, .int .i64 z.2.1, .int .i64 z.2.2.1, .int .i64 z.2.2.2.1, .int .i64 z.2.2.2.2.1, .int .i64 z.2.2.2.2.2], .slice none 0 0]) (fun _ => .tuple #[.pointer none, .iface 36 (.int .i64 1)])
  (by
    rintro ⟨a0, a1, a2, a3, a4, a5⟩ ⟨b0, b1, b2, b3, b4, b5⟩ h
    simp only [List.cons.injEq, and_true, Value.int.injEq, Value.agg.injEq, Array.mk.injEq, true_and] at h
    simp_all) (fun _ => rfl) (fun _ => rfl) 400 (fun z => sc_var3 300 400 (by kernel_rfl))
theorem con_open0_at (b0 b1 b2 b3 pl wk : Int) (s : St) (h0 : s.get 0 = some (.arr (errCell 532) 0 true)) (h1 : s.get 1 = some (.arr (errCell 532) 0 true)) (h2 : s.get 2 = some (.arr (errCell 532) 0 true)) (hn : Nat.ble 3 s.n = true) : con_open0.rel [.pointer none, .agg #[.int .i64 b0, .int .i64 b1, .int .i64 b2, .int .i64 b3, .int .i64 pl, .int .i64 wk], .slice none 0 0] s (.tuple #[.pointer none, .iface 36 (.int .i64 1)]) s :=
  ⟨rfl, ⟨Nat.le_of_ble_eq_true hn, get3 h0 h1 h2⟩, (b0, b1, b2, b3, pl, wk), rfl, rfl⟩
theorem eformat_fn : Tryz3.cfg.fn 25 = some Tryz.f25 := by kernel_rfl
set_option maxHeartbeats 4000000 in
set_option maxRecDepth 100000 in
theorem eformat_sc (n : Int)  : SC Tryz.prog 3 25 [.pointer none, .int .i64 n] ((((St.empty 0).new (.arr (errCell 532) 0 true)).new (.arr (errCell 532) 0 true)).new (.arr (errCell 532) 0 true)) fun v s' => v = .iface 36 (.int .i64 1) ∧ s'.n ≤ 400 ∧ ∀ i, i < 3 → s'.get i = (glob3 532).get i := by
  obtain ⟨rc, hS, hC, hR⟩ := rc_con2 (sound_run Tryz3.cfgOk 300) [con_many0] (by kernel_rfl)
  have hC59 := hC con_many0 (.head _)
  refine sc_body Tryz3.cfgOk eformat_fn rfl ?_
  refine sk_st ((((St.empty 0).new (.arr (errCell 532) 0 true)).new (.arr (errCell 532) 0 true)).new (.arr (errCell 532) 0 true)) rfl ?_
  refine sk_seq ?_
  refine kK Tryz3.cfgOk hS ?_
  refine sk_seq (sk_seq ?_)
  refine sk_regionL Tryz3.cfgOk hS ?_
  refine aK 1 ?_
  refine aT (fun h1 => ?_) (fun h1 => ?_)
  · have c2e : (decide ((n : Int) < 1)) = true := Eq.trans (by kernel_rfl) h1
    clear h1
    have c2 : (n : Int) < 1 := of_decide_eq_true c2e
    clear c2e
    refine aN ?_
    refine kT ?_
    refine sk_seq ?_
    refine kK Tryz3.cfgOk hS ?_
    refine sk_ret ?_
    exact ⟨[.iface 36 (.int .i64 1)], by kernel_rfl, rfl, Nat.le_of_ble_eq_true (by kernel_rfl), get_all (by kernel_rfl)⟩
  · have c2e : (decide ((n : Int) < 1)) = false := Eq.trans (by kernel_rfl) h1
    clear h1
    have c2 : ¬ (n : Int) < 1 := of_decide_eq_false c2e
    clear c2e
    refine aK 2 ?_
    refine aT (fun h3 => ?_) (fun h3 => ?_)
    · have c4e : (decide ((n : Int) > 4)) = true := Eq.trans (by kernel_rfl) h3
      clear h3
      have c4 : (n : Int) > 4 := of_decide_eq_true c4e
      clear c4e
      refine aN ?_
      refine kT ?_
      refine sk_seq ?_
      refine kK Tryz3.cfgOk hS ?_
      refine sk_ret ?_
      exact ⟨[.iface 36 (.int .i64 1)], by kernel_rfl, rfl, Nat.le_of_ble_eq_true (by kernel_rfl), get_all (by kernel_rfl)⟩
    · have c4e : (decide ((n : Int) > 4)) = false := Eq.trans (by kernel_rfl) h3
      clear h3
      have c4 : ¬ (n : Int) > 4 := of_decide_eq_false c4e
      clear c4e
      refine aK 3 ?_
      refine aC 59 [.pointer none] (.int .i64 0) _ rfl (hC59 _ _ _ _ (con_many0_at   _)) ?_
      refine aK 1 ?_
      refine aT (fun h5 => ?_) (fun h5 => ?_)
      · have c6e : (decide ((0 : Int) ≤ n)) = true := Eq.trans (by kernel_rfl) h5
        clear h5
        have c6 : (0 : Int) ≤ n := of_decide_eq_true c6e
        clear c6e
        refine aN ?_
        refine kT ?_
        refine sk_seq ?_
        refine kK Tryz3.cfgOk hS ?_
        refine sk_ret ?_
        exact ⟨[.iface 36 (.int .i64 1)], by kernel_rfl, rfl, Nat.le_of_ble_eq_true (by kernel_rfl), get_all (by kernel_rfl)⟩
      · have c6e : (decide ((0 : Int) ≤ n)) = false := Eq.trans (by kernel_rfl) h5
        clear h5
        have c6 : ¬ (0 : Int) ≤ n := of_decide_eq_false c6e
        clear c6e
        omega
noncomputable def con_format : Con Tryz.prog 3 := Con.pure3 (α := Int) 532 25 (fun z => [.pointer none, .int .i64 z]) (fun _ => .iface 36 (.int .i64 1)) (by
    intro x y h
    simpa using h) (fun _ => rfl) (fun _ => rfl) 400 (fun z => eformat_sc z)
theorem con_format_at (n : Int) (s : St) (h0 : s.get 0 = some (.arr (errCell 532) 0 true)) (h1 : s.get 1 = some (.arr (errCell 532) 0 true)) (h2 : s.get 2 = some (.arr (errCell 532) 0 true)) (hn : Nat.ble 3 s.n = true) : con_format.rel [.pointer none, .int .i64 n] s (.iface 36 (.int .i64 1)) s :=
  ⟨rfl, ⟨Nat.le_of_ble_eq_true hn, get3 h0 h1 h2⟩, n, rfl, rfl⟩
end Go.Proofs.YtdgadbbjnhnkeaaGreatDoor