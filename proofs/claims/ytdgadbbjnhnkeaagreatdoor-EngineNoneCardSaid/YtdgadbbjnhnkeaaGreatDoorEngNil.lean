/- What a nil engine answers. -/
import Derived.Test.YtdgadbbjnhnkeaaGreatDoorHallNil
import Derived.Test.YtdgadbbjnhnkeaaGreatDoorAiHit
set_option linter.unusedVariables false
set_option linter.unusedSimpArgs false
set_option linter.unnecessarySimpa false
namespace Go.Proofs.YtdgadbbjnhnkeaaGreatDoor
open Go.Ai
def icells (x : Int) : List Value := [.int .i64 x]
theorem esubmit_sc (fu : Int) (co : List Code)  : SC Tryz.prog 0 15 [.pointer none, .agg #[.int .i64 fu, inlL ccells 6 co]] (St.empty 0) fun v s' => v = .tuple #[.agg #[.int .i64 0, .int .i64 0], .iface 36 (.int .i64 11)] ∧ s'.n ≤ 400 := sc_valB Tryz.cfgOk 300 400 (by kernel_rfl)
noncomputable def con_esubmit : Con Tryz.prog 3 := Con.pureG (α := Int × (List Code)) 15 (fun z9 => [.pointer none, .agg #[.int .i64 z9.1, inlL ccells 6 z9.2]]) (fun z9 => .tuple #[.agg #[.int .i64 0, .int .i64 0], .iface 36 (.int .i64 11)]) (fun z9 => True) (by
  rintro ⟨a0, a1⟩ ⟨b0, b1⟩ h
  simp only [List.cons.injEq, and_true, Int.natCast_inj, UInt8.toNat_inj, Value.int.injEq, Value.bool.injEq, Value.string.injEq, Value.agg.injEq, Array.mk.injEq, true_and, ccells_iff] at h
  first | exact h | (simp only [Prod.ext_iff, h, and_self, and_true, true_and]; done) | simp_all [Prod.ext_iff]) (fun _ => rfl) (fun _ => rfl) 400 (by
  rintro ⟨a0, a1⟩ _
  exact esubmit_sc a0 a1 )
theorem con_esubmit_at (fu : Int) (co : List Code)  (s : St) : con_esubmit.rel [.pointer none, .agg #[.int .i64 fu, inlL ccells 6 co]] s (.tuple #[.agg #[.int .i64 0, .int .i64 0], .iface 36 (.int .i64 11)]) s := con_pureG (fu, co) trivial s
theorem eread_sc   : SC Tryz.prog 0 16 [.pointer none, .agg #[.int .i64 0, .int .i64 0]] (St.empty 0) fun v s' => v = .tuple #[.int .i64 0, .bool false, .iface 36 (.int .i64 11)] ∧ s'.n ≤ 400 := sc_valB Tryz.cfgOk 300 400 (by kernel_rfl)
noncomputable def con_eread : Con Tryz.prog 3 := Con.pureG (α := Unit) 16 (fun z9 => [.pointer none, .agg #[.int .i64 0, .int .i64 0]]) (fun z9 => .tuple #[.int .i64 0, .bool false, .iface 36 (.int .i64 11)]) (fun z9 => True) (by
  intro x y _; rfl) (fun _ => rfl) (fun _ => rfl) 400 (by
  intro x hp; exact eread_sc)
theorem con_eread_at   (s : St) : con_eread.rel [.pointer none, .agg #[.int .i64 0, .int .i64 0]] s (.tuple #[.int .i64 0, .bool false, .iface 36 (.int .i64 11)]) s := con_pureG () trivial s
theorem escan_sc (n : Int)  : SC Tryz.prog 0 17 [.pointer none, .agg #[.int .i64 0, .int .i64 0, .int .i64 0], .int .i64 n] (St.empty 0) fun v s' => v = .tuple #[.slice none 0 0, .iface 36 (.int .i64 11)] ∧ s'.n ≤ 400 := sc_valB Tryz.cfgOk 300 400 (by kernel_rfl)
noncomputable def con_escan : Con Tryz.prog 3 := Con.pureG (α := Int) 17 (fun z9 => [.pointer none, .agg #[.int .i64 0, .int .i64 0, .int .i64 0], .int .i64 z9]) (fun z9 => .tuple #[.slice none 0 0, .iface 36 (.int .i64 11)]) (fun z9 => True) (by
  intro x y h
  simp only [List.cons.injEq, and_true, Int.natCast_inj, UInt8.toNat_inj, Value.int.injEq, Value.bool.injEq, Value.string.injEq, Value.agg.injEq, Array.mk.injEq, true_and] at h
  first | exact h | (simp only [Prod.ext_iff, h, and_self, and_true, true_and]; done) | simp_all [Prod.ext_iff]) (fun _ => rfl) (fun _ => rfl) 400 (by
  rintro x _
  exact escan_sc x )
theorem con_escan_at (n : Int)  (s : St) : con_escan.rel [.pointer none, .agg #[.int .i64 0, .int .i64 0, .int .i64 0], .int .i64 n] s (.tuple #[.slice none 0 0, .iface 36 (.int .i64 11)]) s := con_pureG n trivial s
theorem estep_sc (n : Int)  : SC Tryz.prog 0 18 [.pointer none, .int .i64 n] (St.empty 0) fun v s' => v = .tuple #[.bool false, .iface 36 (.int .i64 11)] ∧ s'.n ≤ 400 := sc_valB Tryz.cfgOk 300 400 (by kernel_rfl)
noncomputable def con_estep : Con Tryz.prog 3 := Con.pureG (α := Int) 18 (fun z9 => [.pointer none, .int .i64 z9]) (fun z9 => .tuple #[.bool false, .iface 36 (.int .i64 11)]) (fun z9 => True) (by
  intro x y h
  simp only [List.cons.injEq, and_true, Int.natCast_inj, UInt8.toNat_inj, Value.int.injEq, Value.bool.injEq, Value.string.injEq, Value.agg.injEq, Array.mk.injEq, true_and] at h
  first | exact h | (simp only [Prod.ext_iff, h, and_self, and_true, true_and]; done) | simp_all [Prod.ext_iff]) (fun _ => rfl) (fun _ => rfl) 400 (by
  rintro x _
  exact estep_sc x )
theorem con_estep_at (n : Int)  (s : St) : con_estep.rel [.pointer none, .int .i64 n] s (.tuple #[.bool false, .iface 36 (.int .i64 11)]) s := con_pureG n trivial s
theorem etick_sc (n : Int)  : SC Tryz.prog 0 19 [.pointer none, .int .i64 n] (St.empty 0) fun v s' => v = .iface 36 (.int .i64 11) ∧ s'.n ≤ 400 := sc_valB Tryz.cfgOk 300 400 (by kernel_rfl)
noncomputable def con_etick : Con Tryz.prog 3 := Con.pureG (α := Int) 19 (fun z9 => [.pointer none, .int .i64 z9]) (fun z9 => .iface 36 (.int .i64 11)) (fun z9 => True) (by
  intro x y h
  simp only [List.cons.injEq, and_true, Int.natCast_inj, UInt8.toNat_inj, Value.int.injEq, Value.bool.injEq, Value.string.injEq, Value.agg.injEq, Array.mk.injEq, true_and] at h
  first | exact h | (simp only [Prod.ext_iff, h, and_self, and_true, true_and]; done) | simp_all [Prod.ext_iff]) (fun _ => rfl) (fun _ => rfl) 400 (by
  rintro x _
  exact etick_sc x )
theorem con_etick_at (n : Int)  (s : St) : con_etick.rel [.pointer none, .int .i64 n] s (.iface 36 (.int .i64 11)) s := con_pureG n trivial s
theorem esync_sc   : SC Tryz.prog 0 20 [.pointer none] (St.empty 0) fun v s' => v = .iface 36 (.int .i64 11) ∧ s'.n ≤ 400 := sc_valB Tryz.cfgOk 300 400 (by kernel_rfl)
noncomputable def con_esync : Con Tryz.prog 3 := Con.pureG (α := Unit) 20 (fun z9 => [.pointer none]) (fun z9 => .iface 36 (.int .i64 11)) (fun z9 => True) (by
  intro x y _; rfl) (fun _ => rfl) (fun _ => rfl) 400 (by
  intro x hp; exact esync_sc)
theorem con_esync_at   (s : St) : con_esync.rel [.pointer none] s (.iface 36 (.int .i64 11)) s := con_pureG () trivial s
theorem ebegin_sc   : SC Tryz.prog 0 21 [.pointer none] (St.empty 0) fun v s' => v = .iface 36 (.int .i64 11) ∧ s'.n ≤ 400 := sc_valB Tryz.cfgOk 300 400 (by kernel_rfl)
noncomputable def con_ebegin : Con Tryz.prog 3 := Con.pureG (α := Unit) 21 (fun z9 => [.pointer none]) (fun z9 => .iface 36 (.int .i64 11)) (fun z9 => True) (by
  intro x y _; rfl) (fun _ => rfl) (fun _ => rfl) 400 (by
  intro x hp; exact ebegin_sc)
theorem con_ebegin_at   (s : St) : con_ebegin.rel [.pointer none] s (.iface 36 (.int .i64 11)) s := con_pureG () trivial s
theorem eclose_sc   : SC Tryz.prog 0 22 [.pointer none] (St.empty 0) fun v s' => v = .iface 36 (.int .i64 11) ∧ s'.n ≤ 400 := sc_valB Tryz.cfgOk 300 400 (by kernel_rfl)
noncomputable def con_eclose : Con Tryz.prog 3 := Con.pureG (α := Unit) 22 (fun z9 => [.pointer none]) (fun z9 => .iface 36 (.int .i64 11)) (fun z9 => True) (by
  intro x y _; rfl) (fun _ => rfl) (fun _ => rfl) 400 (by
  intro x hp; exact eclose_sc)
theorem con_eclose_at   (s : St) : con_eclose.rel [.pointer none] s (.iface 36 (.int .i64 11)) s := con_pureG () trivial s
theorem estate_sc   : SC Tryz.prog 0 26 [.pointer none] (St.empty 0) fun v s' => v = .agg #[.int .i64 0, .int .i64 0, .int .i64 0, .int .i64 0, .bool false, .bool false, .slice none 0 0] ∧ s'.n ≤ 400 := sc_valB Tryz.cfgOk 300 400 (by kernel_rfl)
noncomputable def con_estate : Con Tryz.prog 3 := Con.pureG (α := Unit) 26 (fun z9 => [.pointer none]) (fun z9 => .agg #[.int .i64 0, .int .i64 0, .int .i64 0, .int .i64 0, .bool false, .bool false, .slice none 0 0]) (fun z9 => True) (by
  intro x y _; rfl) (fun _ => rfl) (fun _ => rfl) 400 (by
  intro x hp; exact estate_sc)
theorem con_estate_at   (s : St) : con_estate.rel [.pointer none] s (.agg #[.int .i64 0, .int .i64 0, .int .i64 0, .int .i64 0, .bool false, .bool false, .slice none 0 0]) s := con_pureG () trivial s
theorem etext_sc   : SC Tryz.prog 0 27 [.pointer none] (St.empty 0) fun v s' => v = .slice none 0 0 ∧ s'.n ≤ 400 := sc_valB Tryz.cfgOk 300 400 (by kernel_rfl)
noncomputable def con_etext : Con Tryz.prog 3 := Con.pureG (α := Unit) 27 (fun z9 => [.pointer none]) (fun z9 => .slice none 0 0) (fun z9 => True) (by
  intro x y _; rfl) (fun _ => rfl) (fun _ => rfl) 400 (by
  intro x hp; exact etext_sc)
theorem con_etext_at   (s : St) : con_etext.rel [.pointer none] s (.slice none 0 0) s := con_pureG () trivial s
theorem many0_sc   : SC Tryz.prog 0 59 [.pointer none] (St.empty 0) fun v s' => v = .int .i64 0 ∧ s'.n ≤ 400 := sc_valB Tryz.cfgOk 300 400 (by kernel_rfl)
noncomputable def con_many0 : Con Tryz.prog 3 := Con.pureG (α := Unit) 59 (fun z9 => [.pointer none]) (fun z9 => .int .i64 0) (fun z9 => True) (by
  intro x y _; rfl) (fun _ => rfl) (fun _ => rfl) 400 (by
  intro x hp; exact many0_sc)
theorem con_many0_at   (s : St) : con_many0.rel [.pointer none] s (.int .i64 0) s := con_pureG () trivial s
theorem isn3_sc (n : Int) (h0 : n = 1 ∨ n = 9 ∨ n = 11) : SC Tryz.prog 0 8 [.iface 36 (.int .i64 n), .int .i64 n] (St.empty 0) fun v s' => v = .bool true ∧ s'.n ≤ 400 := by
  rcases h0 with rfl | rfl | rfl
  · exact sc_valB Tryz.cfgOk 300 400 (by kernel_rfl)
  · exact sc_valB Tryz.cfgOk 300 400 (by kernel_rfl)
  · exact sc_valB Tryz.cfgOk 300 400 (by kernel_rfl)
noncomputable def con_isn3 : Con Tryz.prog 3 := Con.pureG (α := Int) 8 (fun z9 => [.iface 36 (.int .i64 z9), .int .i64 z9]) (fun z9 => .bool true) (fun z9 => (z9 = 1 ∨ z9 = 9 ∨ z9 = 11)) (by
  intro x y h
  simp only [List.cons.injEq, and_true, Int.natCast_inj, UInt8.toNat_inj, Value.int.injEq, Value.bool.injEq, Value.string.injEq, Value.agg.injEq, Array.mk.injEq, true_and] at h
  first | exact h | (simp only [Prod.ext_iff, h, and_self, and_true, true_and]; done) | simp_all [Prod.ext_iff]) (fun _ => rfl) (fun _ => rfl) 400 (by
  rintro x p0
  exact isn3_sc x p0)
theorem con_isn3_at (n : Int) (h0 : n = 1 ∨ n = 9 ∨ n = 11) (s : St) : con_isn3.rel [.iface 36 (.int .i64 n), .int .i64 n] s (.bool true) s := con_pureG n h0 s
theorem cgood_fn : Tryz.cfg.fn 31 = some Tryz.f31 := by kernel_rfl
set_option maxHeartbeats 4000000 in
set_option maxRecDepth 100000 in
theorem cgood_sc (b0 : Int) (b1 : Int) (b2 : Int) (b3 : Int) (pl : Int)  : SC Tryz.prog 0 31 [.agg #[.int .i64 b0, .int .i64 b1, .int .i64 b2, .int .i64 b3, .int .i64 pl]] (St.empty 0) fun v s' => v = .bool (decide (0 ≤ pl ∧ pl ≤ 2)) ∧ s'.n ≤ 400 := by
  have hS := sound_run Tryz.cfgOk 300
  refine sc_ice0 (N := 400) (v2 := .bool (decide (0 ≤ pl ∧ pl ≤ 2))) (Q := fun v s' => FS 0 s' v (.bool (decide (0 ≤ pl ∧ pl ≤ 2))) ∧ s'.n ≤ 400) ?_ (fun _ _ h => h)
  refine sc_body Tryz.cfgOk cgood_fn rfl ?_
  refine sk_seq ?_
  refine kK Tryz.cfgOk hS ?_
  refine sk_seq ?_
  refine sk_regionL Tryz.cfgOk hS ?_
  refine aK 2 ?_
  refine aT (fun h1 => ?_) (fun h1 => ?_)
  · have c2e : (decide ((pl : Int) ≥ 0)) = true := Eq.trans (by kernel_rfl) h1
    clear h1
    have c2 : (pl : Int) ≥ 0 := of_decide_eq_true c2e
    clear c2e
    refine aK 3 ?_
    refine aT (fun h3 => ?_) (fun h3 => ?_)
    · have c4e : (decide ((pl : Int) ≤ 2)) = true := Eq.trans (by kernel_rfl) h3
      clear h3
      have c4 : (pl : Int) ≤ 2 := of_decide_eq_true c4e
      clear c4e
      refine aN ?_
      refine sk_ret ?_
      exact ⟨[.bool true], by kernel_rfl, fs_to (fs_clo rfl) (congrArg Value.bool (by first | exact (decide_eq_true (by omega)).symm | exact (decide_eq_false (by omega)).symm)), Nat.le_of_ble_eq_true (by kernel_rfl)⟩
    · have c4e : (decide ((pl : Int) ≤ 2)) = false := Eq.trans (by kernel_rfl) h3
      clear h3
      have c4 : ¬ (pl : Int) ≤ 2 := of_decide_eq_false c4e
      clear c4e
      refine aN ?_
      refine sk_ret ?_
      exact ⟨[.bool false], by kernel_rfl, fs_to (fs_clo rfl) (congrArg Value.bool (by first | exact (decide_eq_true (by omega)).symm | exact (decide_eq_false (by omega)).symm)), Nat.le_of_ble_eq_true (by kernel_rfl)⟩
  · have c2e : (decide ((pl : Int) ≥ 0)) = false := Eq.trans (by kernel_rfl) h1
    clear h1
    have c2 : ¬ (pl : Int) ≥ 0 := of_decide_eq_false c2e
    clear c2e
    refine aN ?_
    refine sk_ret ?_
    exact ⟨[.bool false], by kernel_rfl, fs_to (fs_clo rfl) (congrArg Value.bool (by first | exact (decide_eq_true (by omega)).symm | exact (decide_eq_false (by omega)).symm)), Nat.le_of_ble_eq_true (by kernel_rfl)⟩
noncomputable def con_cgood : Con Tryz.prog 3 := Con.pureG (α := Int × Int × Int × Int × Int) 31 (fun z9 => [.agg #[.int .i64 z9.1, .int .i64 z9.2.1, .int .i64 z9.2.2.1, .int .i64 z9.2.2.2.1, .int .i64 z9.2.2.2.2]]) (fun z9 => .bool (decide (0 ≤ z9.2.2.2.2 ∧ z9.2.2.2.2 ≤ 2))) (fun z9 => True) (by
  rintro ⟨a0, a1, a2, a3, a4⟩ ⟨b0, b1, b2, b3, b4⟩ h
  simp only [List.cons.injEq, and_true, Int.natCast_inj, UInt8.toNat_inj, Value.int.injEq, Value.bool.injEq, Value.string.injEq, Value.agg.injEq, Array.mk.injEq, true_and] at h
  first | exact h | (simp only [Prod.ext_iff, h, and_self, and_true, true_and]; done) | simp_all [Prod.ext_iff]) (fun _ => rfl) (fun _ => rfl) 400 (by
  rintro ⟨a0, a1, a2, a3, a4⟩ _
  exact cgood_sc a0 a1 a2 a3 a4 )
theorem con_cgood_at (b0 : Int) (b1 : Int) (b2 : Int) (b3 : Int) (pl : Int)  (s : St) : con_cgood.rel [.agg #[.int .i64 b0, .int .i64 b1, .int .i64 b2, .int .i64 b3, .int .i64 pl]] s (.bool (decide (0 ≤ pl ∧ pl ≤ 2))) s := con_pureG (b0, b1, b2, b3, pl) trivial s
end Go.Proofs.YtdgadbbjnhnkeaaGreatDoor