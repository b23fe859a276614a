/- What a nil hall answers. -/
import Derived.Test.YtdgadbbjnhnkeaaGreatDoorBase
import Derived.Test.YtdgadbbjnhnkeaaGreatDoorAiHit
import Derived.Test.YtdgadbbjnhnkeaaGreatDoorAiComp
set_option linter.unusedVariables false
set_option linter.unusedSimpArgs false
set_option linter.unnecessarySimpa false
namespace Go.Proofs.YtdgadbbjnhnkeaaGreatDoor
open Go.Ai
/-- instructions -/
abbrev Code := Int × Int × Int × Int × Int × Int
def ccells (x : Code) : List Value := [.int .i64 x.1, .int .i64 x.2.1, .int .i64 x.2.2.1, .int .i64 x.2.2.2.1, .int .i64 x.2.2.2.2.1, .int .i64 x.2.2.2.2.2]
theorem ccells_len (x : Code) : (ccells x).length = 6 := rfl
theorem ccells_iff {a b : List (Code)} : inlL ccells 6 a = inlL ccells 6 b ↔ a = b :=
  ⟨inlL_inj ccells_len fun x y h => by simp only [ccells, List.cons.injEq, Value.int.injEq, true_and, and_true] at h; exact Prod.ext h.1 (Prod.ext h.2.1 (Prod.ext h.2.2.1 (Prod.ext h.2.2.2.1 (Prod.ext h.2.2.2.2.1 (h.2.2.2.2.2))))), fun h => by rw [h]⟩
theorem hcrash_fn : Tryz.cfg.fn 6 = some Tryz.f6 := by kernel_rfl
set_option maxHeartbeats 4000000 in
set_option maxRecDepth 100000 in
theorem hcrash_sc   : SC Tryz.prog 0 6 [.pointer none, .slice (some ⟨0, 0, some 3⟩) 1 3] ((St.empty 0).new (.arr [.int .i64 0, .int .i64 0, .int .i64 0] 0 false)) fun v s' => v = .tuple #[] ∧ s'.n ≤ 400 ∧ ∀ a, a < 1 → s'.get a = some (objL [.arr [.int .i64 0, .int .i64 0, .int .i64 0] 0 false] a) := by
  have hS := sound_run Tryz.cfgOk 300
  refine sc_body Tryz.cfgOk hcrash_fn rfl ?_
  refine sk_seq ?_
  refine kK Tryz.cfgOk hS ?_
  refine kF ?_
  refine sk_skip ?_
  exact ⟨[], by kernel_rfl, rfl, Nat.le_of_ble_eq_true (by kernel_rfl), all1 (by kernel_rfl)⟩
noncomputable def sm_hcrash : Small Tryz.prog 0 6 (Unit) where
  k := 1
  A := fun z9 ρ => [.pointer none, .slice (some ⟨(ρ 0), 0, some 3⟩) 1 3]
  M := fun z9 ρ => objL [.arr [.int .i64 0, .int .i64 0, .int .i64 0] 0 false]
  M1 := fun z9 ρ => objL [.arr [.int .i64 0, .int .i64 0, .int .i64 0] 0 false]
  V := fun z9 ρ => .tuple #[]
  Pre := fun z9 => True
  ch := []
  N := 400
  s0 := fun z9 => ((St.empty 0).new (.arr [.int .i64 0, .int .i64 0, .int .i64 0] 0 false))
  hch := by decide
  hsame := fun x ρ => all1 (fun _ => rfl)
  hG := rfl
  hn := fun x => rfl
  hwf := fun x => ((wf_empty 0).new _)
  hget := fun x => all1 (by kernel_rfl)
  noloop := fun x ρ => all1 (fun h => h.elim)
  inA := fun x ρ R hR => .cons (sub_clo rfl) (.cons (.slice (hR 0 _ (by decide))) .nil)
  inM := fun x ρ R hR => all1 (OSub.arr (.cons (sub_clo rfl) (.cons (sub_clo rfl) (.cons (sub_clo rfl) .nil))))
  outM := fun x ρ R hR => all1 (OSub.arr (.cons (sub_clo rfl) (.cons (sub_clo rfl) (.cons (sub_clo rfl) .nil))))
  outV := fun x ρ R hR => .tuple .nil
  dom := by
    intro x ρ a ha
    cases ha
  sc := by
    rintro x _
    exact hcrash_sc  
  det := by
    rintro x ρ y σ s h hm hm'
    simp only [List.cons.injEq, and_true, Int.natCast_inj, UInt8.toNat_inj, Value.int.injEq, Value.bool.injEq, Value.string.injEq, Value.agg.injEq, Array.mk.injEq, true_and, Value.pointer.injEq, Option.some.injEq, Addr.mk.injEq, Value.func.injEq, AObj.cells.injEq, AObj.arr.injEq, slL_iff] at h
    have q0 : ρ 0 = σ 0 := by simp_all
    have e0 := (hm 0 (by decide)).symm.trans ((congrArg s.get q0).trans (hm' 0 (by decide)))
    simp only [objL, List.getD_cons_zero, List.getD_cons_succ, List.cons.injEq, and_true, Int.natCast_inj, UInt8.toNat_inj, Value.int.injEq, Value.bool.injEq, Value.string.injEq, Value.agg.injEq, Array.mk.injEq, true_and, Value.pointer.injEq, Option.some.injEq, Addr.mk.injEq, Value.func.injEq, AObj.cells.injEq, AObj.arr.injEq, slL_iff] at e0
    have q : ∀ a, a < 1 → ρ a = σ a := all1 q0
    clear hm hm'
    exact ⟨by first | rfl | (simp_all [Prod.ext_iff]; done) | exact e0, q⟩
  par := by
    intro x ρ σ h
    have h0 := h 0 (by decide)
    exact ⟨by first | rfl | simp only [h0], by first | exact fun _ _ => rfl | (intro a ha; simp only [h0])⟩
noncomputable def con_hcrash : Con Tryz.prog 3 := sm_hcrash.conG
theorem con_hcrash_at  (i0 : Nat)  (s : St) (hn : nodupB [i0] = true) (m0 : s.get i0 = some (.arr [.int .i64 0, .int .i64 0, .int .i64 0] 0 false)) : con_hcrash.rel [.pointer none, .slice (some ⟨i0, 0, some 3⟩) 1 3] s (.tuple #[]) s :=
  sm_hcrash.at_ () [i0] s _ trivial rfl hn rfl (all1 m0) rfl rfl
theorem hrun_fn : Tryz.cfg.fn 7 = some Tryz.f7 := by kernel_rfl
set_option maxHeartbeats 4000000 in
set_option maxRecDepth 100000 in
theorem hrun_sc (fu : Int) (co : List Code)  : SC Tryz.prog 0 7 [.pointer none, .slice (some ⟨0, 0, some 2⟩) 1 2] ((St.empty 0).new (.arr [.int .i64 fu, inlL ccells 6 co] 0 false)) fun v s' => v = .tuple #[.slice none 0 0, .iface 36 (.int .i64 11)] ∧ s'.n ≤ 400 ∧ ∀ a, a < 1 → s'.get a = some (objL [.arr [.int .i64 fu, inlL ccells 6 co] 0 false] a) := by
  have hS := sound_run Tryz.cfgOk 300
  refine sc_body Tryz.cfgOk hrun_fn rfl ?_
  refine sk_seq ?_
  refine kK Tryz.cfgOk hS ?_
  refine sk_seq (sk_seq ?_)
  refine kK Tryz.cfgOk hS ?_
  refine kT ?_
  refine sk_seq ?_
  refine kK Tryz.cfgOk hS ?_
  refine sk_ret ?_
  exact ⟨[.slice none 0 0, .iface 36 (.int .i64 11)], by kernel_rfl, rfl, Nat.le_of_ble_eq_true (by kernel_rfl), all1 (by kernel_rfl)⟩
noncomputable def sm_hrun : Small Tryz.prog 0 7 (Int × (List Code)) where
  k := 1
  A := fun z9 ρ => [.pointer none, .slice (some ⟨(ρ 0), 0, some 2⟩) 1 2]
  M := fun z9 ρ => objL [.arr [.int .i64 z9.1, inlL ccells 6 z9.2] 0 false]
  M1 := fun z9 ρ => objL [.arr [.int .i64 z9.1, inlL ccells 6 z9.2] 0 false]
  V := fun z9 ρ => .tuple #[.slice none 0 0, .iface 36 (.int .i64 11)]
  Pre := fun z9 => True
  ch := []
  N := 400
  s0 := fun z9 => ((St.empty 0).new (.arr [.int .i64 z9.1, inlL ccells 6 z9.2] 0 false))
  hch := by decide
  hsame := fun x ρ => all1 (fun _ => rfl)
  hG := rfl
  hn := fun x => rfl
  hwf := fun x => ((wf_empty 0).new _)
  hget := fun x => all1 (by kernel_rfl)
  noloop := fun x ρ => all1 (fun h => h.elim)
  inA := fun x ρ R hR => .cons (sub_clo rfl) (.cons (.slice (hR 0 _ (by decide))) .nil)
  inM := fun x ρ R hR => all1 (OSub.arr (.cons (sub_clo rfl) (.cons (sub_clo rfl) .nil)))
  outM := fun x ρ R hR => all1 (OSub.arr (.cons (sub_clo rfl) (.cons (sub_clo rfl) .nil)))
  outV := fun x ρ R hR => .tuple (.cons (sub_clo rfl) (.cons (.iface (sub_clo rfl)) .nil))
  dom := by
    intro x ρ a ha
    cases ha
  sc := by
    rintro ⟨a0, a1⟩ _
    exact hrun_sc a0 a1 
  det := by
    rintro ⟨a0, a1⟩ ρ ⟨b0, b1⟩ σ s h hm hm'
    simp only [List.cons.injEq, and_true, Int.natCast_inj, UInt8.toNat_inj, Value.int.injEq, Value.bool.injEq, Value.string.injEq, Value.agg.injEq, Array.mk.injEq, true_and, Value.pointer.injEq, Option.some.injEq, Addr.mk.injEq, Value.func.injEq, AObj.cells.injEq, AObj.arr.injEq, slL_iff, ccells_iff] at h
    have q0 : ρ 0 = σ 0 := by simp_all
    have e0 := (hm 0 (by decide)).symm.trans ((congrArg s.get q0).trans (hm' 0 (by decide)))
    simp only [objL, List.getD_cons_zero, List.getD_cons_succ, List.cons.injEq, and_true, Int.natCast_inj, UInt8.toNat_inj, Value.int.injEq, Value.bool.injEq, Value.string.injEq, Value.agg.injEq, Array.mk.injEq, true_and, Value.pointer.injEq, Option.some.injEq, Addr.mk.injEq, Value.func.injEq, AObj.cells.injEq, AObj.arr.injEq, slL_iff, ccells_iff] at e0
    have q : ∀ a, a < 1 → ρ a = σ a := all1 q0
    clear hm hm'
    exact ⟨by first | rfl | (simp_all [Prod.ext_iff]; done) | exact e0, q⟩
  par := by
    intro x ρ σ h
    have h0 := h 0 (by decide)
    exact ⟨by first | rfl | simp only [h0], by first | exact fun _ _ => rfl | (intro a ha; simp only [h0])⟩
noncomputable def con_hrun : Con Tryz.prog 3 := sm_hrun.conG
theorem con_hrun_at (fu : Int) (co : List Code) (i0 : Nat)  (s : St) (hn : nodupB [i0] = true) (m0 : s.get i0 = some (.arr [.int .i64 fu, inlL ccells 6 co] 0 false)) : con_hrun.rel [.pointer none, .slice (some ⟨i0, 0, some 2⟩) 1 2] s (.tuple #[.slice none 0 0, .iface 36 (.int .i64 11)]) s :=
  sm_hrun.at_ (fu, co) [i0] s _ trivial rfl hn rfl (all1 m0) rfl rfl
theorem hengine_sc   : SC Tryz.prog 0 9 [.pointer none] (St.empty 0) fun v s' => v = .pointer none ∧ s'.n ≤ 400 := sc_valB Tryz.cfgOk 300 400 (by kernel_rfl)
noncomputable def con_hengine : Con Tryz.prog 3 := Con.pureG (α := Unit) 9 (fun z9 => [.pointer none]) (fun z9 => .pointer none) (fun z9 => True) (by
  intro x y _; rfl) (fun _ => rfl) (fun _ => rfl) 400 (by
  intro x hp; exact hengine_sc)
theorem con_hengine_at   (s : St) : con_hengine.rel [.pointer none] s (.pointer none) s := con_pureG () trivial s
theorem hconfig_sc (n : Int)  : SC Tryz.prog 0 10 [.pointer none, .agg #[.int .i64 0, .int .i64 0, .int .i64 0, .int .i64 0, .int .i64 0, .int .i64 n]] (St.empty 0) fun v s' => v = .iface 36 (.int .i64 11) ∧ s'.n ≤ 400 := sc_valB Tryz.cfgOk 300 400 (by kernel_rfl)
noncomputable def con_hconfig : Con Tryz.prog 3 := Con.pureG (α := Int) 10 (fun z9 => [.pointer none, .agg #[.int .i64 0, .int .i64 0, .int .i64 0, .int .i64 0, .int .i64 0, .int .i64 z9]]) (fun z9 => .iface 36 (.int .i64 11)) (fun z9 => True) (by
  intro x y h
  simp only [List.cons.injEq, and_true, Int.natCast_inj, UInt8.toNat_inj, Value.int.injEq, Value.bool.injEq, Value.string.injEq, Value.agg.injEq, Array.mk.injEq, true_and] at h
  first | exact h | (simp only [Prod.ext_iff, h, and_self, and_true, true_and]; done) | simp_all [Prod.ext_iff]) (fun _ => rfl) (fun _ => rfl) 400 (by
  rintro x _
  exact hconfig_sc x )
theorem con_hconfig_at (n : Int)  (s : St) : con_hconfig.rel [.pointer none, .agg #[.int .i64 0, .int .i64 0, .int .i64 0, .int .i64 0, .int .i64 0, .int .i64 n]] s (.iface 36 (.int .i64 11)) s := con_pureG n trivial s
theorem harm_sc (n : Int)  : SC Tryz.prog 0 11 [.pointer none, .int .i64 n] (St.empty 0) fun v s' => v = .iface 36 (.int .i64 11) ∧ s'.n ≤ 400 := sc_valB Tryz.cfgOk 300 400 (by kernel_rfl)
noncomputable def con_harm : Con Tryz.prog 3 := Con.pureG (α := Int) 11 (fun z9 => [.pointer none, .int .i64 z9]) (fun z9 => .iface 36 (.int .i64 11)) (fun z9 => True) (by
  intro x y h
  simp only [List.cons.injEq, and_true, Int.natCast_inj, UInt8.toNat_inj, Value.int.injEq, Value.bool.injEq, Value.string.injEq, Value.agg.injEq, Array.mk.injEq, true_and] at h
  first | exact h | (simp only [Prod.ext_iff, h, and_self, and_true, true_and]; done) | simp_all [Prod.ext_iff]) (fun _ => rfl) (fun _ => rfl) 400 (by
  rintro x _
  exact harm_sc x )
theorem con_harm_at (n : Int)  (s : St) : con_harm.rel [.pointer none, .int .i64 n] s (.iface 36 (.int .i64 11)) s := con_pureG n trivial s
theorem hopen_sc   : SC Tryz.prog 0 12 [.pointer none, .slice none 0 0] (St.empty 0) fun v s' => v = .iface 36 (.int .i64 11) ∧ s'.n ≤ 400 := sc_valB Tryz.cfgOk 300 400 (by kernel_rfl)
noncomputable def con_hopen : Con Tryz.prog 3 := Con.pureG (α := Unit) 12 (fun z9 => [.pointer none, .slice none 0 0]) (fun z9 => .iface 36 (.int .i64 11)) (fun z9 => True) (by
  intro x y _; rfl) (fun _ => rfl) (fun _ => rfl) 400 (by
  intro x hp; exact hopen_sc)
theorem con_hopen_at   (s : St) : con_hopen.rel [.pointer none, .slice none 0 0] s (.iface 36 (.int .i64 11)) s := con_pureG () trivial s
theorem hdevs_sc   : SC Tryz.prog 0 13 [.pointer none] (St.empty 0) fun v s' => v = .pointer none ∧ s'.n ≤ 400 := sc_valB Tryz.cfgOk 300 400 (by kernel_rfl)
noncomputable def con_hdevs : Con Tryz.prog 3 := Con.pureG (α := Unit) 13 (fun z9 => [.pointer none]) (fun z9 => .pointer none) (fun z9 => True) (by
  intro x y _; rfl) (fun _ => rfl) (fun _ => rfl) 400 (by
  intro x hp; exact hdevs_sc)
theorem con_hdevs_at   (s : St) : con_hdevs.rel [.pointer none] s (.pointer none) s := con_pureG () trivial s
theorem isn_sc (n : Int) (h0 : n = 11) : SC Tryz.prog 0 8 [.iface 36 (.int .i64 n), .int .i64 n] (St.empty 0) fun v s' => v = .bool true ∧ s'.n ≤ 400 := by
  subst h0
  exact sc_valB Tryz.cfgOk 300 400 (by kernel_rfl)
noncomputable def con_isn : Con Tryz.prog 3 := Con.pureG (α := Int) 8 (fun z9 => [.iface 36 (.int .i64 z9), .int .i64 z9]) (fun z9 => .bool true) (fun z9 => (z9 = 11)) (by
  intro x y h
  simp only [List.cons.injEq, and_true, Int.natCast_inj, UInt8.toNat_inj, Value.int.injEq, Value.bool.injEq, Value.string.injEq, Value.agg.injEq, Array.mk.injEq, true_and] at h
  first | exact h | (simp only [Prod.ext_iff, h, and_self, and_true, true_and]; done) | simp_all [Prod.ext_iff]) (fun _ => rfl) (fun _ => rfl) 400 (by
  rintro x p0
  exact isn_sc x p0)
theorem con_isn_at (n : Int) (h0 : n = 11) (s : St) : con_isn.rel [.iface 36 (.int .i64 n), .int .i64 n] s (.bool true) s := con_pureG n h0 s
end Go.Proofs.YtdgadbbjnhnkeaaGreatDoor