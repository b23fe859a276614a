/- Clones; a record of its own memory; the record of a run. -/
import Derived.Test.YtegigohhnplomaaBase
set_option linter.unusedVariables false
set_option linter.unusedSimpArgs false
set_option linter.unnecessarySimpa false
namespace Go.Proofs.Ytegigohhnplomaa
open Go.Ai
theorem cloneWrite_fn : Try.cfg.fn 21 = some Try.f21 := by kernel_rfl
set_option maxHeartbeats 4000000 in
set_option maxRecDepth 100000 in
theorem cloneWrite_sc (l : List Wr) (h0 : l.length ≤ 1000000) : SC Try.prog 0 21 [slL 0 4 l.length] ((St.empty 0).new (rowL wcells l)) fun v s' => v = inlL wcells 4 l ∧ s'.n ≤ 400 ∧ ∀ a, a < 1 → s'.get a = some (objL [rowL wcells l] a) := by
  have hS := sound_run Try.cfgOk 300
  refine sc_iceK (k := 1) (N := 400) (v2 := inlL wcells 4 l) (Ms := objL [rowL wcells l]) rfl ?_ (all1 (OSub.arr (subs_clo (flatL_clo wcells_clo))))
  refine sc_body Try.cfgOk cloneWrite_fn rfl ?_
  repeat' (with_reducible first | refine sk_seq ?_ | refine sk_block ?_ | refine sk_skip ?_ | refine sk_scope ?_)
  refine sk_regionK Try.cfgOk hS (by kernel_rfl) ?_
  repeat' (with_reducible first | refine sk_seq ?_ | refine sk_block ?_ | refine sk_skip ?_ | refine sk_scope ?_)
  refine sk_regionL Try.cfgOk hS ?_
  refine al_chunk 1 (by kernel_rfl) ?_
  refine al_nilT (l.length) true rfl (by kernel_rfl) rfl (by kernel_rfl) (by kernel_rfl) (fun h1 => ?_) ?_
  · have c2 : l = [] := List.eq_nil_of_length_eq_zero h1
    clear h1
    refine al_nil ?_
    repeat' (with_reducible first | refine sk_seq ?_ | refine sk_block ?_ | refine sk_skip ?_ | refine sk_scope ?_)
    refine sk_true (by kernel_rfl) ?_
    repeat' (with_reducible first | refine sk_seq ?_ | refine sk_block ?_ | refine sk_skip ?_ | refine sk_scope ?_)
    refine sk_regionK Try.cfgOk hS (by kernel_rfl) ?_
    repeat' (with_reducible first | refine sk_seq ?_ | refine sk_block ?_ | refine sk_skip ?_ | refine sk_scope ?_)
    refine sk_ret ?_
    exact ⟨[.slice none 0 0], by kernel_rfl, fs_to (fs_nilL (f := wcells) (sz := 4) (by decide)) (congrArg (inlL wcells 4) (by first | rfl | (rw [List.nil_append]) | (simp only [*]) | (simp [*]))), Nat.le_of_ble_eq_true (by kernel_rfl), all1 (by kernel_rfl)⟩
  ·
    refine al_nil ?_
    repeat' (with_reducible first | refine sk_seq ?_ | refine sk_block ?_ | refine sk_skip ?_ | refine sk_scope ?_)
    refine sk_false (by kernel_rfl) ?_
    repeat' (with_reducible first | refine sk_seq ?_ | refine sk_block ?_ | refine sk_skip ?_ | refine sk_scope ?_)
    refine sk_regionL Try.cfgOk hS ?_
    refine al_chunk 2 (by kernel_rfl) ?_
    refine al_opF (v := slL 1 4 (([] : List Wr) ++ l).length) (s1 := (((St.empty 0).new (rowL wcells l)).new (rowL wcells ([] : List Wr))).set 1 (rowL wcells (([] : List Wr) ++ l))) (by kernel_rfl) (by kernel_rfl) (Eq.trans (b := appendV Try.cfg (((St.empty 0).new (rowL wcells l)).new (rowL wcells ([] : List Wr))) 29 (slL 1 4 (([] : List Wr).length)) (slL 0 4 l.length)) (by kernel_rfl) (app_rowL (l := ([] : List Wr)) (l2 := l) (bytes := 32) tokC (by kernel_rfl) wcells_len wcells_one (by kernel_rfl) (by kernel_rfl) (firstV_rowL wcells_len (by kernel_rfl)) (by (try simp only [List.length_cons, List.length_nil, List.length_append]); omega))) ?_
    refine al_known (by kernel_rfl) ?_
    repeat' (with_reducible first | refine sk_seq ?_ | refine sk_block ?_ | refine sk_skip ?_ | refine sk_scope ?_)
    refine sk_ret ?_
    exact ⟨[slL 1 4 ((([] : List Wr) ++ l).length)], by kernel_rfl, fs_to (fs_rowL (by decide) wcells_len wcells_clo wcells_one (Nat.le_of_ble_eq_true (by kernel_rfl)) (by kernel_rfl)) (congrArg (inlL wcells 4) (by first | rfl | (rw [List.nil_append]) | (simp only [*]) | (simp [*]))), Nat.le_of_ble_eq_true (by kernel_rfl), all1 (by kernel_rfl)⟩
noncomputable def sm_cloneWrite : Small Try.prog 0 21 ((List Wr)) where
  k := 1
  A := fun z9 ρ => [slL (ρ 0) 4 z9.length]
  M := fun z9 ρ => objL [rowL wcells z9]
  M1 := fun z9 ρ => objL [rowL wcells z9]
  V := fun z9 ρ => inlL wcells 4 z9
  Pre := fun z9 => (z9.length ≤ 1000000)
  ch := []
  N := 400
  s0 := fun z9 => ((St.empty 0).new (rowL wcells z9))
  hch := by decide
  hsame := fun x ρ => all1 (fun _ => rfl)
  hG := rfl
  hn := fun x => rfl
  hwf := fun x => ((wf_empty 0).new _)
  hget := fun x => all1 (by kernel_rfl)
  noloop := fun x ρ => all1 (fun h => h.elim)
  inA := fun x ρ R hR => .cons (.slice (hR 0 _ (by decide))) .nil
  inM := fun x ρ R hR => all1 (OSub.arr (subs_clo (flatL_clo wcells_clo)))
  outM := fun x ρ R hR => all1 (OSub.arr (subs_clo (flatL_clo wcells_clo)))
  outV := fun x ρ R hR => sub_clo rfl
  dom := by
    intro x ρ a ha
    cases ha
  sc := by
    rintro x p0
    exact cloneWrite_sc x p0
  det := by
    rintro x ρ y σ s h hm hm'
    simp only [List.cons.injEq, and_true, Int.natCast_inj, Value.int.injEq, Value.bool.injEq, Value.string.injEq, Value.agg.injEq, Array.mk.injEq, true_and, Value.pointer.injEq, Option.some.injEq, Addr.mk.injEq, Value.func.injEq, AObj.cells.injEq, AObj.arr.injEq, slL_iff, wcells_row] at h
    have q0 : ρ 0 = σ 0 := by simp_all
    have e0 := (hm 0 (by decide)).symm.trans ((congrArg s.get q0).trans (hm' 0 (by decide)))
    simp only [objL, List.getD_cons_zero, List.getD_cons_succ, List.cons.injEq, and_true, Int.natCast_inj, Value.int.injEq, Value.bool.injEq, Value.string.injEq, Value.agg.injEq, Array.mk.injEq, true_and, Value.pointer.injEq, Option.some.injEq, Addr.mk.injEq, Value.func.injEq, AObj.cells.injEq, AObj.arr.injEq, slL_iff, wcells_row] at e0
    have q : ∀ a, a < 1 → ρ a = σ a := all1 q0
    clear hm hm'
    exact ⟨by first | rfl | (simp_all [Prod.ext_iff]; done) | exact e0, q⟩
  par := by
    intro x ρ σ h
    have h0 := h 0 (by decide)
    exact ⟨by first | rfl | simp only [h0], by first | exact fun _ _ => rfl | (intro a ha; simp only [h0])⟩
noncomputable def con_cloneWrite : Con Try.prog 0 := sm_cloneWrite.con
theorem con_cloneWrite_at (l : List Wr) (i0 : Nat) (h0 : l.length ≤ 1000000) (s : St) (hn : nodupB [i0] = true) (m0 : s.get i0 = some (rowL wcells l)) : con_cloneWrite.rel [slL i0 4 l.length] s (inlL wcells 4 l) s :=
  sm_cloneWrite.at_ l [i0] s _ h0 rfl hn rfl (all1 m0) rfl rfl
theorem cloneCode_fn : Try.cfg.fn 22 = some Try.f22 := by kernel_rfl
set_option maxHeartbeats 4000000 in
set_option maxRecDepth 100000 in
theorem cloneCode_sc (l : List Code) (h0 : l.length ≤ 1000000) : SC Try.prog 0 22 [slL 0 6 l.length] ((St.empty 0).new (rowL ccells l)) fun v s' => v = inlL ccells 6 l ∧ s'.n ≤ 400 ∧ ∀ a, a < 1 → s'.get a = some (objL [rowL ccells l] a) := by
  have hS := sound_run Try.cfgOk 300
  refine sc_iceK (k := 1) (N := 400) (v2 := inlL ccells 6 l) (Ms := objL [rowL ccells l]) rfl ?_ (all1 (OSub.arr (subs_clo (flatL_clo ccells_clo))))
  refine sc_body Try.cfgOk cloneCode_fn rfl ?_
  repeat' (with_reducible first | refine sk_seq ?_ | refine sk_block ?_ | refine sk_skip ?_ | refine sk_scope ?_)
  refine sk_regionK Try.cfgOk hS (by kernel_rfl) ?_
  repeat' (with_reducible first | refine sk_seq ?_ | refine sk_block ?_ | refine sk_skip ?_ | refine sk_scope ?_)
  refine sk_regionL Try.cfgOk hS ?_
  refine al_chunk 1 (by kernel_rfl) ?_
  refine al_nilT (l.length) true rfl (by kernel_rfl) rfl (by kernel_rfl) (by kernel_rfl) (fun h1 => ?_) ?_
  · have c2 : l = [] := List.eq_nil_of_length_eq_zero h1
    clear h1
    refine al_nil ?_
    repeat' (with_reducible first | refine sk_seq ?_ | refine sk_block ?_ | refine sk_skip ?_ | refine sk_scope ?_)
    refine sk_true (by kernel_rfl) ?_
    repeat' (with_reducible first | refine sk_seq ?_ | refine sk_block ?_ | refine sk_skip ?_ | refine sk_scope ?_)
    refine sk_regionK Try.cfgOk hS (by kernel_rfl) ?_
    repeat' (with_reducible first | refine sk_seq ?_ | refine sk_block ?_ | refine sk_skip ?_ | refine sk_scope ?_)
    refine sk_ret ?_
    exact ⟨[.slice none 0 0], by kernel_rfl, fs_to (fs_nilL (f := ccells) (sz := 6) (by decide)) (congrArg (inlL ccells 6) (by first | rfl | (rw [List.nil_append]) | (simp only [*]) | (simp [*]))), Nat.le_of_ble_eq_true (by kernel_rfl), all1 (by kernel_rfl)⟩
  ·
    refine al_nil ?_
    repeat' (with_reducible first | refine sk_seq ?_ | refine sk_block ?_ | refine sk_skip ?_ | refine sk_scope ?_)
    refine sk_false (by kernel_rfl) ?_
    repeat' (with_reducible first | refine sk_seq ?_ | refine sk_block ?_ | refine sk_skip ?_ | refine sk_scope ?_)
    refine sk_regionL Try.cfgOk hS ?_
    refine al_chunk 2 (by kernel_rfl) ?_
    refine al_opF (v := slL 1 6 (([] : List Code) ++ l).length) (s1 := (((St.empty 0).new (rowL ccells l)).new (rowL ccells ([] : List Code))).set 1 (rowL ccells (([] : List Code) ++ l))) (by kernel_rfl) (by kernel_rfl) (Eq.trans (b := appendV Try.cfg (((St.empty 0).new (rowL ccells l)).new (rowL ccells ([] : List Code))) 22 (slL 1 6 (([] : List Code).length)) (slL 0 6 l.length)) (by kernel_rfl) (app_rowL (l := ([] : List Code)) (l2 := l) (bytes := 48) tokC (by kernel_rfl) ccells_len ccells_one (by kernel_rfl) (by kernel_rfl) (firstV_rowL ccells_len (by kernel_rfl)) (by (try simp only [List.length_cons, List.length_nil, List.length_append]); omega))) ?_
    refine al_known (by kernel_rfl) ?_
    repeat' (with_reducible first | refine sk_seq ?_ | refine sk_block ?_ | refine sk_skip ?_ | refine sk_scope ?_)
    refine sk_ret ?_
    exact ⟨[slL 1 6 ((([] : List Code) ++ l).length)], by kernel_rfl, fs_to (fs_rowL (by decide) ccells_len ccells_clo ccells_one (Nat.le_of_ble_eq_true (by kernel_rfl)) (by kernel_rfl)) (congrArg (inlL ccells 6) (by first | rfl | (rw [List.nil_append]) | (simp only [*]) | (simp [*]))), Nat.le_of_ble_eq_true (by kernel_rfl), all1 (by kernel_rfl)⟩
noncomputable def sm_cloneCode : Small Try.prog 0 22 ((List Code)) where
  k := 1
  A := fun z9 ρ => [slL (ρ 0) 6 z9.length]
  M := fun z9 ρ => objL [rowL ccells z9]
  M1 := fun z9 ρ => objL [rowL ccells z9]
  V := fun z9 ρ => inlL ccells 6 z9
  Pre := fun z9 => (z9.length ≤ 1000000)
  ch := []
  N := 400
  s0 := fun z9 => ((St.empty 0).new (rowL ccells z9))
  hch := by decide
  hsame := fun x ρ => all1 (fun _ => rfl)
  hG := rfl
  hn := fun x => rfl
  hwf := fun x => ((wf_empty 0).new _)
  hget := fun x => all1 (by kernel_rfl)
  noloop := fun x ρ => all1 (fun h => h.elim)
  inA := fun x ρ R hR => .cons (.slice (hR 0 _ (by decide))) .nil
  inM := fun x ρ R hR => all1 (OSub.arr (subs_clo (flatL_clo ccells_clo)))
  outM := fun x ρ R hR => all1 (OSub.arr (subs_clo (flatL_clo ccells_clo)))
  outV := fun x ρ R hR => sub_clo rfl
  dom := by
    intro x ρ a ha
    cases ha
  sc := by
    rintro x p0
    exact cloneCode_sc x p0
  det := by
    rintro x ρ y σ s h hm hm'
    simp only [List.cons.injEq, and_true, Int.natCast_inj, Value.int.injEq, Value.bool.injEq, Value.string.injEq, Value.agg.injEq, Array.mk.injEq, true_and, Value.pointer.injEq, Option.some.injEq, Addr.mk.injEq, Value.func.injEq, AObj.cells.injEq, AObj.arr.injEq, slL_iff, ccells_row] at h
    have q0 : ρ 0 = σ 0 := by simp_all
    have e0 := (hm 0 (by decide)).symm.trans ((congrArg s.get q0).trans (hm' 0 (by decide)))
    simp only [objL, List.getD_cons_zero, List.getD_cons_succ, List.cons.injEq, and_true, Int.natCast_inj, Value.int.injEq, Value.bool.injEq, Value.string.injEq, Value.agg.injEq, Array.mk.injEq, true_and, Value.pointer.injEq, Option.some.injEq, Addr.mk.injEq, Value.func.injEq, AObj.cells.injEq, AObj.arr.injEq, slL_iff, ccells_row] at e0
    have q : ∀ a, a < 1 → ρ a = σ a := all1 q0
    clear hm hm'
    exact ⟨by first | rfl | (simp_all [Prod.ext_iff]; done) | exact e0, q⟩
  par := by
    intro x ρ σ h
    have h0 := h 0 (by decide)
    exact ⟨by first | rfl | simp only [h0], by first | exact fun _ _ => rfl | (intro a ha; simp only [h0])⟩
noncomputable def con_cloneCode : Con Try.prog 0 := sm_cloneCode.con
theorem con_cloneCode_at (l : List Code) (i0 : Nat) (h0 : l.length ≤ 1000000) (s : St) (hn : nodupB [i0] = true) (m0 : s.get i0 = some (rowL ccells l)) : con_cloneCode.rel [slL i0 6 l.length] s (inlL ccells 6 l) s :=
  sm_cloneCode.at_ l [i0] s _ h0 rfl hn rfl (all1 m0) rfl rfl
theorem cloneKey_fn : Try.cfg.fn 23 = some Try.f23 := by kernel_rfl
set_option maxHeartbeats 4000000 in
set_option maxRecDepth 100000 in
theorem cloneKey_sc (l : List Key) (h0 : l.length ≤ 1000000) : SC Try.prog 0 23 [slL 0 2 l.length] ((St.empty 0).new (rowL kcells l)) fun v s' => v = inlL kcells 2 l ∧ s'.n ≤ 400 ∧ ∀ a, a < 1 → s'.get a = some (objL [rowL kcells l] a) := by
  have hS := sound_run Try.cfgOk 300
  refine sc_iceK (k := 1) (N := 400) (v2 := inlL kcells 2 l) (Ms := objL [rowL kcells l]) rfl ?_ (all1 (OSub.arr (subs_clo (flatL_clo kcells_clo))))
  refine sc_body Try.cfgOk cloneKey_fn rfl ?_
  repeat' (with_reducible first | refine sk_seq ?_ | refine sk_block ?_ | refine sk_skip ?_ | refine sk_scope ?_)
  refine sk_regionK Try.cfgOk hS (by kernel_rfl) ?_
  repeat' (with_reducible first | refine sk_seq ?_ | refine sk_block ?_ | refine sk_skip ?_ | refine sk_scope ?_)
  refine sk_regionL Try.cfgOk hS ?_
  refine al_chunk 1 (by kernel_rfl) ?_
  refine al_nilT (l.length) true rfl (by kernel_rfl) rfl (by kernel_rfl) (by kernel_rfl) (fun h1 => ?_) ?_
  · have c2 : l = [] := List.eq_nil_of_length_eq_zero h1
    clear h1
    refine al_nil ?_
    repeat' (with_reducible first | refine sk_seq ?_ | refine sk_block ?_ | refine sk_skip ?_ | refine sk_scope ?_)
    refine sk_true (by kernel_rfl) ?_
    repeat' (with_reducible first | refine sk_seq ?_ | refine sk_block ?_ | refine sk_skip ?_ | refine sk_scope ?_)
    refine sk_regionK Try.cfgOk hS (by kernel_rfl) ?_
    repeat' (with_reducible first | refine sk_seq ?_ | refine sk_block ?_ | refine sk_skip ?_ | refine sk_scope ?_)
    refine sk_ret ?_
    exact ⟨[.slice none 0 0], by kernel_rfl, fs_to (fs_nilL (f := kcells) (sz := 2) (by decide)) (congrArg (inlL kcells 2) (by first | rfl | (rw [List.nil_append]) | (simp only [*]) | (simp [*]))), Nat.le_of_ble_eq_true (by kernel_rfl), all1 (by kernel_rfl)⟩
  ·
    refine al_nil ?_
    repeat' (with_reducible first | refine sk_seq ?_ | refine sk_block ?_ | refine sk_skip ?_ | refine sk_scope ?_)
    refine sk_false (by kernel_rfl) ?_
    repeat' (with_reducible first | refine sk_seq ?_ | refine sk_block ?_ | refine sk_skip ?_ | refine sk_scope ?_)
    refine sk_regionL Try.cfgOk hS ?_
    refine al_chunk 2 (by kernel_rfl) ?_
    refine al_opF (v := slL 1 2 (([] : List Key) ++ l).length) (s1 := (((St.empty 0).new (rowL kcells l)).new (rowL kcells ([] : List Key))).set 1 (rowL kcells (([] : List Key) ++ l))) (by kernel_rfl) (by kernel_rfl) (Eq.trans (b := appendV Try.cfg (((St.empty 0).new (rowL kcells l)).new (rowL kcells ([] : List Key))) 25 (slL 1 2 (([] : List Key).length)) (slL 0 2 l.length)) (by kernel_rfl) (app_rowL (l := ([] : List Key)) (l2 := l) (bytes := 16) tokC (by kernel_rfl) kcells_len kcells_one (by kernel_rfl) (by kernel_rfl) (firstV_rowL kcells_len (by kernel_rfl)) (by (try simp only [List.length_cons, List.length_nil, List.length_append]); omega))) ?_
    refine al_known (by kernel_rfl) ?_
    repeat' (with_reducible first | refine sk_seq ?_ | refine sk_block ?_ | refine sk_skip ?_ | refine sk_scope ?_)
    refine sk_ret ?_
    exact ⟨[slL 1 2 ((([] : List Key) ++ l).length)], by kernel_rfl, fs_to (fs_rowL (by decide) kcells_len kcells_clo kcells_one (Nat.le_of_ble_eq_true (by kernel_rfl)) (by kernel_rfl)) (congrArg (inlL kcells 2) (by first | rfl | (rw [List.nil_append]) | (simp only [*]) | (simp [*]))), Nat.le_of_ble_eq_true (by kernel_rfl), all1 (by kernel_rfl)⟩
noncomputable def sm_cloneKey : Small Try.prog 0 23 ((List Key)) where
  k := 1
  A := fun z9 ρ => [slL (ρ 0) 2 z9.length]
  M := fun z9 ρ => objL [rowL kcells z9]
  M1 := fun z9 ρ => objL [rowL kcells z9]
  V := fun z9 ρ => inlL kcells 2 z9
  Pre := fun z9 => (z9.length ≤ 1000000)
  ch := []
  N := 400
  s0 := fun z9 => ((St.empty 0).new (rowL kcells z9))
  hch := by decide
  hsame := fun x ρ => all1 (fun _ => rfl)
  hG := rfl
  hn := fun x => rfl
  hwf := fun x => ((wf_empty 0).new _)
  hget := fun x => all1 (by kernel_rfl)
  noloop := fun x ρ => all1 (fun h => h.elim)
  inA := fun x ρ R hR => .cons (.slice (hR 0 _ (by decide))) .nil
  inM := fun x ρ R hR => all1 (OSub.arr (subs_clo (flatL_clo kcells_clo)))
  outM := fun x ρ R hR => all1 (OSub.arr (subs_clo (flatL_clo kcells_clo)))
  outV := fun x ρ R hR => sub_clo rfl
  dom := by
    intro x ρ a ha
    cases ha
  sc := by
    rintro x p0
    exact cloneKey_sc x p0
  det := by
    rintro x ρ y σ s h hm hm'
    simp only [List.cons.injEq, and_true, Int.natCast_inj, Value.int.injEq, Value.bool.injEq, Value.string.injEq, Value.agg.injEq, Array.mk.injEq, true_and, Value.pointer.injEq, Option.some.injEq, Addr.mk.injEq, Value.func.injEq, AObj.cells.injEq, AObj.arr.injEq, slL_iff, kcells_row] at h
    have q0 : ρ 0 = σ 0 := by simp_all
    have e0 := (hm 0 (by decide)).symm.trans ((congrArg s.get q0).trans (hm' 0 (by decide)))
    simp only [objL, List.getD_cons_zero, List.getD_cons_succ, List.cons.injEq, and_true, Int.natCast_inj, Value.int.injEq, Value.bool.injEq, Value.string.injEq, Value.agg.injEq, Array.mk.injEq, true_and, Value.pointer.injEq, Option.some.injEq, Addr.mk.injEq, Value.func.injEq, AObj.cells.injEq, AObj.arr.injEq, slL_iff, kcells_row] at e0
    have q : ∀ a, a < 1 → ρ a = σ a := all1 q0
    clear hm hm'
    exact ⟨by first | rfl | (simp_all [Prod.ext_iff]; done) | exact e0, q⟩
  par := by
    intro x ρ σ h
    have h0 := h 0 (by decide)
    exact ⟨by first | rfl | simp only [h0], by first | exact fun _ _ => rfl | (intro a ha; simp only [h0])⟩
noncomputable def con_cloneKey : Con Try.prog 0 := sm_cloneKey.con
theorem con_cloneKey_at (l : List Key) (i0 : Nat) (h0 : l.length ≤ 1000000) (s : St) (hn : nodupB [i0] = true) (m0 : s.get i0 = some (rowL kcells l)) : con_cloneKey.rel [slL i0 2 l.length] s (inlL kcells 2 l) s :=
  sm_cloneKey.at_ l [i0] s _ h0 rfl hn rfl (all1 m0) rfl rfl
theorem cloneSpan_fn : Try.cfg.fn 24 = some Try.f24 := by kernel_rfl
set_option maxHeartbeats 4000000 in
set_option maxRecDepth 100000 in
theorem cloneSpan_sc (l : List Span) (h0 : l.length ≤ 1000000) : SC Try.prog 0 24 [slL 0 3 l.length] ((St.empty 0).new (rowL scells l)) fun v s' => v = inlL scells 3 l ∧ s'.n ≤ 400 ∧ ∀ a, a < 1 → s'.get a = some (objL [rowL scells l] a) := by
  have hS := sound_run Try.cfgOk 300
  refine sc_iceK (k := 1) (N := 400) (v2 := inlL scells 3 l) (Ms := objL [rowL scells l]) rfl ?_ (all1 (OSub.arr (subs_clo (flatL_clo scells_clo))))
  refine sc_body Try.cfgOk cloneSpan_fn rfl ?_
  repeat' (with_reducible first | refine sk_seq ?_ | refine sk_block ?_ | refine sk_skip ?_ | refine sk_scope ?_)
  refine sk_regionK Try.cfgOk hS (by kernel_rfl) ?_
  repeat' (with_reducible first | refine sk_seq ?_ | refine sk_block ?_ | refine sk_skip ?_ | refine sk_scope ?_)
  refine sk_regionL Try.cfgOk hS ?_
  refine al_chunk 1 (by kernel_rfl) ?_
  refine al_nilT (l.length) true rfl (by kernel_rfl) rfl (by kernel_rfl) (by kernel_rfl) (fun h1 => ?_) ?_
  · have c2 : l = [] := List.eq_nil_of_length_eq_zero h1
    clear h1
    refine al_nil ?_
    repeat' (with_reducible first | refine sk_seq ?_ | refine sk_block ?_ | refine sk_skip ?_ | refine sk_scope ?_)
    refine sk_true (by kernel_rfl) ?_
    repeat' (with_reducible first | refine sk_seq ?_ | refine sk_block ?_ | refine sk_skip ?_ | refine sk_scope ?_)
    refine sk_regionK Try.cfgOk hS (by kernel_rfl) ?_
    repeat' (with_reducible first | refine sk_seq ?_ | refine sk_block ?_ | refine sk_skip ?_ | refine sk_scope ?_)
    refine sk_ret ?_
    exact ⟨[.slice none 0 0], by kernel_rfl, fs_to (fs_nilL (f := scells) (sz := 3) (by decide)) (congrArg (inlL scells 3) (by first | rfl | (rw [List.nil_append]) | (simp only [*]) | (simp [*]))), Nat.le_of_ble_eq_true (by kernel_rfl), all1 (by kernel_rfl)⟩
  ·
    refine al_nil ?_
    repeat' (with_reducible first | refine sk_seq ?_ | refine sk_block ?_ | refine sk_skip ?_ | refine sk_scope ?_)
    refine sk_false (by kernel_rfl) ?_
    repeat' (with_reducible first | refine sk_seq ?_ | refine sk_block ?_ | refine sk_skip ?_ | refine sk_scope ?_)
    refine sk_regionL Try.cfgOk hS ?_
    refine al_chunk 2 (by kernel_rfl) ?_
    refine al_opF (v := slL 1 3 (([] : List Span) ++ l).length) (s1 := (((St.empty 0).new (rowL scells l)).new (rowL scells ([] : List Span))).set 1 (rowL scells (([] : List Span) ++ l))) (by kernel_rfl) (by kernel_rfl) (Eq.trans (b := appendV Try.cfg (((St.empty 0).new (rowL scells l)).new (rowL scells ([] : List Span))) 26 (slL 1 3 (([] : List Span).length)) (slL 0 3 l.length)) (by kernel_rfl) (app_rowL (l := ([] : List Span)) (l2 := l) (bytes := 24) tokC (by kernel_rfl) scells_len scells_one (by kernel_rfl) (by kernel_rfl) (firstV_rowL scells_len (by kernel_rfl)) (by (try simp only [List.length_cons, List.length_nil, List.length_append]); omega))) ?_
    refine al_known (by kernel_rfl) ?_
    repeat' (with_reducible first | refine sk_seq ?_ | refine sk_block ?_ | refine sk_skip ?_ | refine sk_scope ?_)
    refine sk_ret ?_
    exact ⟨[slL 1 3 ((([] : List Span) ++ l).length)], by kernel_rfl, fs_to (fs_rowL (by decide) scells_len scells_clo scells_one (Nat.le_of_ble_eq_true (by kernel_rfl)) (by kernel_rfl)) (congrArg (inlL scells 3) (by first | rfl | (rw [List.nil_append]) | (simp only [*]) | (simp [*]))), Nat.le_of_ble_eq_true (by kernel_rfl), all1 (by kernel_rfl)⟩
noncomputable def sm_cloneSpan : Small Try.prog 0 24 ((List Span)) where
  k := 1
  A := fun z9 ρ => [slL (ρ 0) 3 z9.length]
  M := fun z9 ρ => objL [rowL scells z9]
  M1 := fun z9 ρ => objL [rowL scells z9]
  V := fun z9 ρ => inlL scells 3 z9
  Pre := fun z9 => (z9.length ≤ 1000000)
  ch := []
  N := 400
  s0 := fun z9 => ((St.empty 0).new (rowL scells z9))
  hch := by decide
  hsame := fun x ρ => all1 (fun _ => rfl)
  hG := rfl
  hn := fun x => rfl
  hwf := fun x => ((wf_empty 0).new _)
  hget := fun x => all1 (by kernel_rfl)
  noloop := fun x ρ => all1 (fun h => h.elim)
  inA := fun x ρ R hR => .cons (.slice (hR 0 _ (by decide))) .nil
  inM := fun x ρ R hR => all1 (OSub.arr (subs_clo (flatL_clo scells_clo)))
  outM := fun x ρ R hR => all1 (OSub.arr (subs_clo (flatL_clo scells_clo)))
  outV := fun x ρ R hR => sub_clo rfl
  dom := by
    intro x ρ a ha
    cases ha
  sc := by
    rintro x p0
    exact cloneSpan_sc x p0
  det := by
    rintro x ρ y σ s h hm hm'
    simp only [List.cons.injEq, and_true, Int.natCast_inj, Value.int.injEq, Value.bool.injEq, Value.string.injEq, Value.agg.injEq, Array.mk.injEq, true_and, Value.pointer.injEq, Option.some.injEq, Addr.mk.injEq, Value.func.injEq, AObj.cells.injEq, AObj.arr.injEq, slL_iff, scells_row] at h
    have q0 : ρ 0 = σ 0 := by simp_all
    have e0 := (hm 0 (by decide)).symm.trans ((congrArg s.get q0).trans (hm' 0 (by decide)))
    simp only [objL, List.getD_cons_zero, List.getD_cons_succ, List.cons.injEq, and_true, Int.natCast_inj, Value.int.injEq, Value.bool.injEq, Value.string.injEq, Value.agg.injEq, Array.mk.injEq, true_and, Value.pointer.injEq, Option.some.injEq, Addr.mk.injEq, Value.func.injEq, AObj.cells.injEq, AObj.arr.injEq, slL_iff, scells_row] at e0
    have q : ∀ a, a < 1 → ρ a = σ a := all1 q0
    clear hm hm'
    exact ⟨by first | rfl | (simp_all [Prod.ext_iff]; done) | exact e0, q⟩
  par := by
    intro x ρ σ h
    have h0 := h 0 (by decide)
    exact ⟨by first | rfl | simp only [h0], by first | exact fun _ _ => rfl | (intro a ha; simp only [h0])⟩
noncomputable def con_cloneSpan : Con Try.prog 0 := sm_cloneSpan.con
theorem con_cloneSpan_at (l : List Span) (i0 : Nat) (h0 : l.length ≤ 1000000) (s : St) (hn : nodupB [i0] = true) (m0 : s.get i0 = some (rowL scells l)) : con_cloneSpan.rel [slL i0 3 l.length] s (inlL scells 3 l) s :=
  sm_cloneSpan.at_ l [i0] s _ h0 rfl hn rfl (all1 m0) rfl rfl
theorem program_fn : Try.cfg.fn 9 = some Try.f9 := by kernel_rfl
set_option maxHeartbeats 4000000 in
set_option maxRecDepth 100000 in
theorem program_sc (sq : Int) (vl : Bool) (fu : Int) (co : List Code) (rs : List Key) (ss : List Span) (ws : List Key) (wr : List Wr) (h0 : co.length ≤ 1000000) (h1 : rs.length ≤ 1000000) (h2 : ss.length ≤ 1000000) (h3 : ws.length ≤ 1000000) (h4 : wr.length ≤ 1000000) : SC Try.prog 0 9 [.agg #[.int .i64 sq, .bool vl, .int .i64 fu, inlL ccells 6 co, inlL kcells 2 rs, inlL scells 3 ss, inlL kcells 2 ws, inlL wcells 4 wr]] (St.empty 0) fun v s' => ∃ σ : Nat → Nat, (∀ a, a < 0 → σ a = a) ∧ (∀ a, 0 ≤ a → a < 0 + 5 → 0 ≤ σ a ∧ σ a < s'.n) ∧ (∀ a b, a < 0 + 5 → b < 0 + 5 → σ a = σ b → a = b) ∧ v = .agg #[.int .i64 sq, .bool vl, .int .i64 fu, slL (σ 0) 6 co.length, slL (σ 1) 2 rs.length, slL (σ 2) 3 ss.length, slL (σ 3) 2 ws.length, slL (σ 4) 4 wr.length] ∧ s'.n ≤ 400 ∧ ∀ a, a < 0 + 5 → s'.get (σ a) = some (objL [rowL ccells co, rowL kcells rs, rowL scells ss, rowL kcells ws, rowL wcells wr] a) := by
  have hS := sound_run Try.cfgOk 300
  refine sc_body Try.cfgOk program_fn rfl ?_
  repeat' (with_reducible first | refine sk_seq ?_ | refine sk_block ?_ | refine sk_skip ?_ | refine sk_scope ?_)
  refine sk_regionK Try.cfgOk hS (by kernel_rfl) ?_
  repeat' (with_reducible first | refine sk_seq ?_ | refine sk_block ?_ | refine sk_skip ?_ | refine sk_scope ?_)
  refine sk_regionK Try.cfgOk hS (by kernel_rfl) ?_
  repeat' (with_reducible first | refine sk_seq ?_ | refine sk_block ?_ | refine sk_skip ?_ | refine sk_scope ?_)
  refine sk_regionL Try.cfgOk hS ?_
  refine al_chunk 4 (by kernel_rfl) ?_
  refine al_opF (v := slL 3 6 (([] : List Code) ++ co).length) (s1 := (((((St.empty 0).new (.cells [.int .i64 sq, .bool vl, .int .i64 fu, inlL ccells 6 co, inlL kcells 2 rs, inlL scells 3 ss, inlL kcells 2 ws, inlL wcells 4 wr])).new (.cells [.int .i64 0, .bool false, .int .i64 0, .slice none 0 0, .slice none 0 0, .slice none 0 0, .slice none 0 0, .slice none 0 0])).new (.cells [.int .i64 sq, .bool vl, .int .i64 fu, inlL ccells 6 co, inlL kcells 2 rs, inlL scells 3 ss, inlL kcells 2 ws, inlL wcells 4 wr])).new (rowL ccells ([] : List Code))).set 3 (rowL ccells (([] : List Code) ++ co))) (by kernel_rfl) (by kernel_rfl) (Eq.trans (b := appendV Try.cfg (((((St.empty 0).new (.cells [.int .i64 sq, .bool vl, .int .i64 fu, inlL ccells 6 co, inlL kcells 2 rs, inlL scells 3 ss, inlL kcells 2 ws, inlL wcells 4 wr])).new (.cells [.int .i64 0, .bool false, .int .i64 0, .slice none 0 0, .slice none 0 0, .slice none 0 0, .slice none 0 0, .slice none 0 0])).new (.cells [.int .i64 sq, .bool vl, .int .i64 fu, inlL ccells 6 co, inlL kcells 2 rs, inlL scells 3 ss, inlL kcells 2 ws, inlL wcells 4 wr])).new (rowL ccells ([] : List Code))) 22 (slL 3 6 (([] : List Code).length)) (inlL ccells 6 co)) (by kernel_rfl) (app_rowL (l := ([] : List Code)) (l2 := co) (bytes := 48) tokC (by kernel_rfl) ccells_len ccells_one (by kernel_rfl) (lenV_inl tokC) (firstV_inlL tokC ccells_len) (by (try simp only [List.length_cons, List.length_nil, List.length_append]); omega))) ?_
  refine al_known (by kernel_rfl) ?_
  repeat' (with_reducible first | refine sk_seq ?_ | refine sk_block ?_ | refine sk_skip ?_ | refine sk_scope ?_)
  refine sk_drawL Try.cfgOk hS ?_
  refine ald_chunk 4 (by kernel_rfl) ?_
  refine ald_opF (v := slL 4 2 (([] : List Key) ++ rs).length) (s1 := ((((((St.empty 0).new (.cells [.int .i64 sq, .bool vl, .int .i64 fu, inlL ccells 6 co, inlL kcells 2 rs, inlL scells 3 ss, inlL kcells 2 ws, inlL wcells 4 wr])).new (.cells [.int .i64 0, .bool false, .int .i64 0, .slice none 0 0, .slice none 0 0, .slice none 0 0, .slice none 0 0, .slice none 0 0])).new (.cells [.int .i64 sq, .bool vl, .int .i64 fu, slL 3 6 ((([] : List Code) ++ co).length), inlL kcells 2 rs, inlL scells 3 ss, inlL kcells 2 ws, inlL wcells 4 wr])).new (rowL ccells (([] : List Code) ++ co))).new (rowL kcells ([] : List Key))).set 4 (rowL kcells (([] : List Key) ++ rs))) (by kernel_rfl) (by kernel_rfl) (Eq.trans (b := appendV Try.cfg ((((((St.empty 0).new (.cells [.int .i64 sq, .bool vl, .int .i64 fu, inlL ccells 6 co, inlL kcells 2 rs, inlL scells 3 ss, inlL kcells 2 ws, inlL wcells 4 wr])).new (.cells [.int .i64 0, .bool false, .int .i64 0, .slice none 0 0, .slice none 0 0, .slice none 0 0, .slice none 0 0, .slice none 0 0])).new (.cells [.int .i64 sq, .bool vl, .int .i64 fu, slL 3 6 ((([] : List Code) ++ co).length), inlL kcells 2 rs, inlL scells 3 ss, inlL kcells 2 ws, inlL wcells 4 wr])).new (rowL ccells (([] : List Code) ++ co))).new (rowL kcells ([] : List Key))) 25 (slL 4 2 (([] : List Key).length)) (inlL kcells 2 rs)) (by kernel_rfl) (app_rowL (l := ([] : List Key)) (l2 := rs) (bytes := 16) tokC (by kernel_rfl) kcells_len kcells_one (by kernel_rfl) (lenV_inl tokC) (firstV_inlL tokC kcells_len) (by (try simp only [List.length_cons, List.length_nil, List.length_append]); omega))) (by kernel_rfl) ?_
  refine ald_chunk 3 (by kernel_rfl) ?_
  refine ald_readK (d := (0, St.empty 0, St.empty 0)) (by kernel_rfl) (by kernel_rfl) (by kernel_rfl) (by kernel_rfl) (below_len (k := 1) (by kernel_rfl) (all1 (.inr (read_again (by kernel_rfl) (Eq.trans (b := inlL scells 3 ss) (by kernel_rfl) (by kernel_rfl)))))) ?_
  refine ald_opF (v := slL 5 3 (([] : List Span) ++ ss).length) (s1 := (((((((St.empty 0).new (.cells [.int .i64 sq, .bool vl, .int .i64 fu, inlL ccells 6 co, inlL kcells 2 rs, inlL scells 3 ss, inlL kcells 2 ws, inlL wcells 4 wr])).new (.cells [.int .i64 0, .bool false, .int .i64 0, .slice none 0 0, .slice none 0 0, .slice none 0 0, .slice none 0 0, .slice none 0 0])).new (.cells [.int .i64 sq, .bool vl, .int .i64 fu, slL 3 6 ((([] : List Code) ++ co).length), inlL kcells 2 rs, inlL scells 3 ss, inlL kcells 2 ws, inlL wcells 4 wr])).new (rowL ccells (([] : List Code) ++ co))).new (rowL kcells (([] : List Key) ++ rs))).new (rowL scells ([] : List Span))).set 5 (rowL scells (([] : List Span) ++ ss))) (by kernel_rfl) (by kernel_rfl) (Eq.trans (b := appendV Try.cfg (((((((St.empty 0).new (.cells [.int .i64 sq, .bool vl, .int .i64 fu, inlL ccells 6 co, inlL kcells 2 rs, inlL scells 3 ss, inlL kcells 2 ws, inlL wcells 4 wr])).new (.cells [.int .i64 0, .bool false, .int .i64 0, .slice none 0 0, .slice none 0 0, .slice none 0 0, .slice none 0 0, .slice none 0 0])).new (.cells [.int .i64 sq, .bool vl, .int .i64 fu, slL 3 6 ((([] : List Code) ++ co).length), inlL kcells 2 rs, inlL scells 3 ss, inlL kcells 2 ws, inlL wcells 4 wr])).new (rowL ccells (([] : List Code) ++ co))).new (rowL kcells (([] : List Key) ++ rs))).new (rowL scells ([] : List Span))) 26 (slL 5 3 (([] : List Span).length)) (inlL scells 3 ss)) (by kernel_rfl) (app_rowL (l := ([] : List Span)) (l2 := ss) (bytes := 24) tokC (by kernel_rfl) scells_len scells_one (by kernel_rfl) (lenV_inl tokC) (firstV_inlL tokC scells_len) (by (try simp only [List.length_cons, List.length_nil, List.length_append]); omega))) (by kernel_rfl) ?_
  refine ald_chunk 3 (by kernel_rfl) ?_
  refine ald_readK (d := (0, St.empty 0, St.empty 0)) (by kernel_rfl) (by kernel_rfl) (by kernel_rfl) (by kernel_rfl) (below_len (k := 2) (by kernel_rfl) (all2 (.inr (read_again (by kernel_rfl) (Eq.trans (b := inlL kcells 2 ws) (by kernel_rfl) (by kernel_rfl)))) (.inr (read_again (by kernel_rfl) (Eq.trans (b := inlL kcells 2 ws) (by kernel_rfl) (by kernel_rfl)))))) ?_
  refine ald_opF (v := slL 6 2 (([] : List Key) ++ ws).length) (s1 := ((((((((St.empty 0).new (.cells [.int .i64 sq, .bool vl, .int .i64 fu, inlL ccells 6 co, inlL kcells 2 rs, inlL scells 3 ss, inlL kcells 2 ws, inlL wcells 4 wr])).new (.cells [.int .i64 0, .bool false, .int .i64 0, .slice none 0 0, .slice none 0 0, .slice none 0 0, .slice none 0 0, .slice none 0 0])).new (.cells [.int .i64 sq, .bool vl, .int .i64 fu, slL 3 6 ((([] : List Code) ++ co).length), inlL kcells 2 rs, inlL scells 3 ss, inlL kcells 2 ws, inlL wcells 4 wr])).new (rowL ccells (([] : List Code) ++ co))).new (rowL kcells (([] : List Key) ++ rs))).new (rowL scells (([] : List Span) ++ ss))).new (rowL kcells ([] : List Key))).set 6 (rowL kcells (([] : List Key) ++ ws))) (by kernel_rfl) (by kernel_rfl) (Eq.trans (b := appendV Try.cfg ((((((((St.empty 0).new (.cells [.int .i64 sq, .bool vl, .int .i64 fu, inlL ccells 6 co, inlL kcells 2 rs, inlL scells 3 ss, inlL kcells 2 ws, inlL wcells 4 wr])).new (.cells [.int .i64 0, .bool false, .int .i64 0, .slice none 0 0, .slice none 0 0, .slice none 0 0, .slice none 0 0, .slice none 0 0])).new (.cells [.int .i64 sq, .bool vl, .int .i64 fu, slL 3 6 ((([] : List Code) ++ co).length), inlL kcells 2 rs, inlL scells 3 ss, inlL kcells 2 ws, inlL wcells 4 wr])).new (rowL ccells (([] : List Code) ++ co))).new (rowL kcells (([] : List Key) ++ rs))).new (rowL scells (([] : List Span) ++ ss))).new (rowL kcells ([] : List Key))) 25 (slL 6 2 (([] : List Key).length)) (inlL kcells 2 ws)) (by kernel_rfl) (app_rowL (l := ([] : List Key)) (l2 := ws) (bytes := 16) tokC (by kernel_rfl) kcells_len kcells_one (by kernel_rfl) (lenV_inl tokC) (firstV_inlL tokC kcells_len) (by (try simp only [List.length_cons, List.length_nil, List.length_append]); omega))) (by kernel_rfl) ?_
  refine ald_chunk 3 (by kernel_rfl) ?_
  refine ald_nil ?_
  repeat' (with_reducible first | refine sk_seq ?_ | refine sk_block ?_ | refine sk_skip ?_ | refine sk_scope ?_)
  refine sk_regionL Try.cfgOk hS ?_
  refine al_chunk 3 (by kernel_rfl) ?_
  refine al_opF (v := slL 7 4 (([] : List Wr) ++ wr).length) (s1 := (((((((((St.empty 0).new (.cells [.int .i64 sq, .bool vl, .int .i64 fu, inlL ccells 6 co, inlL kcells 2 rs, inlL scells 3 ss, inlL kcells 2 ws, inlL wcells 4 wr])).new (.cells [.int .i64 0, .bool false, .int .i64 0, .slice none 0 0, .slice none 0 0, .slice none 0 0, .slice none 0 0, .slice none 0 0])).new (.cells [.int .i64 sq, .bool vl, .int .i64 fu, slL 3 6 ((([] : List Code) ++ co).length), slL 4 2 ((([] : List Key) ++ rs).length), slL 5 3 ((([] : List Span) ++ ss).length), slL 6 2 ((([] : List Key) ++ ws).length), inlL wcells 4 wr])).new (rowL ccells (([] : List Code) ++ co))).new (rowL kcells (([] : List Key) ++ rs))).new (rowL scells (([] : List Span) ++ ss))).new (rowL kcells (([] : List Key) ++ ws))).new (rowL wcells ([] : List Wr))).set 7 (rowL wcells (([] : List Wr) ++ wr))) (by kernel_rfl) (by kernel_rfl) (Eq.trans (b := appendV Try.cfg (((((((((St.empty 0).new (.cells [.int .i64 sq, .bool vl, .int .i64 fu, inlL ccells 6 co, inlL kcells 2 rs, inlL scells 3 ss, inlL kcells 2 ws, inlL wcells 4 wr])).new (.cells [.int .i64 0, .bool false, .int .i64 0, .slice none 0 0, .slice none 0 0, .slice none 0 0, .slice none 0 0, .slice none 0 0])).new (.cells [.int .i64 sq, .bool vl, .int .i64 fu, slL 3 6 ((([] : List Code) ++ co).length), slL 4 2 ((([] : List Key) ++ rs).length), slL 5 3 ((([] : List Span) ++ ss).length), slL 6 2 ((([] : List Key) ++ ws).length), inlL wcells 4 wr])).new (rowL ccells (([] : List Code) ++ co))).new (rowL kcells (([] : List Key) ++ rs))).new (rowL scells (([] : List Span) ++ ss))).new (rowL kcells (([] : List Key) ++ ws))).new (rowL wcells ([] : List Wr))) 29 (slL 7 4 (([] : List Wr).length)) (inlL wcells 4 wr)) (by kernel_rfl) (app_rowL (l := ([] : List Wr)) (l2 := wr) (bytes := 32) tokC (by kernel_rfl) wcells_len wcells_one (by kernel_rfl) (lenV_inl tokC) (firstV_inlL tokC wcells_len) (by (try simp only [List.length_cons, List.length_nil, List.length_append]); omega))) ?_
  refine al_known (by kernel_rfl) ?_
  repeat' (with_reducible first | refine sk_seq ?_ | refine sk_block ?_ | refine sk_skip ?_ | refine sk_scope ?_)
  refine sk_regionK Try.cfgOk hS (by kernel_rfl) ?_
  repeat' (with_reducible first | refine sk_seq ?_ | refine sk_block ?_ | refine sk_skip ?_ | refine sk_scope ?_)
  refine sk_ret ?_
  exact ⟨[.agg #[.int .i64 sq, .bool vl, .int .i64 fu, slL 3 6 ((([] : List Code) ++ co).length), slL 4 2 ((([] : List Key) ++ rs).length), slL 5 3 ((([] : List Span) ++ ss).length), slL 6 2 ((([] : List Key) ++ ws).length), slL 7 4 ((([] : List Wr) ++ wr).length)]], by kernel_rfl, rhoL [3, 4, 5, 6, 7], all0 , new_rho rfl (by kernel_rfl), nodup_rho (ids := [3, 4, 5, 6, 7]) rfl, (show (.agg #[.int .i64 sq, .bool vl, .int .i64 fu, slL 3 6 ((([] : List Code) ++ co).length), slL 4 2 ((([] : List Key) ++ rs).length), slL 5 3 ((([] : List Span) ++ ss).length), slL 6 2 ((([] : List Key) ++ ws).length), slL 7 4 ((([] : List Wr) ++ wr).length)] : Value) = .agg #[.int .i64 sq, .bool vl, .int .i64 fu, slL 3 6 co.length, slL 4 2 rs.length, slL 5 3 ss.length, slL 6 2 ws.length, slL 7 4 wr.length] by rfl), Nat.le_of_ble_eq_true (by kernel_rfl), all5 (Eq.trans (b := some (rowL ccells (([] : List Code) ++ co))) (by kernel_rfl) (congrArg some (show ((rowL ccells (([] : List Code) ++ co)) : AObj) = rowL ccells co by rfl))) (Eq.trans (b := some (rowL kcells (([] : List Key) ++ rs))) (by kernel_rfl) (congrArg some (show ((rowL kcells (([] : List Key) ++ rs)) : AObj) = rowL kcells rs by rfl))) (Eq.trans (b := some (rowL scells (([] : List Span) ++ ss))) (by kernel_rfl) (congrArg some (show ((rowL scells (([] : List Span) ++ ss)) : AObj) = rowL scells ss by rfl))) (Eq.trans (b := some (rowL kcells (([] : List Key) ++ ws))) (by kernel_rfl) (congrArg some (show ((rowL kcells (([] : List Key) ++ ws)) : AObj) = rowL kcells ws by rfl))) (Eq.trans (b := some (rowL wcells (([] : List Wr) ++ wr))) (by kernel_rfl) (congrArg some (show ((rowL wcells (([] : List Wr) ++ wr)) : AObj) = rowL wcells wr by rfl)))⟩
noncomputable def sm_program : SmallN Try.prog 0 9 (Int × Bool × Int × (List Code) × (List Key) × (List Span) × (List Key) × (List Wr)) where
  k := 0
  m := 5
  A := fun z9 ρ => [.agg #[.int .i64 z9.1, .bool z9.2.1, .int .i64 z9.2.2.1, inlL ccells 6 z9.2.2.2.1, inlL kcells 2 z9.2.2.2.2.1, inlL scells 3 z9.2.2.2.2.2.1, inlL kcells 2 z9.2.2.2.2.2.2.1, inlL wcells 4 z9.2.2.2.2.2.2.2]]
  M := fun z9 ρ => objL []
  M1 := fun z9 ρ => objL [rowL ccells z9.2.2.2.1, rowL kcells z9.2.2.2.2.1, rowL scells z9.2.2.2.2.2.1, rowL kcells z9.2.2.2.2.2.2.1, rowL wcells z9.2.2.2.2.2.2.2]
  V := fun z9 ρ => .agg #[.int .i64 z9.1, .bool z9.2.1, .int .i64 z9.2.2.1, slL (ρ 0) 6 z9.2.2.2.1.length, slL (ρ 1) 2 z9.2.2.2.2.1.length, slL (ρ 2) 3 z9.2.2.2.2.2.1.length, slL (ρ 3) 2 z9.2.2.2.2.2.2.1.length, slL (ρ 4) 4 z9.2.2.2.2.2.2.2.length]
  Pre := fun z9 => (z9.2.2.2.1.length ≤ 1000000) ∧ (z9.2.2.2.2.1.length ≤ 1000000) ∧ (z9.2.2.2.2.2.1.length ≤ 1000000) ∧ (z9.2.2.2.2.2.2.1.length ≤ 1000000) ∧ (z9.2.2.2.2.2.2.2.length ≤ 1000000)
  ch := []
  N := 400
  s0 := fun z9 => (St.empty 0)
  hch := by decide
  hsame := fun x ρ => all0 
  hG := rfl
  hn := fun x => rfl
  hwf := fun x => (wf_empty 0)
  hget := fun x => all0 
  noloop := fun x ρ => all0 
  inA := fun x ρ R hR => .cons (.agg (.cons (sub_clo rfl) (.cons (sub_clo rfl) (.cons (sub_clo rfl) (.cons (sub_clo rfl) (.cons (sub_clo rfl) (.cons (sub_clo rfl) (.cons (sub_clo rfl) (.cons (sub_clo rfl) .nil))))))))) .nil
  inM := fun x ρ R hR => all0 
  outM := fun x σ ρ R hR => all5 (OSub.arr (subs_clo (flatL_clo ccells_clo))) (OSub.arr (subs_clo (flatL_clo kcells_clo))) (OSub.arr (subs_clo (flatL_clo scells_clo))) (OSub.arr (subs_clo (flatL_clo kcells_clo))) (OSub.arr (subs_clo (flatL_clo wcells_clo)))
  outV := fun x σ ρ R hR => .agg (.cons (sub_clo rfl) (.cons (sub_clo rfl) (.cons (sub_clo rfl) (.cons (.slice (hR 0 _ (by decide))) (.cons (.slice (hR 1 _ (by decide))) (.cons (.slice (hR 2 _ (by decide))) (.cons (.slice (hR 3 _ (by decide))) (.cons (.slice (hR 4 _ (by decide))) .nil))))))))
  dom := by
    intro x ρ a ha
    cases ha
  sc := by
    rintro ⟨a0, a1, a2, a3, a4, a5, a6, a7⟩ ⟨p0, p1, p2, p3, p4⟩
    exact program_sc a0 a1 a2 a3 a4 a5 a6 a7 p0 p1 p2 p3 p4
  det := by
    rintro ⟨a0, a1, a2, a3, a4, a5, a6, a7⟩ ρ ⟨b0, b1, b2, b3, b4, b5, b6, b7⟩ σ s h hm hm'
    simp only [List.cons.injEq, and_true, Int.natCast_inj, Value.int.injEq, Value.bool.injEq, Value.string.injEq, Value.agg.injEq, Array.mk.injEq, true_and, Value.pointer.injEq, Option.some.injEq, Addr.mk.injEq, Value.func.injEq, AObj.cells.injEq, AObj.arr.injEq, slL_iff, ccells_iff, kcells_iff, scells_iff, wcells_iff] at h
    have q : ∀ a, a < 0 → ρ a = σ a := all0 
    clear hm hm'
    exact ⟨by first | rfl | exact h | (simp_all [Prod.ext_iff]; done) | exact e0, q⟩
  par := by
    intro x ρ σ h
    have h0 := h 0 (by decide); have h1 := h 1 (by decide); have h2 := h 2 (by decide); have h3 := h 3 (by decide); have h4 := h 4 (by decide)
    exact ⟨by first | rfl | simp only [h0, h1, h2, h3, h4], by first | exact fun _ _ => rfl | (intro a ha; simp only [h0, h1, h2, h3, h4])⟩
noncomputable def con_program : Con Try.prog 0 := sm_program.con
theorem con_program_at (sq : Int) (vl : Bool) (fu : Int) (co : List Code) (rs : List Key) (ss : List Span) (ws : List Key) (wr : List Wr) (i0 : Nat) (i1 : Nat) (i2 : Nat) (i3 : Nat) (i4 : Nat) (h0 : co.length ≤ 1000000) (h1 : rs.length ≤ 1000000) (h2 : ss.length ≤ 1000000) (h3 : ws.length ≤ 1000000) (h4 : wr.length ≤ 1000000) (s : St) (hn : nodupB [] = true)  (n0 : i0 = s.n + 0) (n1 : i1 = s.n + 1) (n2 : i2 = s.n + 2) (n3 : i3 = s.n + 3) (n4 : i4 = s.n + 4) : con_program.rel [.agg #[.int .i64 sq, .bool vl, .int .i64 fu, inlL ccells 6 co, inlL kcells 2 rs, inlL scells 3 ss, inlL kcells 2 ws, inlL wcells 4 wr]] s (.agg #[.int .i64 sq, .bool vl, .int .i64 fu, slL i0 6 co.length, slL i1 2 rs.length, slL i2 3 ss.length, slL i3 2 ws.length, slL i4 4 wr.length]) (((((s.new (rowL ccells co)).new (rowL kcells rs)).new (rowL scells ss)).new (rowL kcells ws)).new (rowL wcells wr)) :=
  sm_program.at_ (sq, vl, fu, co, rs, ss, ws, wr) [i0, i1, i2, i3, i4] s _ ⟨h0, h1, h2, h3, h4⟩ rfl hn rfl (all0 ) (new_all (p := fun a b => rhoL [i0, i1, i2, i3, i4] a = s.n + b) (all5 n0 n1 n2 n3 n4)) rfl rfl
theorem recof_fn : Try.cfg.fn 12 = some Try.f12 := by kernel_rfl
set_option maxHeartbeats 4000000 in
set_option maxRecDepth 100000 in
theorem recof_sc (sq : Int) (fu : Int) (ou : Int) (fz : Int) (cm : Bool) (co : List Code) (rs : List Key) (ss : List Span) (ws : List Key) (wr : List Wr) (h0 : co.length ≤ 1000000) (h1 : rs.length ≤ 1000000) (h2 : ss.length ≤ 1000000) (h3 : ws.length ≤ 1000000) (h4 : wr.length ≤ 1000000) : SC Try.prog 0 12 [.int .i64 sq, .agg #[.int .i64 fu, slL 0 6 co.length], .agg #[.int .i64 ou, .int .i64 fz, slL 4 4 wr.length, slL 1 2 rs.length, slL 2 3 ss.length, slL 3 2 ws.length], .bool cm] ((((((St.empty 0).new (rowL ccells co)).new (rowL kcells rs)).new (rowL scells ss)).new (rowL kcells ws)).new (rowL wcells wr)) fun v s' => v = .agg #[.int .i64 sq, .bool (!cm), .int .i64 (bif cm then fu else 0), inlL ccells 6 (bif cm then co else []), inlL kcells 2 (bif cm then rs else []), inlL scells 3 (bif cm then ss else []), inlL kcells 2 (bif cm then ws else []), inlL wcells 4 (bif cm then [] else wr)] ∧ s'.n ≤ 400 ∧ ∀ a, a < 5 → s'.get a = some (objL [rowL ccells co, rowL kcells rs, rowL scells ss, rowL kcells ws, rowL wcells wr] a) := by
  obtain ⟨rc, hS, hC⟩ := rc_con (sound_run Try.cfgOk 300) [con_cloneWrite, con_cloneCode, con_cloneKey, con_cloneSpan] (by kernel_rfl)
  have hC21 := hC con_cloneWrite (.head _)
  have hC22 := hC con_cloneCode (.tail _ (.head _))
  have hC23 := hC con_cloneKey (.tail _ (.tail _ (.head _)))
  have hC24 := hC con_cloneSpan (.tail _ (.tail _ (.tail _ (.head _))))
  cases cm
  ·
    refine sc_iceK (k := 5) (N := 400) (v2 := .agg #[.int .i64 sq, .bool (!false), .int .i64 (bif false then fu else 0), inlL ccells 6 (bif false then co else []), inlL kcells 2 (bif false then rs else []), inlL scells 3 (bif false then ss else []), inlL kcells 2 (bif false then ws else []), inlL wcells 4 (bif false then [] else wr)]) (Ms := objL [rowL ccells co, rowL kcells rs, rowL scells ss, rowL kcells ws, rowL wcells wr]) rfl ?_ (all5 (OSub.arr (subs_clo (flatL_clo ccells_clo))) (OSub.arr (subs_clo (flatL_clo kcells_clo))) (OSub.arr (subs_clo (flatL_clo scells_clo))) (OSub.arr (subs_clo (flatL_clo kcells_clo))) (OSub.arr (subs_clo (flatL_clo wcells_clo))))
    refine sc_body Try.cfgOk recof_fn rfl ?_
    repeat' (with_reducible first | refine sk_seq ?_ | refine sk_block ?_ | refine sk_skip ?_ | refine sk_scope ?_)
    refine sk_regionK Try.cfgOk hS (by kernel_rfl) ?_
    repeat' (with_reducible first | refine sk_seq ?_ | refine sk_block ?_ | refine sk_skip ?_ | refine sk_scope ?_)
    refine sk_regionK Try.cfgOk hS (by kernel_rfl) ?_
    repeat' (with_reducible first | refine sk_seq ?_ | refine sk_block ?_ | refine sk_skip ?_ | refine sk_scope ?_)
    refine sk_true (by kernel_rfl) ?_
    repeat' (with_reducible first | refine sk_seq ?_ | refine sk_block ?_ | refine sk_skip ?_ | refine sk_scope ?_)
    refine sk_regionL Try.cfgOk hS ?_
    refine al_chunk 3 (by kernel_rfl) ?_
    refine al_callH 21 [slL 4 4 wr.length] (inlL wcells 4 wr) _ rfl (fun b h => by cases h) (by kernel_rfl) (by kernel_rfl) (hC21 _ _ _ _ (con_cloneWrite_at wr 4 (by first | omega | (simp; done) | (simp; omega)) _ (by kernel_rfl) (by kernel_rfl) )) ?_
    refine al_known (by kernel_rfl) ?_
    repeat' (with_reducible first | refine sk_seq ?_ | refine sk_block ?_ | refine sk_skip ?_ | refine sk_scope ?_)
    refine sk_ret ?_
    exact ⟨[.agg #[.int .i64 sq, .bool true, .int .i64 0, .slice none 0 0, .slice none 0 0, .slice none 0 0, .slice none 0 0, inlL wcells 4 wr]], by kernel_rfl, .agg (.cons (.same (sub_clo rfl)) (.cons (fs_to (fs_clo rfl) (congrArg Value.bool (by rfl))) (.cons (fs_to (fs_clo rfl) (congrArg (Value.int .i64) (by rfl))) (.cons (fs_to (fs_nilL (f := ccells) (sz := 6) (by decide)) (congrArg (inlL ccells 6) (by rfl))) (.cons (fs_to (fs_nilL (f := kcells) (sz := 2) (by decide)) (congrArg (inlL kcells 2) (by rfl))) (.cons (fs_to (fs_nilL (f := scells) (sz := 3) (by decide)) (congrArg (inlL scells 3) (by rfl))) (.cons (fs_to (fs_nilL (f := kcells) (sz := 2) (by decide)) (congrArg (inlL kcells 2) (by rfl))) (.cons (fs_to (fs_clo rfl) (congrArg (inlL wcells 4) (by rfl))) (.nil))))))))), Nat.le_of_ble_eq_true (by kernel_rfl), all5 (by kernel_rfl) (by kernel_rfl) (by kernel_rfl) (by kernel_rfl) (by kernel_rfl)⟩
  ·
    refine sc_iceK (k := 5) (N := 400) (v2 := .agg #[.int .i64 sq, .bool (!true), .int .i64 (bif true then fu else 0), inlL ccells 6 (bif true then co else []), inlL kcells 2 (bif true then rs else []), inlL scells 3 (bif true then ss else []), inlL kcells 2 (bif true then ws else []), inlL wcells 4 (bif true then [] else wr)]) (Ms := objL [rowL ccells co, rowL kcells rs, rowL scells ss, rowL kcells ws, rowL wcells wr]) rfl ?_ (all5 (OSub.arr (subs_clo (flatL_clo ccells_clo))) (OSub.arr (subs_clo (flatL_clo kcells_clo))) (OSub.arr (subs_clo (flatL_clo scells_clo))) (OSub.arr (subs_clo (flatL_clo kcells_clo))) (OSub.arr (subs_clo (flatL_clo wcells_clo))))
    refine sc_body Try.cfgOk recof_fn rfl ?_
    repeat' (with_reducible first | refine sk_seq ?_ | refine sk_block ?_ | refine sk_skip ?_ | refine sk_scope ?_)
    refine sk_regionK Try.cfgOk hS (by kernel_rfl) ?_
    repeat' (with_reducible first | refine sk_seq ?_ | refine sk_block ?_ | refine sk_skip ?_ | refine sk_scope ?_)
    refine sk_regionK Try.cfgOk hS (by kernel_rfl) ?_
    repeat' (with_reducible first | refine sk_seq ?_ | refine sk_block ?_ | refine sk_skip ?_ | refine sk_scope ?_)
    refine sk_false (by kernel_rfl) ?_
    repeat' (with_reducible first | refine sk_seq ?_ | refine sk_block ?_ | refine sk_skip ?_ | refine sk_scope ?_)
    refine sk_regionL Try.cfgOk hS ?_
    refine al_chunk 2 (by kernel_rfl) ?_
    refine al_callH 22 [slL 0 6 co.length] (inlL ccells 6 co) _ rfl (fun b h => by cases h) (by kernel_rfl) (by kernel_rfl) (hC22 _ _ _ _ (con_cloneCode_at co 0 (by first | omega | (simp; done) | (simp; omega)) _ (by kernel_rfl) (by kernel_rfl) )) ?_
    refine al_known (by kernel_rfl) ?_
    repeat' (with_reducible first | refine sk_seq ?_ | refine sk_block ?_ | refine sk_skip ?_ | refine sk_scope ?_)
    refine sk_drawL Try.cfgOk hS ?_
    refine ald_chunk 3 (by kernel_rfl) ?_
    refine ald_callH 23 [slL 1 2 rs.length] (inlL kcells 2 rs) _ rfl (fun b h => by cases h) (by kernel_rfl) (by kernel_rfl) (hC23 _ _ _ _ (con_cloneKey_at rs 1 (by first | omega | (simp; done) | (simp; omega)) _ (by kernel_rfl) (by kernel_rfl) )) (by kernel_rfl) ?_
    refine ald_chunk 2 (by kernel_rfl) ?_
    refine ald_readK (d := (0, St.empty 0, St.empty 0)) (by kernel_rfl) (by kernel_rfl) (by kernel_rfl) (by kernel_rfl) (below_len (k := 1) (by kernel_rfl) (all1 (.inr (read_again (by kernel_rfl) (Eq.trans (b := slL 2 3 ss.length) (by kernel_rfl) (by kernel_rfl)))))) ?_
    refine ald_callH 24 [slL 2 3 ss.length] (inlL scells 3 ss) _ rfl (fun b h => by cases h) (by kernel_rfl) (by kernel_rfl) (hC24 _ _ _ _ (con_cloneSpan_at ss 2 (by first | omega | (simp; done) | (simp; omega)) _ (by kernel_rfl) (by kernel_rfl) )) (by kernel_rfl) ?_
    refine ald_chunk 2 (by kernel_rfl) ?_
    refine ald_readK (d := (0, St.empty 0, St.empty 0)) (by kernel_rfl) (by kernel_rfl) (by kernel_rfl) (by kernel_rfl) (below_len (k := 2) (by kernel_rfl) (all2 (.inr (read_again (by kernel_rfl) (Eq.trans (b := slL 3 2 ws.length) (by kernel_rfl) (by kernel_rfl)))) (.inr (read_again (by kernel_rfl) (Eq.trans (b := slL 3 2 ws.length) (by kernel_rfl) (by kernel_rfl)))))) ?_
    refine ald_callH 23 [slL 3 2 ws.length] (inlL kcells 2 ws) _ rfl (fun b h => by cases h) (by kernel_rfl) (by kernel_rfl) (hC23 _ _ _ _ (con_cloneKey_at ws 3 (by first | omega | (simp; done) | (simp; omega)) _ (by kernel_rfl) (by kernel_rfl) )) (by kernel_rfl) ?_
    refine ald_chunk 3 (by kernel_rfl) ?_
    refine ald_nil ?_
    repeat' (with_reducible first | refine sk_seq ?_ | refine sk_block ?_ | refine sk_skip ?_ | refine sk_scope ?_)
    refine sk_regionK Try.cfgOk hS (by kernel_rfl) ?_
    repeat' (with_reducible first | refine sk_seq ?_ | refine sk_block ?_ | refine sk_skip ?_ | refine sk_scope ?_)
    refine sk_ret ?_
    exact ⟨[.agg #[.int .i64 sq, .bool false, .int .i64 fu, inlL ccells 6 co, inlL kcells 2 rs, inlL scells 3 ss, inlL kcells 2 ws, .slice none 0 0]], by kernel_rfl, .agg (.cons (.same (sub_clo rfl)) (.cons (fs_to (fs_clo rfl) (congrArg Value.bool (by rfl))) (.cons (fs_to (fs_clo rfl) (congrArg (Value.int .i64) (by rfl))) (.cons (fs_to (fs_clo rfl) (congrArg (inlL ccells 6) (by rfl))) (.cons (fs_to (fs_clo rfl) (congrArg (inlL kcells 2) (by rfl))) (.cons (fs_to (fs_clo rfl) (congrArg (inlL scells 3) (by rfl))) (.cons (fs_to (fs_clo rfl) (congrArg (inlL kcells 2) (by rfl))) (.cons (fs_to (fs_nilL (f := wcells) (sz := 4) (by decide)) (congrArg (inlL wcells 4) (by rfl))) (.nil))))))))), Nat.le_of_ble_eq_true (by kernel_rfl), all5 (by kernel_rfl) (by kernel_rfl) (by kernel_rfl) (by kernel_rfl) (by kernel_rfl)⟩
noncomputable def sm_recof : Small Try.prog 0 12 (Int × Int × Int × Int × Bool × (List Code) × (List Key) × (List Span) × (List Key) × (List Wr)) where
  k := 5
  A := fun z9 ρ => [.int .i64 z9.1, .agg #[.int .i64 z9.2.1, slL (ρ 0) 6 z9.2.2.2.2.2.1.length], .agg #[.int .i64 z9.2.2.1, .int .i64 z9.2.2.2.1, slL (ρ 4) 4 z9.2.2.2.2.2.2.2.2.2.length, slL (ρ 1) 2 z9.2.2.2.2.2.2.1.length, slL (ρ 2) 3 z9.2.2.2.2.2.2.2.1.length, slL (ρ 3) 2 z9.2.2.2.2.2.2.2.2.1.length], .bool z9.2.2.2.2.1]
  M := fun z9 ρ => objL [rowL ccells z9.2.2.2.2.2.1, rowL kcells z9.2.2.2.2.2.2.1, rowL scells z9.2.2.2.2.2.2.2.1, rowL kcells z9.2.2.2.2.2.2.2.2.1, rowL wcells z9.2.2.2.2.2.2.2.2.2]
  M1 := fun z9 ρ => objL [rowL ccells z9.2.2.2.2.2.1, rowL kcells z9.2.2.2.2.2.2.1, rowL scells z9.2.2.2.2.2.2.2.1, rowL kcells z9.2.2.2.2.2.2.2.2.1, rowL wcells z9.2.2.2.2.2.2.2.2.2]
  V := fun z9 ρ => .agg #[.int .i64 z9.1, .bool (!z9.2.2.2.2.1), .int .i64 (bif z9.2.2.2.2.1 then z9.2.1 else 0), inlL ccells 6 (bif z9.2.2.2.2.1 then z9.2.2.2.2.2.1 else []), inlL kcells 2 (bif z9.2.2.2.2.1 then z9.2.2.2.2.2.2.1 else []), inlL scells 3 (bif z9.2.2.2.2.1 then z9.2.2.2.2.2.2.2.1 else []), inlL kcells 2 (bif z9.2.2.2.2.1 then z9.2.2.2.2.2.2.2.2.1 else []), inlL wcells 4 (bif z9.2.2.2.2.1 then [] else z9.2.2.2.2.2.2.2.2.2)]
  Pre := fun z9 => (z9.2.2.2.2.2.1.length ≤ 1000000) ∧ (z9.2.2.2.2.2.2.1.length ≤ 1000000) ∧ (z9.2.2.2.2.2.2.2.1.length ≤ 1000000) ∧ (z9.2.2.2.2.2.2.2.2.1.length ≤ 1000000) ∧ (z9.2.2.2.2.2.2.2.2.2.length ≤ 1000000)
  ch := []
  N := 400
  s0 := fun z9 => ((((((St.empty 0).new (rowL ccells z9.2.2.2.2.2.1)).new (rowL kcells z9.2.2.2.2.2.2.1)).new (rowL scells z9.2.2.2.2.2.2.2.1)).new (rowL kcells z9.2.2.2.2.2.2.2.2.1)).new (rowL wcells z9.2.2.2.2.2.2.2.2.2))
  hch := by decide
  hsame := fun x ρ => all5 (fun _ => rfl) (fun _ => rfl) (fun _ => rfl) (fun _ => rfl) (fun _ => rfl)
  hG := rfl
  hn := fun x => rfl
  hwf := fun x => ((((((wf_empty 0).new _).new _).new _).new _).new _)
  hget := fun x => all5 (by kernel_rfl) (by kernel_rfl) (by kernel_rfl) (by kernel_rfl) (by kernel_rfl)
  noloop := fun x ρ => all5 (fun h => h.elim) (fun h => h.elim) (fun h => h.elim) (fun h => h.elim) (fun h => h.elim)
  inA := fun x ρ R hR => .cons (sub_clo rfl) (.cons (.agg (.cons (sub_clo rfl) (.cons (.slice (hR 0 _ (by decide))) .nil))) (.cons (.agg (.cons (sub_clo rfl) (.cons (sub_clo rfl) (.cons (.slice (hR 4 _ (by decide))) (.cons (.slice (hR 1 _ (by decide))) (.cons (.slice (hR 2 _ (by decide))) (.cons (.slice (hR 3 _ (by decide))) .nil))))))) (.cons (sub_clo rfl) .nil)))
  inM := fun x ρ R hR => all5 (OSub.arr (subs_clo (flatL_clo ccells_clo))) (OSub.arr (subs_clo (flatL_clo kcells_clo))) (OSub.arr (subs_clo (flatL_clo scells_clo))) (OSub.arr (subs_clo (flatL_clo kcells_clo))) (OSub.arr (subs_clo (flatL_clo wcells_clo)))
  outM := fun x ρ R hR => all5 (OSub.arr (subs_clo (flatL_clo ccells_clo))) (OSub.arr (subs_clo (flatL_clo kcells_clo))) (OSub.arr (subs_clo (flatL_clo scells_clo))) (OSub.arr (subs_clo (flatL_clo kcells_clo))) (OSub.arr (subs_clo (flatL_clo wcells_clo)))
  outV := fun x ρ R hR => .agg (.cons (sub_clo rfl) (.cons (sub_clo rfl) (.cons (sub_clo rfl) (.cons (sub_clo rfl) (.cons (sub_clo rfl) (.cons (sub_clo rfl) (.cons (sub_clo rfl) (.cons (sub_clo rfl) .nil))))))))
  dom := by
    intro x ρ a ha
    cases ha
  sc := by
    rintro ⟨a0, a1, a2, a3, a4, a5, a6, a7, a8, a9⟩ ⟨p0, p1, p2, p3, p4⟩
    exact recof_sc a0 a1 a2 a3 a4 a5 a6 a7 a8 a9 p0 p1 p2 p3 p4
  det := by
    rintro ⟨a0, a1, a2, a3, a4, a5, a6, a7, a8, a9⟩ ρ ⟨b0, b1, b2, b3, b4, b5, b6, b7, b8, b9⟩ σ s h hm hm'
    simp only [List.cons.injEq, and_true, Int.natCast_inj, Value.int.injEq, Value.bool.injEq, Value.string.injEq, Value.agg.injEq, Array.mk.injEq, true_and, Value.pointer.injEq, Option.some.injEq, Addr.mk.injEq, Value.func.injEq, AObj.cells.injEq, AObj.arr.injEq, slL_iff, ccells_row, kcells_row, scells_row, kcells_row, wcells_row] at h
    have q0 : ρ 0 = σ 0 := by simp_all
    have e0 := (hm 0 (by decide)).symm.trans ((congrArg s.get q0).trans (hm' 0 (by decide)))
    simp only [objL, List.getD_cons_zero, List.getD_cons_succ, List.cons.injEq, and_true, Int.natCast_inj, Value.int.injEq, Value.bool.injEq, Value.string.injEq, Value.agg.injEq, Array.mk.injEq, true_and, Value.pointer.injEq, Option.some.injEq, Addr.mk.injEq, Value.func.injEq, AObj.cells.injEq, AObj.arr.injEq, slL_iff, ccells_row, kcells_row, scells_row, kcells_row, wcells_row] at e0
    have q4 : ρ 4 = σ 4 := by simp_all
    have e4 := (hm 4 (by decide)).symm.trans ((congrArg s.get q4).trans (hm' 4 (by decide)))
    simp only [objL, List.getD_cons_zero, List.getD_cons_succ, List.cons.injEq, and_true, Int.natCast_inj, Value.int.injEq, Value.bool.injEq, Value.string.injEq, Value.agg.injEq, Array.mk.injEq, true_and, Value.pointer.injEq, Option.some.injEq, Addr.mk.injEq, Value.func.injEq, AObj.cells.injEq, AObj.arr.injEq, slL_iff, ccells_row, kcells_row, scells_row, kcells_row, wcells_row] at e4
    have q1 : ρ 1 = σ 1 := by simp_all
    have e1 := (hm 1 (by decide)).symm.trans ((congrArg s.get q1).trans (hm' 1 (by decide)))
    simp only [objL, List.getD_cons_zero, List.getD_cons_succ, List.cons.injEq, and_true, Int.natCast_inj, Value.int.injEq, Value.bool.injEq, Value.string.injEq, Value.agg.injEq, Array.mk.injEq, true_and, Value.pointer.injEq, Option.some.injEq, Addr.mk.injEq, Value.func.injEq, AObj.cells.injEq, AObj.arr.injEq, slL_iff, ccells_row, kcells_row, scells_row, kcells_row, wcells_row] at e1
    have q2 : ρ 2 = σ 2 := by simp_all
    have e2 := (hm 2 (by decide)).symm.trans ((congrArg s.get q2).trans (hm' 2 (by decide)))
    simp only [objL, List.getD_cons_zero, List.getD_cons_succ, List.cons.injEq, and_true, Int.natCast_inj, Value.int.injEq, Value.bool.injEq, Value.string.injEq, Value.agg.injEq, Array.mk.injEq, true_and, Value.pointer.injEq, Option.some.injEq, Addr.mk.injEq, Value.func.injEq, AObj.cells.injEq, AObj.arr.injEq, slL_iff, ccells_row, kcells_row, scells_row, kcells_row, wcells_row] at e2
    have q3 : ρ 3 = σ 3 := by simp_all
    have e3 := (hm 3 (by decide)).symm.trans ((congrArg s.get q3).trans (hm' 3 (by decide)))
    simp only [objL, List.getD_cons_zero, List.getD_cons_succ, List.cons.injEq, and_true, Int.natCast_inj, Value.int.injEq, Value.bool.injEq, Value.string.injEq, Value.agg.injEq, Array.mk.injEq, true_and, Value.pointer.injEq, Option.some.injEq, Addr.mk.injEq, Value.func.injEq, AObj.cells.injEq, AObj.arr.injEq, slL_iff, ccells_row, kcells_row, scells_row, kcells_row, wcells_row] at e3
    have q : ∀ a, a < 5 → ρ a = σ a := all5 q0 q1 q2 q3 q4
    clear hm hm'
    exact ⟨by first | rfl | (simp_all [Prod.ext_iff]; done) | exact e0, q⟩
  par := by
    intro x ρ σ h
    have h0 := h 0 (by decide); have h1 := h 1 (by decide); have h2 := h 2 (by decide); have h3 := h 3 (by decide); have h4 := h 4 (by decide)
    exact ⟨by first | rfl | simp only [h0, h1, h2, h3, h4], by first | exact fun _ _ => rfl | (intro a ha; simp only [h0, h1, h2, h3, h4])⟩
noncomputable def con_recof : Con Try.prog 0 := sm_recof.con
theorem con_recof_at (sq : Int) (fu : Int) (ou : Int) (fz : Int) (cm : Bool) (co : List Code) (rs : List Key) (ss : List Span) (ws : List Key) (wr : List Wr) (i0 : Nat) (i1 : Nat) (i2 : Nat) (i3 : Nat) (i4 : Nat) (h0 : co.length ≤ 1000000) (h1 : rs.length ≤ 1000000) (h2 : ss.length ≤ 1000000) (h3 : ws.length ≤ 1000000) (h4 : wr.length ≤ 1000000) (s : St) (hn : nodupB [i0, i1, i2, i3, i4] = true) (m0 : s.get i0 = some (rowL ccells co)) (m1 : s.get i1 = some (rowL kcells rs)) (m2 : s.get i2 = some (rowL scells ss)) (m3 : s.get i3 = some (rowL kcells ws)) (m4 : s.get i4 = some (rowL wcells wr)) : con_recof.rel [.int .i64 sq, .agg #[.int .i64 fu, slL i0 6 co.length], .agg #[.int .i64 ou, .int .i64 fz, slL i4 4 wr.length, slL i1 2 rs.length, slL i2 3 ss.length, slL i3 2 ws.length], .bool cm] s (.agg #[.int .i64 sq, .bool (!cm), .int .i64 (bif cm then fu else 0), inlL ccells 6 (bif cm then co else []), inlL kcells 2 (bif cm then rs else []), inlL scells 3 (bif cm then ss else []), inlL kcells 2 (bif cm then ws else []), inlL wcells 4 (bif cm then [] else wr)]) s :=
  sm_recof.at_ (sq, fu, ou, fz, cm, co, rs, ss, ws, wr) [i0, i1, i2, i3, i4] s _ ⟨h0, h1, h2, h3, h4⟩ rfl hn rfl (all5 m0 m1 m2 m3 m4) rfl rfl
end Go.Proofs.Ytegigohhnplomaa