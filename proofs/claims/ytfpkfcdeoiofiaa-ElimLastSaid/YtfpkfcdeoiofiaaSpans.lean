/- Feet are put together. -/
import Derived.Test.YtfpkfcdeoiofiaaCanon
set_option linter.unusedVariables false
set_option linter.unusedSimpArgs false
set_option linter.unnecessarySimpa false
namespace Go.Proofs.Ytfpkfcdeoiofiaa
open Go.Ai
theorem keysF_fn : Try.cfg.fn 36 = some Try.f36 := by kernel_rfl
set_option maxHeartbeats 4000000 in
set_option maxRecDepth 100000 in
theorem keysF_sc (l : List Key) (h0 : l.length ≤ 1000000) : SC Try.prog 0 36 [slL 0 2 l.length] ((St.empty 0).new (rowL kcells l)) fun v s' => v = ssL 0 2 0 ((dd (srt cmpK l)).length) l.length ∧ s'.n ≤ 400 ∧ ∀ a, a < 1 → s'.get a = some (objL [rowM kcells (l.length * 2) (dd (srt cmpK l) ++ List.replicate (l.length - (dd (srt cmpK l)).length) (0, 0))] a) := by
  obtain ⟨rc, hS, hC⟩ := rc_con (sound_run Try.cfgOk 300) [con_sortK, con_compactK] (by kernel_rfl)
  have hC43 := hC con_sortK (.head _)
  have hC44 := hC con_compactK (.tail _ (.head _))
  refine sc_body Try.cfgOk keysF_fn rfl ?_
  refine sk_seq ?_
  refine kK Try.cfgOk hS ?_
  refine sk_seq ?_
  refine sk_regionL Try.cfgOk hS ?_
  refine aK 1 ?_
  refine aC 43 [slL 0 2 l.length, .func (.func 30) #[] #[]] (.tuple #[]) _ rfl (hC43 _ _ _ _ (con_sortK_at l 0 (by first | omega | exact (srt_len _).symm) _ (by kernel_rfl) (by kernel_rfl) )) ?_
  refine al_nil ?_
  refine sk_seq ?_
  refine sk_regionL Try.cfgOk hS ?_
  refine aK 1 ?_
  refine aC 44 [slL 0 2 l.length] (ssL 0 2 0 ((dd (srt cmpK l)).length) l.length) _ rfl (hC44 _ _ _ _ (con_compactK_at l.length (srt cmpK l) 0 (by first | omega | exact (srt_len _).symm) (by first | omega | exact (srt_len _).symm) _ (by kernel_rfl) (by kernel_rfl) )) ?_
  refine aN ?_
  refine sk_ret ?_
  exact ⟨[ssL 0 2 0 ((dd (srt cmpK l)).length) l.length], by kernel_rfl, rfl, Nat.le_of_ble_eq_true (by kernel_rfl), all1 (by kernel_rfl)⟩
noncomputable def sm_keysF : Small Try.prog 0 36 ((List Key)) where
  k := 1
  A := fun z9 ρ => [slL (ρ 0) 2 z9.length]
  M := fun z9 ρ => objL [rowL kcells z9]
  M1 := fun z9 ρ => objL [rowM kcells (z9.length * 2) (dd (srt cmpK z9) ++ List.replicate (z9.length - (dd (srt cmpK z9)).length) (0, 0))]
  V := fun z9 ρ => ssL (ρ 0) 2 0 ((dd (srt cmpK z9)).length) z9.length
  Pre := fun z9 => (z9.length ≤ 1000000)
  ch := [0]
  N := 400
  s0 := fun z9 => ((St.empty 0).new (rowL kcells z9))
  hch := by decide
  hsame := fun x ρ => all1 (fun h => absurd (by decide) h)
  hG := rfl
  hn := fun x => rfl
  hwf := fun x => ((wf_empty 0).new _)
  hget := fun x => all1 (by kernel_rfl)
  noloop := fun x ρ => all1 (fun h => h.elim)
  inA := fun x ρ R hR => .cons (.slice (hR 0 _ (by decide))) .nil
  inM := fun x ρ R hR => all1 (OSub.arr (subs_clo (flatL_clo kcells_clo)))
  outM := fun x ρ R hR => all1 (OSub.arr (subs_clo (flatL_clo kcells_clo)))
  outV := fun x ρ R hR => .slice (hR 0 _ (by decide))
  dom := by
    intro x ρ a ha
    obtain rfl := List.mem_singleton.1 ha
    exact .inr fun h => h
  sc := by
    rintro x p0
    exact keysF_sc x p0
  det := by
    rintro x ρ y σ s h hm hm'
    simp only [List.cons.injEq, and_true, Int.natCast_inj, UInt8.toNat_inj, Value.int.injEq, Value.bool.injEq, Value.string.injEq, Value.agg.injEq, Array.mk.injEq, true_and, Value.pointer.injEq, Option.some.injEq, Addr.mk.injEq, Value.func.injEq, AObj.cells.injEq, AObj.arr.injEq, slL_iff, kcells_row] at h
    have q0 : ρ 0 = σ 0 := by simp_all
    have e0 := (hm 0 (by decide)).symm.trans ((congrArg s.get q0).trans (hm' 0 (by decide)))
    simp only [objL, List.getD_cons_zero, List.getD_cons_succ, List.cons.injEq, and_true, Int.natCast_inj, UInt8.toNat_inj, Value.int.injEq, Value.bool.injEq, Value.string.injEq, Value.agg.injEq, Array.mk.injEq, true_and, Value.pointer.injEq, Option.some.injEq, Addr.mk.injEq, Value.func.injEq, AObj.cells.injEq, AObj.arr.injEq, slL_iff, kcells_row] at e0
    have q : ∀ a, a < 1 → ρ a = σ a := all1 q0
    clear hm hm'
    exact ⟨by first | rfl | (simp_all [Prod.ext_iff]; done) | exact e0, q⟩
  par := by
    intro x ρ σ h
    have h0 := h 0 (by decide)
    exact ⟨by first | rfl | simp only [h0], by first | exact fun _ _ => rfl | (intro a ha; simp only [h0])⟩
noncomputable def con_keysF : Con Try.prog 0 := sm_keysF.con
theorem con_keysF_at (l : List Key) (i0 : Nat) (h0 : l.length ≤ 1000000) (s : St) (hn : nodupB [i0] = true) (m0 : s.get i0 = some (rowL kcells l)) : con_keysF.rel [slL i0 2 l.length] s (ssL i0 2 0 ((dd (srt cmpK l)).length) l.length) (s.set i0 (rowM kcells (l.length * 2) (dd (srt cmpK l) ++ List.replicate (l.length - (dd (srt cmpK l)).length) (0, 0)))) :=
  sm_keysF.at_ l [i0] s _ h0 rfl hn rfl (all1 m0) rfl rfl
theorem spansF_fn : Try.cfg.fn 37 = some Try.f37 := by kernel_rfl
set_option maxHeartbeats 4000000 in
set_option maxRecDepth 100000 in
theorem spansF_sc (l : List Span) (h0 : l.length ≤ 1000000) : SC Try.prog 0 37 [slL 0 3 l.length] ((St.empty 0).new (rowL scells l)) fun v s' => v = inlL scells 3 (spF (srt cmpS l)) ∧ s'.n ≤ 400 ∧ ∀ a, a < 1 → s'.get a = some (objL [rowM scells (l.length * 3) (srt cmpS l)] a) := by
  obtain ⟨rc, hS, hC⟩ := rc_con (sound_run Try.cfgOk 300) [con_sortS, con_apart] (by kernel_rfl)
  have hC45 := hC con_sortS (.head _)
  have hC25 := hC con_apart (.tail _ (.head _))
  refine sc_iceK (k := 1) (N := 400) (v2 := inlL scells 3 (spF (srt cmpS l))) (Ms := objL [rowM scells (l.length * 3) (srt cmpS l)]) rfl ?_ (all1 (OSub.arr (subs_clo (flatL_clo scells_clo))))
  refine sc_body Try.cfgOk spansF_fn rfl ?_
  refine sk_seq ?_
  refine kK Try.cfgOk hS ?_
  refine sk_seq ?_
  refine sk_regionL Try.cfgOk hS ?_
  refine aK 1 ?_
  refine aC 45 [slL 0 3 l.length, .func (.func 24) #[] #[]] (.tuple #[]) _ rfl (hC45 _ _ _ _ (con_sortS_at l 0 (by first | omega | (simp; done) | (simp; omega)) _ (by kernel_rfl) (by kernel_rfl) )) ?_
  refine al_nil ?_
  refine sk_seq ?_
  refine kK Try.cfgOk hS ?_
  refine sk_seq (sk_seq ?_)
  refine kK Try.cfgOk hS ?_
  refine sk_block ?_
  refine sk_live 53 [(3, .slice none 0 0), (9, slL 0 3 l.length), (10, .int .i64 ((l.length : Nat) : Int)), (11, .int .i64 0)] (by kernel_rfl) ⟨by kernel_rfl, by kernel_rfl, by kernel_rfl, by kernel_rfl, trivial⟩ fun m1 => ?_
  refine sk_st ((St.empty 0).new (rowM scells (l.length * 3) (srt cmpS l))) (by kernel_rfl) ?_
  refine virt_at (n := 53) (t := 3) (sz := 3) [(3, slL 1 3 0), (9, slL 0 3 l.length), (10, .int .i64 ((l.length : Nat) : Int)), (11, .int .i64 0)] (by decide) ((wf_empty 0).new _) (by kernel_rfl) (by kernel_rfl) (by kernel_rfl) fun m1v => ?_
  refine sk_live 53 ((fun a : Nat × (List Span) × Nat => [(3, slL 1 3 a.2.1.length), (9, slL 0 3 l.length), (10, .int .i64 ((l.length : Nat) : Int)), (11, .int .i64 ((a.1 : Nat) : Int))]) (0, ([] : List Span), 0)) (by kernel_rfl) ⟨by kernel_rfl, by kernel_rfl, by kernel_rfl, by kernel_rfl, trivial⟩ fun m2 => ?_
  refine sk_st ((fun a : Nat × (List Span) × Nat => (((St.empty 0).new (rowM scells (l.length * 3) (srt cmpS l))).new (rowM scells a.2.2 a.2.1))) (0, ([] : List Span), 0)) (by kernel_rfl) ?_
  refine (sk_while (k := 2) (N := 400) (live := (fun a : Nat × (List Span) × Nat => [(3, slL 1 3 a.2.1.length), (9, slL 0 3 l.length), (10, .int .i64 ((l.length : Nat) : Int)), (11, .int .i64 ((a.1 : Nat) : Int))])) (M := (fun a : Nat × (List Span) × Nat => (((St.empty 0).new (rowM scells (l.length * 3) (srt cmpS l))).new (rowM scells a.2.2 a.2.1)))) (fun a : Nat × (List Span) × Nat => (a.1 ≤ l.length) ∧ (a.2.1 = spF ((srt cmpS l).take a.1)) ∧ (a.2.2 ≤ a.2.1.length * 3) ∧ (a.2.1.length ≤ a.1) ∧ ((srt cmpS l).length = l.length)) (fun a : Nat × (List Span) × Nat => l.length - a.1) (fun (a : Nat × (List Span) × Nat) (o : Out) (lv : List (Nat × Value)) (M : St) => (o = .exit 0 ∧ (a.1 = l.length) ∧ lv = [(3, slL 1 3 a.2.1.length), (9, slL 0 3 l.length), (10, .int .i64 ((l.length : Nat) : Int)), (11, .int .i64 ((a.1 : Nat) : Int))] ∧ M = (((St.empty 0).new (rowM scells (l.length * 3) (srt cmpS l))).new (rowM scells a.2.2 a.2.1)))) (Nat.zero_le _) (fun a ha => ?_) (fun a ha => ?_) (fun a m ha => ?_) (fun a m ha => ?_) (0, ([] : List Span), 0) m2 ?_).up ?_
  · exact ⟨by kernel_rfl, (((wf_empty 0).new _).new _), (selfs (all_cons (o := rowM scells (l.length * 3) (srt cmpS l)) (by kernel_rfl) (OSub.arr (subs_clo (flatL_clo scells_clo))) (all_cons (o := rowM scells a.2.2 a.2.1) (by kernel_rfl) (OSub.arr (subs_clo (flatL_clo scells_clo))) (all_none))))⟩
  · exact ⟨.slice ⟨by decide, rfl⟩, .slice ⟨by decide, rfl⟩, sub_clo rfl, sub_clo rfl, trivial⟩
  · exact ⟨by kernel_rfl, by kernel_rfl, by kernel_rfl, by kernel_rfl, trivial⟩
  · obtain ⟨i, o, mv⟩ := a
    obtain ⟨i0, i1, i2, i3, i4⟩ := ha
    dsimp only at i0 i1 i2 i3 i4
    refine sk_seq ?_
    refine sk_regionL Try.cfgOk hS ?_
    refine aT (fun h3 => ?_) (fun h3 => ?_)
    · have c4e : (decide ((((i : Nat) : Int) : Int) < ((l.length : Nat) : Int))) = true := Eq.trans (by kernel_rfl) h3
      clear h3
      have c4 : (((i : Nat) : Int) : Int) < ((l.length : Nat) : Int) := of_decide_eq_true c4e
      clear c4e
      refine al_nil ?_
      refine sk_seq ?_
      refine kT ?_
      refine sk_skip (sk_seq (sk_block (sk_seq ?_)))
      refine sk_regionL Try.cfgOk hS ?_
      refine aM (indexAddrV Try.cfg 33 (slL 0 3 l.length) (.int .i64 ((i : Nat) : Int))) (.pointer (some ⟨0, i * 3, some (l.length * 3)⟩)) (idx_rowL (by kernel_rfl) (by omega)) ?_
      have hx5l : i < (srt cmpS l).length := by omega
      refine Exists.elim (get_ex hx5l) fun x5 hx5 => ?_
      clear hx5l
      refine aM (loadV Try.cfg (((St.empty 0).new (rowM scells (l.length * 3) (srt cmpS l))).new (rowM scells mv o)) 66 (.pointer (some ⟨0, i * 3, some (l.length * 3)⟩))) (.agg #[.int .i64 x5.1, .int .i64 x5.2.1, .int .i64 x5.2.2]) (load_rowM (l := (srt cmpS l)) (mv := l.length * 3) (n := l.length) (by kernel_rfl) scells_len (by kernel_rfl) (by omega) (by omega) hx5) ?_
      refine aN ?_
      refine sk_seq ?_
      refine sk_regionL Try.cfgOk hS ?_
      refine aK 2 ?_
      refine aE (v := .int .i64 (IntKind.wrap .i64 (((o.length : Nat) : Int) - 1))) (.int .i64 (((o.length : Nat) : Int) - 1)) (congrArg (Value.int .i64) (wrap64 (by omega))) ?_
      refine aN ?_
      refine sk_block (sk_seq ?_)
      refine sk_regionL Try.cfgOk hS ?_
      refine aK 4 ?_
      refine aT (fun h6 => ?_) (fun h6 => ?_)
      · have c7e : (decide ((x5.2.1 : Int) > x5.2.2)) = true := Eq.trans (by kernel_rfl) h6
        clear h6
        have c7 : (x5.2.1 : Int) > x5.2.2 := of_decide_eq_true c7e
        clear c7e
        refine aN ?_
        refine kT ?_
        refine sk_skip ?_
        refine sk_regionL Try.cfgOk hS ?_
        refine aE (v := .int .i64 (IntKind.wrap .i64 (((i : Nat) : Int) + 1))) (.int .i64 ((i + 1 : Nat) : Int)) (congrArg (Value.int .i64) (wrap_to (by omega) (by omega))) ?_
        refine aN ?_
        refine .inl ⟨(i + 1, o, mv), rfl, ⟨?_, ?_, ?_, ?_, ?_⟩, ?_, ⟨by kernel_rfl, ⟨by kernel_rfl, by kernel_rfl, by kernel_rfl, by kernel_rfl, trivial⟩, ⟨.slice ⟨by decide, rfl⟩, .slice ⟨by decide, rfl⟩, sub_clo rfl, sub_clo rfl, trivial⟩, Nat.le_of_ble_eq_true (by kernel_rfl), ⟨by kernel_rfl, (((wf_empty 0).new _).new _), (selfs (all_cons (o := rowM scells (l.length * 3) (srt cmpS l)) (by kernel_rfl) (OSub.arr (subs_clo (flatL_clo scells_clo))) (all_cons (o := rowM scells mv o) (by kernel_rfl) (OSub.arr (subs_clo (flatL_clo scells_clo))) (all_none))))⟩, mem_all (by kernel_rfl)⟩⟩
        · (try dsimp only); omega
        · (try dsimp only); rw [spF_succ (by assumption), ← i1]; first | exact (spStep_e (by omega)).symm | exact (spStep_0 (by omega) (by omega)).symm | exact (spStep_a (by omega) (by assumption) (by assumption)).symm | exact (spStep_m (by omega) (by assumption) (by assumption)).symm
        · (try dsimp only); (try simp only [List.length_append, List.length_set, List.length_cons, List.length_nil]); omega
        · (try dsimp only); (try simp only [List.length_append, List.length_set, List.length_cons, List.length_nil]); omega
        · (try dsimp only); assumption
        · dsimp only; omega
      · have c7e : (decide ((x5.2.1 : Int) > x5.2.2)) = false := Eq.trans (by kernel_rfl) h6
        clear h6
        have c7 : ¬ (x5.2.1 : Int) > x5.2.2 := of_decide_eq_false c7e
        clear c7e
        refine aN ?_
        refine kF ?_
        refine sk_seq ?_
        refine sk_drawL Try.cfgOk hS ?_
        refine dK 1 ?_
        refine dT (fun h8 => ?_) (fun h8 => ?_)
        · have c9e : (decide (((((o.length : Nat) : Int) - 1) : Int) < 0)) = true := Eq.trans (by kernel_rfl) h8
          clear h8
          have c9 : ((((o.length : Nat) : Int) - 1) : Int) < 0 := of_decide_eq_true c9e
          clear c9e
          refine dK 9 ?_
          refine ald_nil ?_
          refine kT ?_
          refine sk_regionL Try.cfgOk hS ?_
          refine aK 3 ?_
          refine al_opF (v := slL 1 3 (o ++ [(x5.1, x5.2.1, x5.2.2)]).length) (s1 := (((((St.empty 0).new (rowM scells (l.length * 3) (srt cmpS l))).new (rowM scells mv o)).new (.cells [.int .i64 x5.1, .int .i64 x5.2.1, .int .i64 x5.2.2])).new (.arr [.int .i64 x5.1, .int .i64 x5.2.1, .int .i64 x5.2.2] 0 false)).set 1 (rowM scells mv (o ++ [(x5.1, x5.2.1, x5.2.2)]))) (by kernel_rfl) (by kernel_rfl) (Eq.trans (b := appendV Try.cfg (((((St.empty 0).new (rowM scells (l.length * 3) (srt cmpS l))).new (rowM scells mv o)).new (.cells [.int .i64 x5.1, .int .i64 x5.2.1, .int .i64 x5.2.2])).new (.arr [.int .i64 x5.1, .int .i64 x5.2.1, .int .i64 x5.2.2] 0 false)) 33 (slL 1 3 o.length) (.slice (some ⟨3, 0, some 3⟩) 1 3)) (by kernel_rfl) (app_rowM (l := o) (l2 := [(x5.1, x5.2.1, x5.2.2)]) (bytes := 24) tokC (by kernel_rfl) scells_len scells_one (by kernel_rfl) (by omega) (by kernel_rfl) (by kernel_rfl) (by (try simp only [List.length_cons, List.length_nil, List.length_append]); omega))) ?_
          refine aN ?_
          refine sk_regionL Try.cfgOk hS ?_
          refine aE (v := .int .i64 (IntKind.wrap .i64 (((i : Nat) : Int) + 1))) (.int .i64 ((i + 1 : Nat) : Int)) (congrArg (Value.int .i64) (wrap_to (by omega) (by omega))) ?_
          refine aN ?_
          refine .inl ⟨(i + 1, (o ++ [(x5.1, x5.2.1, x5.2.2)]), mv), rfl, ⟨?_, ?_, ?_, ?_, ?_⟩, ?_, ⟨by kernel_rfl, ⟨by kernel_rfl, by kernel_rfl, by kernel_rfl, by kernel_rfl, trivial⟩, ⟨.slice ⟨by decide, rfl⟩, .slice ⟨by decide, rfl⟩, sub_clo rfl, sub_clo rfl, trivial⟩, Nat.le_of_ble_eq_true (by kernel_rfl), ⟨by kernel_rfl, (((wf_empty 0).new _).new _), (selfs (all_cons (o := rowM scells (l.length * 3) (srt cmpS l)) (by kernel_rfl) (OSub.arr (subs_clo (flatL_clo scells_clo))) (all_cons (o := rowM scells mv (o ++ [(x5.1, x5.2.1, x5.2.2)])) (by kernel_rfl) (OSub.arr (subs_clo (flatL_clo scells_clo))) (all_none))))⟩, mem_all (by kernel_rfl)⟩⟩
          · (try dsimp only); omega
          · (try dsimp only); rw [spF_succ (by assumption), ← i1]; first | exact (spStep_e (by omega)).symm | exact (spStep_0 (by omega) (by omega)).symm | exact (spStep_a (by omega) (by assumption) (by assumption)).symm | exact (spStep_m (by omega) (by assumption) (by assumption)).symm
          · (try dsimp only); (try simp only [List.length_append, List.length_set, List.length_cons, List.length_nil]); omega
          · (try dsimp only); (try simp only [List.length_append, List.length_set, List.length_cons, List.length_nil]); omega
          · (try dsimp only); assumption
          · dsimp only; omega
        · have c9e : (decide (((((o.length : Nat) : Int) - 1) : Int) < 0)) = false := Eq.trans (by kernel_rfl) h8
          clear h8
          have c9 : ¬ ((((o.length : Nat) : Int) - 1) : Int) < 0 := of_decide_eq_false c9e
          clear c9e
          refine dK 3 ?_
          refine dM (indexAddrV Try.cfg 33 (slL 1 3 o.length) (.int .i64 (((o.length : Nat) : Int) - 1))) (.pointer (some ⟨1, (o.length - 1) * 3, some (o.length * 3)⟩)) (idx_rowI (by kernel_rfl) (by omega) (by omega)) ?_
          have hx10l : (o.length - 1) < o.length := by omega
          refine Exists.elim (get_ex hx10l) fun x10 hx10 => ?_
          clear hx10l
          refine dM (loadV Try.cfg ((((St.empty 0).new (rowM scells (l.length * 3) (srt cmpS l))).new (rowM scells mv o)).new (.cells [.int .i64 x5.1, .int .i64 x5.2.1, .int .i64 x5.2.2])) 66 (.pointer (some ⟨1, (o.length - 1) * 3, some (o.length * 3)⟩))) (.agg #[.int .i64 x10.1, .int .i64 x10.2.1, .int .i64 x10.2.2]) (load_rowM (l := o) (mv := mv) (n := o.length) (by kernel_rfl) scells_len (by kernel_rfl) (by omega) (by omega) hx10) ?_
          refine dK 1 ?_
          refine dB 25 [.agg #[.int .i64 x10.1, .int .i64 x10.2.1, .int .i64 x10.2.2], .agg #[.int .i64 x5.1, .int .i64 x5.2.1, .int .i64 x5.2.2]] (decide (¬ x10.1 = x5.1 ∨ x10.2.2 < 9223372036854775806 ∧ IntKind.wrap .i64 (x10.2.2 + 1) < x5.2.1)) _ rfl (hC25 _ _ _ _ (con_apart_at x10.1 x10.2.1 x10.2.2 x5.1 x5.2.1 x5.2.2  _)) (fun h11 => ?_) (fun h11 => ?_)
          · have c12 : ¬ x10.1 = x5.1 ∨ x10.2.2 < 9223372036854775806 ∧ IntKind.wrap .i64 (x10.2.2 + 1) < x5.2.1 := of_decide_eq_true h11
            clear h11
            refine dK 2 ?_
            refine ald_nil ?_
            refine kT ?_
            refine sk_regionL Try.cfgOk hS ?_
            refine aK 3 ?_
            refine al_opF (v := slL 1 3 (o ++ [(x5.1, x5.2.1, x5.2.2)]).length) (s1 := (((((St.empty 0).new (rowM scells (l.length * 3) (srt cmpS l))).new (rowM scells mv o)).new (.cells [.int .i64 x5.1, .int .i64 x5.2.1, .int .i64 x5.2.2])).new (.arr [.int .i64 x5.1, .int .i64 x5.2.1, .int .i64 x5.2.2] 0 false)).set 1 (rowM scells mv (o ++ [(x5.1, x5.2.1, x5.2.2)]))) (by kernel_rfl) (by kernel_rfl) (Eq.trans (b := appendV Try.cfg (((((St.empty 0).new (rowM scells (l.length * 3) (srt cmpS l))).new (rowM scells mv o)).new (.cells [.int .i64 x5.1, .int .i64 x5.2.1, .int .i64 x5.2.2])).new (.arr [.int .i64 x5.1, .int .i64 x5.2.1, .int .i64 x5.2.2] 0 false)) 33 (slL 1 3 o.length) (.slice (some ⟨3, 0, some 3⟩) 1 3)) (by kernel_rfl) (app_rowM (l := o) (l2 := [(x5.1, x5.2.1, x5.2.2)]) (bytes := 24) tokC (by kernel_rfl) scells_len scells_one (by kernel_rfl) (by omega) (by kernel_rfl) (by kernel_rfl) (by (try simp only [List.length_cons, List.length_nil, List.length_append]); omega))) ?_
            refine aN ?_
            refine sk_regionL Try.cfgOk hS ?_
            refine aE (v := .int .i64 (IntKind.wrap .i64 (((i : Nat) : Int) + 1))) (.int .i64 ((i + 1 : Nat) : Int)) (congrArg (Value.int .i64) (wrap_to (by omega) (by omega))) ?_
            refine aN ?_
            refine .inl ⟨(i + 1, (o ++ [(x5.1, x5.2.1, x5.2.2)]), mv), rfl, ⟨?_, ?_, ?_, ?_, ?_⟩, ?_, ⟨by kernel_rfl, ⟨by kernel_rfl, by kernel_rfl, by kernel_rfl, by kernel_rfl, trivial⟩, ⟨.slice ⟨by decide, rfl⟩, .slice ⟨by decide, rfl⟩, sub_clo rfl, sub_clo rfl, trivial⟩, Nat.le_of_ble_eq_true (by kernel_rfl), ⟨by kernel_rfl, (((wf_empty 0).new _).new _), (selfs (all_cons (o := rowM scells (l.length * 3) (srt cmpS l)) (by kernel_rfl) (OSub.arr (subs_clo (flatL_clo scells_clo))) (all_cons (o := rowM scells mv (o ++ [(x5.1, x5.2.1, x5.2.2)])) (by kernel_rfl) (OSub.arr (subs_clo (flatL_clo scells_clo))) (all_none))))⟩, mem_all (by kernel_rfl)⟩⟩
            · (try dsimp only); omega
            · (try dsimp only); rw [spF_succ (by assumption), ← i1]; first | exact (spStep_e (by omega)).symm | exact (spStep_0 (by omega) (by omega)).symm | exact (spStep_a (by omega) (by assumption) (by assumption)).symm | exact (spStep_m (by omega) (by assumption) (by assumption)).symm
            · (try dsimp only); (try simp only [List.length_append, List.length_set, List.length_cons, List.length_nil]); omega
            · (try dsimp only); (try simp only [List.length_append, List.length_set, List.length_cons, List.length_nil]); omega
            · (try dsimp only); assumption
            · dsimp only; omega
          · have c12 : ¬ (¬ x10.1 = x5.1 ∨ x10.2.2 < 9223372036854775806 ∧ IntKind.wrap .i64 (x10.2.2 + 1) < x5.2.1) := of_decide_eq_false h11
            clear h11
            refine dK 2 ?_
            refine ald_nil ?_
            refine kF ?_
            refine sk_drawL Try.cfgOk hS ?_
            refine dK 4 ?_
            refine dM (indexAddrV Try.cfg 33 (slL 1 3 o.length) (.int .i64 (((o.length : Nat) : Int) - 1))) (.pointer (some ⟨1, (o.length - 1) * 3, some (o.length * 3)⟩)) (idx_rowI (by kernel_rfl) (by omega) (by omega)) ?_
            refine dK 1 ?_
            refine dM (loadV Try.cfg ((((St.empty 0).new (rowM scells (l.length * 3) (srt cmpS l))).new (rowM scells mv o)).new (.cells [.int .i64 x5.1, .int .i64 x5.2.1, .int .i64 x5.2.2])) 3 (.pointer (some ⟨1, (o.length - 1) * 3 + 2, some (o.length * 3)⟩))) (.int .i64 x10.2.2) (load_rowM1 (o := 2) (l := o) (mv := mv) (n := o.length) (by kernel_rfl) scells_len (by kernel_rfl) (by omega) (by omega) hx10 rfl) ?_
            refine dK 2 ?_
            refine dE (v := .int .i64 (if x5.2.2 > x10.2.2 then (x5.2.2 : Int) else x10.2.2)) (.int .i64 (max x10.2.2 x5.2.2)) (congrArg (Value.int .i64) (max_int x10.2.2 x5.2.2)) ?_
            refine dM (indexAddrV Try.cfg 33 (slL 1 3 o.length) (.int .i64 (((o.length : Nat) : Int) - 1))) (.pointer (some ⟨1, (o.length - 1) * 3, some (o.length * 3)⟩)) (idx_rowI (by kernel_rfl) (by omega) (by omega)) ?_
            refine dK 1 ?_
            refine ald_opF (v := undef) (s1 := ((((St.empty 0).new (rowM scells (l.length * 3) (srt cmpS l))).new (rowM scells mv o)).new (.cells [.int .i64 x5.1, .int .i64 x5.2.1, .int .i64 x5.2.2])).set 1 (rowM scells (o.length * 3) (o.set (o.length - 1) (x10.1, x10.2.1, (max x10.2.2 x5.2.2))))) (by kernel_rfl) (by kernel_rfl) (Eq.trans (b := (storeV Try.cfg ((((St.empty 0).new (rowM scells (l.length * 3) (srt cmpS l))).new (rowM scells mv o)).new (.cells [.int .i64 x5.1, .int .i64 x5.2.1, .int .i64 x5.2.2])) 3 (.pointer (some ⟨1, (o.length - 1) * 3 + 2, some (o.length * 3)⟩)) (.int .i64 (max x10.2.2 x5.2.2))).map fun s8 => (undef, s8)) (by kernel_rfl) (congrArg (Option.map fun s8 => (undef, s8)) (store_rowP (f := scells) (l := o) (n := o.length) (i := (o.length - 1)) (o := 2) (mv := mv) (x := x10) (x' := (x10.1, x10.2.1, (max x10.2.2 x5.2.2))) (by kernel_rfl) scells_len scells_one (by kernel_rfl) (by omega) (by omega) hx10 (by decide) rfl rfl rfl))) (by kernel_rfl) ?_
            refine ald_nil ?_
            refine sk_regionL Try.cfgOk hS ?_
            refine aE (v := .int .i64 (IntKind.wrap .i64 (((i : Nat) : Int) + 1))) (.int .i64 ((i + 1 : Nat) : Int)) (congrArg (Value.int .i64) (wrap_to (by omega) (by omega))) ?_
            refine aN ?_
            refine .inl ⟨(i + 1, (o.set (o.length - 1) (x10.1, x10.2.1, (max x10.2.2 x5.2.2))), (o.length * 3)), rfl, ⟨?_, ?_, ?_, ?_, ?_⟩, ?_, ⟨by kernel_rfl, ⟨Eq.trans (b := slL 1 3 o.length) (by kernel_rfl) (congrArg (slL 1 3) (by simp only [List.length_set])), by kernel_rfl, by kernel_rfl, by kernel_rfl, trivial⟩, ⟨.slice ⟨by decide, rfl⟩, .slice ⟨by decide, rfl⟩, sub_clo rfl, sub_clo rfl, trivial⟩, Nat.le_of_ble_eq_true (by kernel_rfl), ⟨by kernel_rfl, (((wf_empty 0).new _).new _), (selfs (all_cons (o := rowM scells (l.length * 3) (srt cmpS l)) (by kernel_rfl) (OSub.arr (subs_clo (flatL_clo scells_clo))) (all_cons (o := rowM scells (o.length * 3) (o.set (o.length - 1) (x10.1, x10.2.1, (max x10.2.2 x5.2.2)))) (by kernel_rfl) (OSub.arr (subs_clo (flatL_clo scells_clo))) (all_none))))⟩, mem_all (by kernel_rfl)⟩⟩
            · (try dsimp only); omega
            · (try dsimp only); rw [spF_succ (by assumption), ← i1]; first | exact (spStep_e (by omega)).symm | exact (spStep_0 (by omega) (by omega)).symm | exact (spStep_a (by omega) (by assumption) (by assumption)).symm | exact (spStep_m (by omega) (by assumption) (by assumption)).symm
            · (try dsimp only); (try simp only [List.length_append, List.length_set, List.length_cons, List.length_nil]); omega
            · (try dsimp only); (try simp only [List.length_append, List.length_set, List.length_cons, List.length_nil]); omega
            · (try dsimp only); assumption
            · dsimp only; omega
    · have c4e : (decide ((((i : Nat) : Int) : Int) < ((l.length : Nat) : Int))) = false := Eq.trans (by kernel_rfl) h3
      clear h3
      have c4 : ¬ (((i : Nat) : Int) : Int) < ((l.length : Nat) : Int) := of_decide_eq_false c4e
      clear c4e
      refine al_nil ?_
      refine sk_seq ?_
      refine kF ?_
      refine sk_exit ?_
      dsimp only
      refine .inr ⟨_, _, (fun h => by cases h), ⟨rfl, ?_, rfl, rfl⟩, ⟨by kernel_rfl, ⟨by kernel_rfl, by kernel_rfl, by kernel_rfl, by kernel_rfl, trivial⟩, ⟨.slice ⟨by decide, rfl⟩, .slice ⟨by decide, rfl⟩, sub_clo rfl, sub_clo rfl, trivial⟩, Nat.le_of_ble_eq_true (by kernel_rfl), ⟨by kernel_rfl, (((wf_empty 0).new _).new _), (selfs (all_cons (o := rowM scells (l.length * 3) (srt cmpS l)) (by kernel_rfl) (OSub.arr (subs_clo (flatL_clo scells_clo))) (all_cons (o := rowM scells mv o) (by kernel_rfl) (OSub.arr (subs_clo (flatL_clo scells_clo))) (all_none))))⟩, mem_all (by kernel_rfl)⟩⟩
      · omega
  · exact ⟨by ((try dsimp only); first | done | (omega)), by ((try dsimp only); first | done | (rfl)), by ((try dsimp only); first | done | (omega)), by ((try dsimp only); first | done | (exact Nat.le_refl _)), by ((try dsimp only); first | done | (exact srt_len l))⟩
  rintro o e1 s1 ⟨a, lv1, M1, m2, ha, ⟨rfl, hx, rfl, rfl⟩, rfl, rfl⟩
  obtain ⟨i, o, mv⟩ := a
  obtain ⟨i0, i1, i2, i3, i4⟩ := ha
  dsimp only at hx i0 i1 i2 i3 i4
  dsimp only
  try rw [if_pos rfl]
  refine sk_seq ?_
  refine kK Try.cfgOk hS ?_
  refine sk_ret ?_
  exact ⟨[slL 1 3 o.length], by kernel_rfl, fs_to (fs_slM (mv := mv) (l := o) (by decide) scells_len scells_clo scells_one (Nat.le_of_ble_eq_true (by kernel_rfl)) (by kernel_rfl) (by omega) (by omega)) (congrArg (inlL scells 3) (by rw [i1, List.take_of_length_le (by omega)])), Nat.le_of_ble_eq_true (by kernel_rfl), all1 (by kernel_rfl)⟩
noncomputable def sm_spansF : Small Try.prog 0 37 ((List Span)) where
  k := 1
  A := fun z9 ρ => [slL (ρ 0) 3 z9.length]
  M := fun z9 ρ => objL [rowL scells z9]
  M1 := fun z9 ρ => objL [rowM scells (z9.length * 3) (srt cmpS z9)]
  V := fun z9 ρ => inlL scells 3 (spF (srt cmpS z9))
  Pre := fun z9 => (z9.length ≤ 1000000)
  ch := [0]
  N := 400
  s0 := fun z9 => ((St.empty 0).new (rowL scells z9))
  hch := by decide
  hsame := fun x ρ => all1 (fun h => absurd (by decide) h)
  hG := rfl
  hn := fun x => rfl
  hwf := fun x => ((wf_empty 0).new _)
  hget := fun x => all1 (by kernel_rfl)
  noloop := fun x ρ => all1 (fun h => h.elim)
  inA := fun x ρ R hR => .cons (.slice (hR 0 _ (by decide))) .nil
  inM := fun x ρ R hR => all1 (OSub.arr (subs_clo (flatL_clo scells_clo)))
  outM := fun x ρ R hR => all1 (OSub.arr (subs_clo (flatL_clo scells_clo)))
  outV := fun x ρ R hR => sub_clo rfl
  dom := by
    intro x ρ a ha
    obtain rfl := List.mem_singleton.1 ha
    exact .inr fun h => h
  sc := by
    rintro x p0
    exact spansF_sc x p0
  det := by
    rintro x ρ y σ s h hm hm'
    simp only [List.cons.injEq, and_true, Int.natCast_inj, UInt8.toNat_inj, Value.int.injEq, Value.bool.injEq, Value.string.injEq, Value.agg.injEq, Array.mk.injEq, true_and, Value.pointer.injEq, Option.some.injEq, Addr.mk.injEq, Value.func.injEq, AObj.cells.injEq, AObj.arr.injEq, slL_iff, scells_row] at h
    have q0 : ρ 0 = σ 0 := by simp_all
    have e0 := (hm 0 (by decide)).symm.trans ((congrArg s.get q0).trans (hm' 0 (by decide)))
    simp only [objL, List.getD_cons_zero, List.getD_cons_succ, List.cons.injEq, and_true, Int.natCast_inj, UInt8.toNat_inj, Value.int.injEq, Value.bool.injEq, Value.string.injEq, Value.agg.injEq, Array.mk.injEq, true_and, Value.pointer.injEq, Option.some.injEq, Addr.mk.injEq, Value.func.injEq, AObj.cells.injEq, AObj.arr.injEq, slL_iff, scells_row] at e0
    have q : ∀ a, a < 1 → ρ a = σ a := all1 q0
    clear hm hm'
    exact ⟨by first | rfl | (simp_all [Prod.ext_iff]; done) | exact e0, q⟩
  par := by
    intro x ρ σ h
    have h0 := h 0 (by decide)
    exact ⟨by first | rfl | simp only [h0], by first | exact fun _ _ => rfl | (intro a ha; simp only [h0])⟩
noncomputable def con_spansF : Con Try.prog 0 := sm_spansF.con
theorem con_spansF_at (l : List Span) (i0 : Nat) (h0 : l.length ≤ 1000000) (s : St) (hn : nodupB [i0] = true) (m0 : s.get i0 = some (rowL scells l)) : con_spansF.rel [slL i0 3 l.length] s (inlL scells 3 (spF (srt cmpS l))) (s.set i0 (rowM scells (l.length * 3) (srt cmpS l))) :=
  sm_spansF.at_ l [i0] s _ h0 rfl hn rfl (all1 m0) rfl rfl
end Go.Proofs.Ytfpkfcdeoiofiaa