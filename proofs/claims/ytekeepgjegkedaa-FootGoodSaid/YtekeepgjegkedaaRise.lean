/- Feet: good, meeting. -/
import Derived.Test.YtekeepgjegkedaaFeet
set_option linter.unusedVariables false
set_option linter.unusedSimpArgs false
set_option linter.unnecessarySimpa false
namespace Go.Proofs.Ytekeepgjegkedaa
open Go.Ai
/-- what is wrong at a place -/
def badK (l : List Key) (i : Nat) : Prop := ∃ x, l[i]? = some x ∧ (¬ (0 ≤ x.1 ∧ x.1 < 4) ∨ 0 < i ∧ ∃ y, l[i - 1]? = some y ∧ ¬ (y.1 < x.1 ∨ y.1 = x.1 ∧ y.2 < x.2))
theorem badK_iff {l : List Key} {i : Nat} {x : Key} (hx : l[i]? = some x) : badK l i ↔ (¬ (0 ≤ x.1 ∧ x.1 < 4) ∨ 0 < i ∧ ∃ y, l[i - 1]? = some y ∧ ¬ (y.1 < x.1 ∨ y.1 = x.1 ∧ y.2 < x.2)) :=
  ⟨fun ⟨z, h1, h2⟩ => by rw [hx] at h1; obtain rfl := Option.some.inj h1; exact h2, fun h => ⟨x, hx, h⟩⟩
theorem badK_iff2 {l : List Key} {i : Nat} {x y : Key} (hx : l[i]? = some x) (hy : l[i - 1]? = some y) : badK l i ↔ (¬ (0 ≤ x.1 ∧ x.1 < 4) ∨ 0 < i ∧ ¬ (y.1 < x.1 ∨ y.1 = x.1 ∧ y.2 < x.2)) := by
  rw [badK_iff hx, hy]
  simp
abbrev risingL (l : List Key) : Prop := ¬ ∃ i, i < l.length ∧ badK l i
theorem risingP_fn : Try.cfg.fn 37 = some Try.f37 := by kernel_rfl
set_option maxHeartbeats 4000000 in
set_option maxRecDepth 100000 in
theorem risingP_sc (l : List Key) (h0 : l.length ≤ 1000000) : SC Try.prog 0 37 [inlL kcells 2 l] (St.empty 0) fun v s' => v = .bool (tf (risingL l)) ∧ s'.n ≤ 400 := by
  obtain ⟨rc, hS, hC⟩ := rc_con (sound_run Try.cfgOk 300) [con_table, con_lessP] (by kernel_rfl)
  have hC34 := hC con_table (.head _)
  have hC22 := hC con_lessP (.tail _ (.head _))
  refine sc_ice0 (N := 400) (v2 := .bool (tf (risingL l))) (Q := fun v s' => FS 0 s' v (.bool (tf (risingL l))) ∧ s'.n ≤ 400) ?_ (fun _ _ h => h)
  refine sc_body Try.cfgOk risingP_fn rfl ?_
  refine sk_seq ?_
  refine kK Try.cfgOk hS ?_
  refine sk_seq (sk_seq ?_)
  refine sk_regionL Try.cfgOk hS ?_
  refine aK 1 ?_
  refine aM (lenB Try.cfg (St.empty 0) 22 (inlL kcells 2 l)) (.int .i64 ((l.length : Nat) : Int)) (len_inl tokC (by kernel_rfl)) ?_
  refine aN ?_
  refine sk_block ?_
  refine sk_live 31 ((fun a : Nat => [(0, inlL kcells 2 l), (5, inlL kcells 2 l), (6, .int .i64 ((l.length : Nat) : Int)), (7, .int .i64 ((a : Nat) : Int))]) 0) (by kernel_rfl) ⟨by kernel_rfl, by kernel_rfl, by kernel_rfl, by kernel_rfl, trivial⟩ fun m1 => ?_
  refine sk_st ((fun a : Nat => (St.empty 0)) 0) (by kernel_rfl) ?_
  refine (sk_while (k := 0) (N := 400) (live := (fun a : Nat => [(0, inlL kcells 2 l), (5, inlL kcells 2 l), (6, .int .i64 ((l.length : Nat) : Int)), (7, .int .i64 ((a : Nat) : Int))])) (M := (fun a : Nat => (St.empty 0))) (fun a : Nat => (a ≤ l.length) ∧ (NoI (fun a : Nat => badK l a) a)) (fun a : Nat => l.length - a) (fun (a : Nat) (o : Out) (lv : List (Nat × Value)) (M : St) => (o = .exit 0 ∧ (¬ a < l.length) ∧ lv = [(0, inlL kcells 2 l), (5, inlL kcells 2 l), (6, .int .i64 ((l.length : Nat) : Int)), (7, .int .i64 ((a : Nat) : Int))] ∧ M = (St.empty 0)) ∨ (o = .ret ∧ (a < l.length ∧ (badK l a)) ∧ lv = [(2, .bool false)] ∧ M = (St.empty 0))) (Nat.zero_le _) (fun a ha => ?_) (fun a ha => ?_) (fun a m ha => ?_) (fun a m ha => ?_) 0 m1 ?_).up ?_
  · exact ⟨by kernel_rfl, (wf_empty 0), (fun i hi => absurd hi (Nat.not_lt_zero i))⟩
  · exact ⟨sub_clo rfl, sub_clo rfl, sub_clo rfl, sub_clo rfl, trivial⟩
  · exact ⟨by kernel_rfl, by kernel_rfl, by kernel_rfl, by kernel_rfl, trivial⟩
  · obtain ⟨i, ea⟩ : ∃ z, z = a := ⟨_, rfl⟩
    subst ea
    obtain ⟨i0, i1⟩ := ha
    refine sk_seq ?_
    refine sk_regionL Try.cfgOk hS ?_
    refine aT (fun h2 => ?_) (fun h2 => ?_)
    · have c3e : (decide ((((i : Nat) : Int) : Int) < ((l.length : Nat) : Int))) = true := Eq.trans (by kernel_rfl) h2
      clear h2
      have c3 : (((i : Nat) : Int) : Int) < ((l.length : Nat) : Int) := of_decide_eq_true c3e
      clear c3e
      refine al_nil ?_
      refine sk_seq ?_
      refine kT ?_
      refine sk_skip (sk_seq (sk_block (sk_seq ?_)))
      refine sk_regionL Try.cfgOk hS ?_
      refine aK 1 ?_
      refine aM (indexAddrV Try.cfg 22 (inlL kcells 2 l) (.int .i64 ((i : Nat) : Int))) (elt (flatL kcells l) (i * 2)) (idx_inlL tokC (by kernel_rfl) (by first | omega | simp)) ?_
      have hx4l : i < l.length := by omega
      refine Exists.elim (get_ex hx4l) fun x4 hx4 => ?_
      clear hx4l
      refine aM (loadV Try.cfg (St.empty 0) 30 (elt (flatL kcells l) (i * 2))) (.agg #[.int .i64 x4.1, .int .i64 x4.2]) (load_el tokC (by kernel_rfl) kcells_len hx4) ?_
      refine aN ?_
      refine sk_seq ?_
      refine sk_drawL Try.cfgOk hS ?_
      refine dK 2 ?_
      refine dB 34 [.int .i64 x4.1] (decide (0 ≤ x4.1 ∧ x4.1 < 4)) _ rfl (hC34 _ _ _ _ (con_table_at x4.1  _)) (fun h5 => ?_) (fun h5 => ?_)
      · have c6 : 0 ≤ x4.1 ∧ x4.1 < 4 := of_decide_eq_true h5
        clear h5
        refine dK 3 ?_
        refine dT (fun h7 => ?_) (fun h7 => ?_)
        · have c8e : (decide ((((i : Nat) : Int) : Int) > 0)) = true := Eq.trans (by kernel_rfl) h7
          clear h7
          have c8 : (((i : Nat) : Int) : Int) > 0 := of_decide_eq_true c8e
          clear c8e
          refine dK 3 ?_
          refine dE (v := .int .i64 (IntKind.wrap .i64 (((i : Nat) : Int) - 1))) (.int .i64 ((i - 1 : Nat) : Int)) (congrArg (Value.int .i64) (wrap_to (by omega) (by omega))) ?_
          refine dM (indexAddrV Try.cfg 22 (inlL kcells 2 l) (.int .i64 ((i - 1 : Nat) : Int))) (elt (flatL kcells l) ((i - 1) * 2)) (idx_inlL tokC (by kernel_rfl) (by first | omega | simp)) ?_
          have hx9l : (i - 1) < l.length := by omega
          refine Exists.elim (get_ex hx9l) fun x9 hx9 => ?_
          clear hx9l
          refine dM (loadV Try.cfg (St.empty 0) 30 (elt (flatL kcells l) ((i - 1) * 2))) (.agg #[.int .i64 x9.1, .int .i64 x9.2]) (load_el tokC (by kernel_rfl) kcells_len hx9) ?_
          refine dK 1 ?_
          refine dB 22 [.agg #[.int .i64 x9.1, .int .i64 x9.2], .agg #[.int .i64 x4.1, .int .i64 x4.2]] (decide (x9.1 < x4.1 ∨ x9.1 = x4.1 ∧ x9.2 < x4.2)) _ rfl (hC22 _ _ _ _ (con_lessP_at x9.1 x9.2 x4.1 x4.2  _)) (fun h10 => ?_) (fun h10 => ?_)
          · have c11 : x9.1 < x4.1 ∨ x9.1 = x4.1 ∧ x9.2 < x4.2 := of_decide_eq_true h10
            clear h10
            refine dK 3 ?_
            refine ald_nil ?_
            refine kF ?_
            refine sk_skip ?_
            refine sk_regionL Try.cfgOk hS ?_
            refine aE (v := .int .i64 (IntKind.wrap .i64 (((i : Nat) : Int) + 1))) (.int .i64 ((i + 1 : Nat) : Int)) (congrArg (Value.int .i64) (wrap_to (by omega) (by omega))) ?_
            refine aN ?_
            refine .inl ⟨i + 1, rfl, ⟨?_, ?_⟩, ?_, ⟨by kernel_rfl, ⟨by kernel_rfl, by kernel_rfl, by kernel_rfl, by kernel_rfl, trivial⟩, ⟨sub_clo rfl, sub_clo rfl, sub_clo rfl, sub_clo rfl, trivial⟩, Nat.le_of_ble_eq_true (by kernel_rfl), ⟨by kernel_rfl, (wf_empty 0), (fun i hi => absurd hi (Nat.not_lt_zero i))⟩, mem_all (by kernel_rfl)⟩⟩
            · (try dsimp only); omega
            · (try dsimp only); exact NoI.succ (p := (fun i : Nat => badK l i)) (by assumption) (by first | (refine ⟨by omega, ?_⟩; first | (rw [badK_iff2 (by assumption) (by assumption)]; omega) | (rw [badK_iff (by assumption)]; exact .inl (by omega))) | (rw [badK_iff2 (by assumption) (by assumption)]; omega) | (rw [badK_iff (by assumption)]; rintro (h | ⟨h, _⟩) <;> omega))
            · omega
          · have c11 : ¬ (x9.1 < x4.1 ∨ x9.1 = x4.1 ∧ x9.2 < x4.2) := of_decide_eq_false h10
            clear h10
            refine dK 3 ?_
            refine ald_nil ?_
            refine kT ?_
            refine sk_seq ?_
            refine kK Try.cfgOk hS ?_
            refine sk_ret ?_
            refine .inr ⟨_, _, (fun h => by cases h), .inr ⟨rfl, ?_, rfl, rfl⟩, ⟨by kernel_rfl, ⟨by kernel_rfl, trivial⟩, ⟨sub_clo rfl, trivial⟩, Nat.le_of_ble_eq_true (by kernel_rfl), ⟨by kernel_rfl, (wf_empty 0), (fun i hi => absurd hi (Nat.not_lt_zero i))⟩, mem_all (by kernel_rfl)⟩⟩
            · first | (refine ⟨by omega, ?_⟩; first | (rw [badK_iff2 (by assumption) (by assumption)]; omega) | (rw [badK_iff (by assumption)]; exact .inl (by omega))) | (rw [badK_iff2 (by assumption) (by assumption)]; omega) | (rw [badK_iff (by assumption)]; rintro (h | ⟨h, _⟩) <;> omega)
        · have c8e : (decide ((((i : Nat) : Int) : Int) > 0)) = false := Eq.trans (by kernel_rfl) h7
          clear h7
          have c8 : ¬ (((i : Nat) : Int) : Int) > 0 := of_decide_eq_false c8e
          clear c8e
          refine dK 11 ?_
          refine ald_nil ?_
          refine kF ?_
          refine sk_skip ?_
          refine sk_regionL Try.cfgOk hS ?_
          refine aE (v := .int .i64 (IntKind.wrap .i64 (((i : Nat) : Int) + 1))) (.int .i64 ((i + 1 : Nat) : Int)) (congrArg (Value.int .i64) (wrap_to (by omega) (by omega))) ?_
          refine aN ?_
          refine .inl ⟨i + 1, rfl, ⟨?_, ?_⟩, ?_, ⟨by kernel_rfl, ⟨by kernel_rfl, by kernel_rfl, by kernel_rfl, by kernel_rfl, trivial⟩, ⟨sub_clo rfl, sub_clo rfl, sub_clo rfl, sub_clo rfl, trivial⟩, Nat.le_of_ble_eq_true (by kernel_rfl), ⟨by kernel_rfl, (wf_empty 0), (fun i hi => absurd hi (Nat.not_lt_zero i))⟩, mem_all (by kernel_rfl)⟩⟩
          · (try dsimp only); omega
          · (try dsimp only); exact NoI.succ (p := (fun i : Nat => badK l i)) (by assumption) (by first | (refine ⟨by omega, ?_⟩; first | (rw [badK_iff2 (by assumption) (by assumption)]; omega) | (rw [badK_iff (by assumption)]; exact .inl (by omega))) | (rw [badK_iff2 (by assumption) (by assumption)]; omega) | (rw [badK_iff (by assumption)]; rintro (h | ⟨h, _⟩) <;> omega))
          · omega
      · have c6 : ¬ (0 ≤ x4.1 ∧ x4.1 < 4) := of_decide_eq_false h5
        clear h5
        refine dK 15 ?_
        refine ald_nil ?_
        refine kT ?_
        refine sk_seq ?_
        refine kK Try.cfgOk hS ?_
        refine sk_ret ?_
        refine .inr ⟨_, _, (fun h => by cases h), .inr ⟨rfl, ?_, rfl, rfl⟩, ⟨by kernel_rfl, ⟨by kernel_rfl, trivial⟩, ⟨sub_clo rfl, trivial⟩, Nat.le_of_ble_eq_true (by kernel_rfl), ⟨by kernel_rfl, (wf_empty 0), (fun i hi => absurd hi (Nat.not_lt_zero i))⟩, mem_all (by kernel_rfl)⟩⟩
        · first | (refine ⟨by omega, ?_⟩; first | (rw [badK_iff2 (by assumption) (by assumption)]; omega) | (rw [badK_iff (by assumption)]; exact .inl (by omega))) | (rw [badK_iff2 (by assumption) (by assumption)]; omega) | (rw [badK_iff (by assumption)]; rintro (h | ⟨h, _⟩) <;> omega)
    · have c3e : (decide ((((i : Nat) : Int) : Int) < ((l.length : Nat) : Int))) = false := Eq.trans (by kernel_rfl) h2
      clear h2
      have c3 : ¬ (((i : Nat) : Int) : Int) < ((l.length : Nat) : Int) := of_decide_eq_false c3e
      clear c3e
      refine al_nil ?_
      refine sk_seq ?_
      refine kF ?_
      refine sk_exit ?_
      dsimp only
      refine .inr ⟨_, _, (fun h => by cases h), .inl ⟨rfl, ?_, rfl, rfl⟩, ⟨by kernel_rfl, ⟨by kernel_rfl, by kernel_rfl, by kernel_rfl, by kernel_rfl, trivial⟩, ⟨sub_clo rfl, sub_clo rfl, sub_clo rfl, sub_clo rfl, trivial⟩, Nat.le_of_ble_eq_true (by kernel_rfl), ⟨by kernel_rfl, (wf_empty 0), (fun i hi => absurd hi (Nat.not_lt_zero i))⟩, mem_all (by kernel_rfl)⟩⟩
      · omega
  · exact ⟨by ((try dsimp only); first | done | (omega)), by ((try dsimp only); first | done | (exact NoI.zero))⟩
  rintro o e1 s1 ⟨a, lv1, M1, m1, ha, (⟨rfl, hx, rfl, rfl⟩ | ⟨rfl, hx, rfl, rfl⟩), rfl, rfl⟩
  ·
    obtain ⟨i, ea⟩ : ∃ z, z = a := ⟨_, rfl⟩
    subst ea
    obtain ⟨i0, i1⟩ := ha
    dsimp only
    try rw [if_pos rfl]
    refine sk_seq ?_
    refine kK Try.cfgOk hS ?_
    refine sk_ret ?_
    exact ⟨[.bool true], by kernel_rfl, fs_to (fs_clo rfl) (congrArg Value.bool (by first | exact (tf_false (fun h => h ⟨_, hx.1, hx.2⟩)).symm | exact (tf_true (NoI.none (by assumption) hx)).symm)), Nat.le_of_ble_eq_true (by kernel_rfl)⟩
  ·
    obtain ⟨i, ea⟩ : ∃ z, z = a := ⟨_, rfl⟩
    subst ea
    obtain ⟨i0, i1⟩ := ha
    dsimp only
    exact ⟨[.bool false], by kernel_rfl, fs_to (fs_clo rfl) (congrArg Value.bool (by first | exact (tf_false (fun h => h ⟨_, hx.1, hx.2⟩)).symm | exact (tf_true (NoI.none (by assumption) hx)).symm)), Nat.le_of_ble_eq_true (by kernel_rfl)⟩
noncomputable def con_risingP : Con Try.prog 0 := Con.pure (α := (List Key)) 37 (fun z9 => [inlL kcells 2 z9]) (fun z9 => .bool (tf (risingL z9))) (fun z9 => (z9.length ≤ 1000000)) (by
  intro x y h
  simp only [List.cons.injEq, and_true, Int.natCast_inj, UInt8.toNat_inj, Value.int.injEq, Value.bool.injEq, Value.string.injEq, Value.agg.injEq, Array.mk.injEq, true_and, kcells_iff] at h
  first | exact h | (simp only [Prod.ext_iff, h, and_self, and_true, true_and]; done) | simp_all [Prod.ext_iff]) (fun _ => rfl) (fun _ => rfl) 400 (by
  rintro x p0
  exact risingP_sc x p0)
theorem con_risingP_at (l : List Key) (h0 : l.length ≤ 1000000) (s : St) : con_risingP.rel [inlL kcells 2 l] s (.bool (tf (risingL l))) s := con_pure l h0 s
end Go.Proofs.Ytekeepgjegkedaa