/- Feet that meet. -/
import Derived.Test.YtekeepgjegkedaaFeet
set_option linter.unusedVariables false
set_option linter.unusedSimpArgs false
set_option linter.unnecessarySimpa false
namespace Go.Proofs.Ytekeepgjegkedaa
open Go.Ai
theorem readsR__fn : Try.cfg.fn 14 = some Try.f14 := by kernel_rfl
set_option maxHeartbeats 4000000 in
set_option maxRecDepth 100000 in
theorem readsR__sc (rs : List Key) (ss : List Span) (ws : List Key) (kt : Int) (kk : Int) (h0 : rs.length ≤ 1000000) (h1 : ss.length ≤ 1000000) (h2 : ws.length ≤ 1000000) : SC Try.prog 0 14 [.agg #[inlL kcells 2 rs, inlL scells 3 ss, inlL kcells 2 ws], .agg #[.int .i64 kt, .int .i64 kk]] (St.empty 0) fun v s' => v = .bool (decide (readsR rs ss kt kk)) ∧ s'.n ≤ 400 := by
  obtain ⟨rc, hS, hC⟩ := rc_con (sound_run Try.cfgOk 300) [con_has] (by kernel_rfl)
  have hC39 := hC con_has (.head _)
  refine sc_ice0 (N := 400) (v2 := .bool (decide (readsR rs ss kt kk))) (Q := fun v s' => FS 0 s' v (.bool (decide (readsR rs ss kt kk))) ∧ s'.n ≤ 400) ?_ (fun _ _ h => h)
  refine sc_body Try.cfgOk readsR__fn rfl ?_
  repeat' (with_reducible first | refine sk_seq ?_ | refine sk_block ?_ | refine sk_skip ?_ | refine sk_scope ?_)
  refine sk_regionK Try.cfgOk hS (by kernel_rfl) ?_
  repeat' (with_reducible first | refine sk_seq ?_ | refine sk_block ?_ | refine sk_skip ?_ | refine sk_scope ?_)
  refine sk_regionK Try.cfgOk hS (by kernel_rfl) ?_
  repeat' (with_reducible first | refine sk_seq ?_ | refine sk_block ?_ | refine sk_skip ?_ | refine sk_scope ?_)
  refine sk_live 42 ((fun a : Nat => [(2, .pointer (some ⟨0, 0, none⟩)), (3, .pointer (some ⟨1, 0, none⟩)), (5, .int .i64 ((a : Nat) : Int))]) 0) (by kernel_rfl) ⟨by kernel_rfl, by kernel_rfl, by kernel_rfl, trivial⟩ fun m1 => ?_
  refine sk_st ((fun a : Nat => (((St.empty 0).new (.cells [inlL kcells 2 rs, inlL scells 3 ss, inlL kcells 2 ws])).new (.cells [.int .i64 kt, .int .i64 kk]))) 0) (by kernel_rfl) ?_
  refine (sk_while (k := 2) (N := 400) (live := (fun a : Nat => [(2, .pointer (some ⟨0, 0, none⟩)), (3, .pointer (some ⟨1, 0, none⟩)), (5, .int .i64 ((a : Nat) : Int))])) (M := (fun a : Nat => (((St.empty 0).new (.cells [inlL kcells 2 rs, inlL scells 3 ss, inlL kcells 2 ws])).new (.cells [.int .i64 kt, .int .i64 kk])))) (fun a : Nat => (a ≤ ss.length) ∧ (NoHit (fun x : Span => x.1 = kt ∧ x.2.1 ≤ kk ∧ kk ≤ x.2.2) ss a)) (fun a : Nat => ss.length - a) (fun (a : Nat) (o : Out) (lv : List (Nat × Value)) (M : St) => (o = .exit 0 ∧ (¬ a < ss.length) ∧ lv = [(2, .pointer (some ⟨0, 0, none⟩)), (3, .pointer (some ⟨1, 0, none⟩)), (5, .int .i64 ((a : Nat) : Int))] ∧ M = (((St.empty 0).new (.cells [inlL kcells 2 rs, inlL scells 3 ss, inlL kcells 2 ws])).new (.cells [.int .i64 kt, .int .i64 kk]))) ∨ (o = .ret ∧ (∃ x : Span, ss[a]? = some x ∧ (x.1 = kt ∧ x.2.1 ≤ kk ∧ kk ≤ x.2.2)) ∧ lv = [(4, .bool true)] ∧ M = (((St.empty 0).new (.cells [inlL kcells 2 rs, inlL scells 3 ss, inlL kcells 2 ws])).new (.cells [.int .i64 kt, .int .i64 kk])))) (Nat.zero_le _) (fun a ha => ?_) (fun a ha => ?_) (fun a m ha => ?_) (fun a m ha => ?_) 0 m1 ?_).up ?_
  · exact ⟨by kernel_rfl, (((wf_empty 0).new _).new _), (selfs (all_cons (o := .cells [inlL kcells 2 rs, inlL scells 3 ss, inlL kcells 2 ws]) (by kernel_rfl) (OSub.cells (.cons (sub_clo rfl) (.cons (sub_clo rfl) (.cons (sub_clo rfl) .nil)))) (all_cons (o := .cells [.int .i64 kt, .int .i64 kk]) (by kernel_rfl) (OSub.cells (.cons (sub_clo rfl) (.cons (sub_clo rfl) .nil))) (all_none))))⟩
  · exact ⟨.ptr ⟨by decide, rfl⟩, .ptr ⟨by decide, rfl⟩, sub_clo rfl, trivial⟩
  · exact ⟨by kernel_rfl, by kernel_rfl, by kernel_rfl, trivial⟩
  · obtain ⟨i, ea⟩ : ∃ z, z = a := ⟨_, rfl⟩
    subst ea
    obtain ⟨i0, i1⟩ := ha
    repeat' (with_reducible first | refine sk_seq ?_ | refine sk_block ?_ | refine sk_skip ?_ | refine sk_scope ?_)
    refine sk_regionL Try.cfgOk hS ?_
    refine al_chunk 3 (by kernel_rfl) ?_
    refine al_map (lenB Try.cfg (St.empty 0) 23 (inlL scells 3 ss)) (.int .i64 ((ss.length : Nat) : Int)) (by kernel_rfl) (by kernel_rfl) (by kernel_rfl) (len_inl tokC (by kernel_rfl)) ?_
    refine al_test (by kernel_rfl) (by kernel_rfl) (by kernel_rfl) (fun h2 => ?_) (fun h2 => ?_)
    · have c3e : (decide ((((i : Nat) : Int) : Int) < ((ss.length : Nat) : Int))) = true := Eq.trans (by kernel_rfl) h2
      clear h2
      have c3 : (((i : Nat) : Int) : Int) < ((ss.length : Nat) : Int) := of_decide_eq_true c3e
      clear c3e
      refine al_nil ?_
      repeat' (with_reducible first | refine sk_seq ?_ | refine sk_block ?_ | refine sk_skip ?_ | refine sk_scope ?_)
      refine sk_true (by kernel_rfl) ?_
      repeat' (with_reducible first | refine sk_seq ?_ | refine sk_block ?_ | refine sk_skip ?_ | refine sk_scope ?_)
      refine sk_regionL Try.cfgOk hS ?_
      refine al_chunk 3 (by kernel_rfl) ?_
      refine al_map (indexAddrV Try.cfg 23 (inlL scells 3 ss) (.int .i64 ((i : Nat) : Int))) (elt (flatL scells ss) (i * 3)) (by kernel_rfl) (by kernel_rfl) (by kernel_rfl) (idx_inlL tokC (by kernel_rfl) (by omega)) ?_
      obtain ⟨x4, hx4⟩ := get_ex (l := ss) (i := i) (by omega)
      refine al_map (loadV Try.cfg (St.empty 0) 32 (elt (flatL scells ss) (i * 3))) (.agg #[.int .i64 x4.1, .int .i64 x4.2.1, .int .i64 x4.2.2]) (by kernel_rfl) (by kernel_rfl) (by kernel_rfl) (load_el tokC (by kernel_rfl) scells_len hx4) ?_
      refine al_known (by kernel_rfl) ?_
      repeat' (with_reducible first | refine sk_seq ?_ | refine sk_block ?_ | refine sk_skip ?_ | refine sk_scope ?_)
      refine sk_regionL Try.cfgOk hS ?_
      refine al_chunk 4 (by kernel_rfl) ?_
      refine al_test (by kernel_rfl) (by kernel_rfl) (by kernel_rfl) (fun h5 => ?_) (fun h5 => ?_)
      · have c6e : ((x4.1 : Int) == kt) = true := Eq.trans (by kernel_rfl) h5
        clear h5
        have c6 : (x4.1 : Int) = kt := eq_of_beq c6e
        clear c6e
        refine al_chunk 5 (by kernel_rfl) ?_
        refine al_test (by kernel_rfl) (by kernel_rfl) (by kernel_rfl) (fun h7 => ?_) (fun h7 => ?_)
        · have c8e : (decide ((x4.2.1 : Int) ≤ kk)) = true := Eq.trans (by kernel_rfl) h7
          clear h7
          have c8 : (x4.2.1 : Int) ≤ kk := of_decide_eq_true c8e
          clear c8e
          refine al_chunk 6 (by kernel_rfl) ?_
          refine al_test (by kernel_rfl) (by kernel_rfl) (by kernel_rfl) (fun h9 => ?_) (fun h9 => ?_)
          · have c10e : (decide ((kk : Int) ≤ x4.2.2)) = true := Eq.trans (by kernel_rfl) h9
            clear h9
            have c10 : (kk : Int) ≤ x4.2.2 := of_decide_eq_true c10e
            clear c10e
            refine al_known (by kernel_rfl) ?_
            repeat' (with_reducible first | refine sk_seq ?_ | refine sk_block ?_ | refine sk_skip ?_ | refine sk_scope ?_)
            refine sk_true (by kernel_rfl) ?_
            repeat' (with_reducible first | refine sk_seq ?_ | refine sk_block ?_ | refine sk_skip ?_ | refine sk_scope ?_)
            refine sk_regionK Try.cfgOk hS (by kernel_rfl) ?_
            repeat' (with_reducible first | refine sk_seq ?_ | refine sk_block ?_ | refine sk_skip ?_ | refine sk_scope ?_)
            refine sk_ret ?_
            refine .inr ⟨_, _, (fun h => by cases h), .inr ⟨rfl, ?_, rfl, rfl⟩, ⟨by kernel_rfl, ⟨by kernel_rfl, trivial⟩, ⟨sub_clo rfl, trivial⟩, Nat.le_of_ble_eq_true (by kernel_rfl), ⟨by kernel_rfl, (((wf_empty 0).new _).new _), (selfs (all_cons (o := .cells [inlL kcells 2 rs, inlL scells 3 ss, inlL kcells 2 ws]) (by kernel_rfl) (OSub.cells (.cons (sub_clo rfl) (.cons (sub_clo rfl) (.cons (sub_clo rfl) .nil)))) (all_cons (o := .cells [.int .i64 kt, .int .i64 kk]) (by kernel_rfl) (OSub.cells (.cons (sub_clo rfl) (.cons (sub_clo rfl) .nil))) (all_none))))⟩, mem_all (by kernel_rfl)⟩⟩
            · first | exact ⟨_, by assumption, by first | assumption | omega | exact Or.inl (by assumption) | exact Or.inr (by assumption) | exact fun h => h.elim (by assumption) (by assumption) | (simp_all; done)⟩ | exact ⟨_, by assumption, by first | assumption | omega | exact Or.inl (by assumption) | exact Or.inr (by assumption) | exact fun h => h.elim (by assumption) (by assumption) | (simp_all; done), rfl⟩
          · have c10e : (decide ((kk : Int) ≤ x4.2.2)) = false := Eq.trans (by kernel_rfl) h9
            clear h9
            have c10 : ¬ (kk : Int) ≤ x4.2.2 := of_decide_eq_false c10e
            clear c10e
            refine al_known (by kernel_rfl) ?_
            repeat' (with_reducible first | refine sk_seq ?_ | refine sk_block ?_ | refine sk_skip ?_ | refine sk_scope ?_)
            refine sk_false (by kernel_rfl) ?_
            repeat' (with_reducible first | refine sk_seq ?_ | refine sk_block ?_ | refine sk_skip ?_ | refine sk_scope ?_)
            refine sk_regionL Try.cfgOk hS ?_
            refine al_chunk 1 (by kernel_rfl) ?_
            refine al_eqv (v := .int .i64 (IntKind.wrap .i64 (((i : Nat) : Int) + 1))) (.int .i64 ((i + 1 : Nat) : Int)) (by kernel_rfl) (by kernel_rfl) (by kernel_rfl) (congrArg (Value.int .i64) (wrap_to (by omega) (by omega))) ?_
            refine al_known (by kernel_rfl) ?_
            repeat' (with_reducible first | refine sk_seq ?_ | refine sk_block ?_ | refine sk_skip ?_ | refine sk_scope ?_)
            refine .inl ⟨i + 1, rfl, ⟨?_, ?_⟩, ?_, ⟨by kernel_rfl, ⟨by kernel_rfl, by kernel_rfl, by kernel_rfl, trivial⟩, ⟨.ptr ⟨by decide, rfl⟩, .ptr ⟨by decide, rfl⟩, sub_clo rfl, trivial⟩, Nat.le_of_ble_eq_true (by kernel_rfl), ⟨by kernel_rfl, (((wf_empty 0).new _).new _), (selfs (all_cons (o := .cells [inlL kcells 2 rs, inlL scells 3 ss, inlL kcells 2 ws]) (by kernel_rfl) (OSub.cells (.cons (sub_clo rfl) (.cons (sub_clo rfl) (.cons (sub_clo rfl) .nil)))) (all_cons (o := .cells [.int .i64 kt, .int .i64 kk]) (by kernel_rfl) (OSub.cells (.cons (sub_clo rfl) (.cons (sub_clo rfl) .nil))) (all_none))))⟩, mem_all (by kernel_rfl)⟩⟩
            · omega
            · exact NoHit.succ (p := (fun x : Span => x.1 = kt ∧ x.2.1 ≤ kk ∧ kk ≤ x.2.2)) (by assumption) (by assumption) (by first | assumption | omega | exact fun h => h.elim (by assumption) (by assumption) | (simp_all; done))
            · omega
        · have c8e : (decide ((x4.2.1 : Int) ≤ kk)) = false := Eq.trans (by kernel_rfl) h7
          clear h7
          have c8 : ¬ (x4.2.1 : Int) ≤ kk := of_decide_eq_false c8e
          clear c8e
          refine al_known (by kernel_rfl) ?_
          repeat' (with_reducible first | refine sk_seq ?_ | refine sk_block ?_ | refine sk_skip ?_ | refine sk_scope ?_)
          refine sk_false (by kernel_rfl) ?_
          repeat' (with_reducible first | refine sk_seq ?_ | refine sk_block ?_ | refine sk_skip ?_ | refine sk_scope ?_)
          refine sk_regionL Try.cfgOk hS ?_
          refine al_chunk 1 (by kernel_rfl) ?_
          refine al_eqv (v := .int .i64 (IntKind.wrap .i64 (((i : Nat) : Int) + 1))) (.int .i64 ((i + 1 : Nat) : Int)) (by kernel_rfl) (by kernel_rfl) (by kernel_rfl) (congrArg (Value.int .i64) (wrap_to (by omega) (by omega))) ?_
          refine al_known (by kernel_rfl) ?_
          repeat' (with_reducible first | refine sk_seq ?_ | refine sk_block ?_ | refine sk_skip ?_ | refine sk_scope ?_)
          refine .inl ⟨i + 1, rfl, ⟨?_, ?_⟩, ?_, ⟨by kernel_rfl, ⟨by kernel_rfl, by kernel_rfl, by kernel_rfl, trivial⟩, ⟨.ptr ⟨by decide, rfl⟩, .ptr ⟨by decide, rfl⟩, sub_clo rfl, trivial⟩, Nat.le_of_ble_eq_true (by kernel_rfl), ⟨by kernel_rfl, (((wf_empty 0).new _).new _), (selfs (all_cons (o := .cells [inlL kcells 2 rs, inlL scells 3 ss, inlL kcells 2 ws]) (by kernel_rfl) (OSub.cells (.cons (sub_clo rfl) (.cons (sub_clo rfl) (.cons (sub_clo rfl) .nil)))) (all_cons (o := .cells [.int .i64 kt, .int .i64 kk]) (by kernel_rfl) (OSub.cells (.cons (sub_clo rfl) (.cons (sub_clo rfl) .nil))) (all_none))))⟩, mem_all (by kernel_rfl)⟩⟩
          · omega
          · exact NoHit.succ (p := (fun x : Span => x.1 = kt ∧ x.2.1 ≤ kk ∧ kk ≤ x.2.2)) (by assumption) (by assumption) (by first | assumption | omega | exact fun h => h.elim (by assumption) (by assumption) | (simp_all; done))
          · omega
      · have c6e : ((x4.1 : Int) == kt) = false := Eq.trans (by kernel_rfl) h5
        clear h5
        have c6 : ¬ (x4.1 : Int) = kt := ne_of_beq_false c6e
        clear c6e
        refine al_known (by kernel_rfl) ?_
        repeat' (with_reducible first | refine sk_seq ?_ | refine sk_block ?_ | refine sk_skip ?_ | refine sk_scope ?_)
        refine sk_false (by kernel_rfl) ?_
        repeat' (with_reducible first | refine sk_seq ?_ | refine sk_block ?_ | refine sk_skip ?_ | refine sk_scope ?_)
        refine sk_regionL Try.cfgOk hS ?_
        refine al_chunk 1 (by kernel_rfl) ?_
        refine al_eqv (v := .int .i64 (IntKind.wrap .i64 (((i : Nat) : Int) + 1))) (.int .i64 ((i + 1 : Nat) : Int)) (by kernel_rfl) (by kernel_rfl) (by kernel_rfl) (congrArg (Value.int .i64) (wrap_to (by omega) (by omega))) ?_
        refine al_known (by kernel_rfl) ?_
        repeat' (with_reducible first | refine sk_seq ?_ | refine sk_block ?_ | refine sk_skip ?_ | refine sk_scope ?_)
        refine .inl ⟨i + 1, rfl, ⟨?_, ?_⟩, ?_, ⟨by kernel_rfl, ⟨by kernel_rfl, by kernel_rfl, by kernel_rfl, trivial⟩, ⟨.ptr ⟨by decide, rfl⟩, .ptr ⟨by decide, rfl⟩, sub_clo rfl, trivial⟩, Nat.le_of_ble_eq_true (by kernel_rfl), ⟨by kernel_rfl, (((wf_empty 0).new _).new _), (selfs (all_cons (o := .cells [inlL kcells 2 rs, inlL scells 3 ss, inlL kcells 2 ws]) (by kernel_rfl) (OSub.cells (.cons (sub_clo rfl) (.cons (sub_clo rfl) (.cons (sub_clo rfl) .nil)))) (all_cons (o := .cells [.int .i64 kt, .int .i64 kk]) (by kernel_rfl) (OSub.cells (.cons (sub_clo rfl) (.cons (sub_clo rfl) .nil))) (all_none))))⟩, mem_all (by kernel_rfl)⟩⟩
        · omega
        · exact NoHit.succ (p := (fun x : Span => x.1 = kt ∧ x.2.1 ≤ kk ∧ kk ≤ x.2.2)) (by assumption) (by assumption) (by first | assumption | omega | exact fun h => h.elim (by assumption) (by assumption) | (simp_all; done))
        · omega
    · have c3e : (decide ((((i : Nat) : Int) : Int) < ((ss.length : Nat) : Int))) = false := Eq.trans (by kernel_rfl) h2
      clear h2
      have c3 : ¬ (((i : Nat) : Int) : Int) < ((ss.length : Nat) : Int) := of_decide_eq_false c3e
      clear c3e
      refine al_nil ?_
      repeat' (with_reducible first | refine sk_seq ?_ | refine sk_block ?_ | refine sk_skip ?_ | refine sk_scope ?_)
      refine sk_false (by kernel_rfl) ?_
      repeat' (with_reducible first | refine sk_seq ?_ | refine sk_block ?_ | refine sk_skip ?_ | refine sk_scope ?_)
      refine sk_exit ?_
      dsimp only
      refine .inr ⟨_, _, (fun h => by cases h), .inl ⟨rfl, ?_, rfl, rfl⟩, ⟨by kernel_rfl, ⟨by kernel_rfl, by kernel_rfl, by kernel_rfl, trivial⟩, ⟨.ptr ⟨by decide, rfl⟩, .ptr ⟨by decide, rfl⟩, sub_clo rfl, trivial⟩, Nat.le_of_ble_eq_true (by kernel_rfl), ⟨by kernel_rfl, (((wf_empty 0).new _).new _), (selfs (all_cons (o := .cells [inlL kcells 2 rs, inlL scells 3 ss, inlL kcells 2 ws]) (by kernel_rfl) (OSub.cells (.cons (sub_clo rfl) (.cons (sub_clo rfl) (.cons (sub_clo rfl) .nil)))) (all_cons (o := .cells [.int .i64 kt, .int .i64 kk]) (by kernel_rfl) (OSub.cells (.cons (sub_clo rfl) (.cons (sub_clo rfl) .nil))) (all_none))))⟩, mem_all (by kernel_rfl)⟩⟩
      · omega
  · exact ⟨by omega, by exact NoHit.zero⟩
  rintro o e1 s1 ⟨a, lv1, M1, m1, ha, (⟨rfl, hx, rfl, rfl⟩ | ⟨rfl, hx, rfl, rfl⟩), rfl, rfl⟩
  ·
    obtain ⟨i, ea⟩ : ∃ z, z = a := ⟨_, rfl⟩
    subst ea
    obtain ⟨i0, i1⟩ := ha
    dsimp only
    try rw [if_pos rfl]
    repeat' (with_reducible first | refine sk_seq ?_ | refine sk_block ?_ | refine sk_skip ?_ | refine sk_scope ?_)
    refine sk_regionL Try.cfgOk hS ?_
    refine al_chunk 3 (by kernel_rfl) ?_
    refine al_callB 39 [inlL kcells 2 rs, .agg #[.int .i64 kt, .int .i64 kk]] (decide (∃ x : Key, x ∈ rs ∧ (x.1 = kt ∧ x.2 = kk))) _ rfl (fun b h => by cases h) (by kernel_rfl) (by kernel_rfl) (hC39 _ _ _ _ (con_has_at rs kt kk (by first | omega | (simp; done) | (simp; omega)) _)) (fun h11 => ?_) (fun h11 => ?_)
    · have c12 : ∃ x : Key, x ∈ rs ∧ (x.1 = kt ∧ x.2 = kk) := of_decide_eq_true h11
      clear h11
      refine al_known (by kernel_rfl) ?_
      repeat' (with_reducible first | refine sk_seq ?_ | refine sk_block ?_ | refine sk_skip ?_ | refine sk_scope ?_)
      refine sk_ret ?_
      exact ⟨[.bool true], by kernel_rfl, fs_to (fs_clo rfl) (congrArg Value.bool (by first | (obtain ⟨x, h1, h2⟩ := hx; exact (decide_eq_true (Or.inl ⟨x, List.mem_of_getElem? h1, h2⟩)).symm) | exact (decide_eq_true (Or.inr (by assumption))).symm | exact (decide_eq_false (by rintro (h | h); exact NoHit.none (by assumption) hx h; contradiction)).symm)), Nat.le_of_ble_eq_true (by kernel_rfl)⟩
    · have c12 : ¬ (∃ x : Key, x ∈ rs ∧ (x.1 = kt ∧ x.2 = kk)) := of_decide_eq_false h11
      clear h11
      refine al_known (by kernel_rfl) ?_
      repeat' (with_reducible first | refine sk_seq ?_ | refine sk_block ?_ | refine sk_skip ?_ | refine sk_scope ?_)
      refine sk_ret ?_
      exact ⟨[.bool false], by kernel_rfl, fs_to (fs_clo rfl) (congrArg Value.bool (by first | (obtain ⟨x, h1, h2⟩ := hx; exact (decide_eq_true (Or.inl ⟨x, List.mem_of_getElem? h1, h2⟩)).symm) | exact (decide_eq_true (Or.inr (by assumption))).symm | exact (decide_eq_false (by rintro (h | h); exact NoHit.none (by assumption) hx h; contradiction)).symm)), Nat.le_of_ble_eq_true (by kernel_rfl)⟩
  ·
    obtain ⟨i, ea⟩ : ∃ z, z = a := ⟨_, rfl⟩
    subst ea
    obtain ⟨i0, i1⟩ := ha
    dsimp only
    exact ⟨[.bool true], by kernel_rfl, fs_to (fs_clo rfl) (congrArg Value.bool (by first | (obtain ⟨x, h1, h2⟩ := hx; exact (decide_eq_true (Or.inl ⟨x, List.mem_of_getElem? h1, h2⟩)).symm) | exact (decide_eq_true (Or.inr (by assumption))).symm | exact (decide_eq_false (by rintro (h | h); exact NoHit.none (by assumption) hx h; contradiction)).symm)), Nat.le_of_ble_eq_true (by kernel_rfl)⟩
noncomputable def con_readsR_ : Con Try.prog 0 := Con.pure (α := (List Key) × (List Span) × (List Key) × Int × Int) 14 (fun z9 => [.agg #[inlL kcells 2 z9.1, inlL scells 3 z9.2.1, inlL kcells 2 z9.2.2.1], .agg #[.int .i64 z9.2.2.2.1, .int .i64 z9.2.2.2.2]]) (fun z9 => .bool (decide (readsR z9.1 z9.2.1 z9.2.2.2.1 z9.2.2.2.2))) (fun z9 => (z9.1.length ≤ 1000000) ∧ (z9.2.1.length ≤ 1000000) ∧ (z9.2.2.1.length ≤ 1000000)) (by
  rintro ⟨a0, a1, a2, a3, a4⟩ ⟨b0, b1, b2, b3, b4⟩ h
  simp only [List.cons.injEq, and_true, Value.int.injEq, Value.bool.injEq, Value.string.injEq, Value.agg.injEq, Array.mk.injEq, true_and, kcells_iff, scells_iff] at h
  first | exact h | (simp only [Prod.ext_iff, h, and_self, and_true, true_and]; done) | simp_all [Prod.ext_iff]) (fun _ => rfl) (fun _ => rfl) 400 (by
  rintro ⟨a0, a1, a2, a3, a4⟩ ⟨p0, p1, p2⟩
  exact readsR__sc a0 a1 a2 a3 a4 p0 p1 p2)
theorem con_readsR__at (rs : List Key) (ss : List Span) (ws : List Key) (kt : Int) (kk : Int) (h0 : rs.length ≤ 1000000) (h1 : ss.length ≤ 1000000) (h2 : ws.length ≤ 1000000) (s : St) : con_readsR_.rel [.agg #[inlL kcells 2 rs, inlL scells 3 ss, inlL kcells 2 ws], .agg #[.int .i64 kt, .int .i64 kk]] s (.bool (decide (readsR rs ss kt kk))) s := con_pure (rs, ss, ws, kt, kk) ⟨h0, h1, h2⟩ s
abbrev hitsP (rs : List Key) (ss : List Span) (ws : List Key) (kt kk : Int) : Prop := readsP rs ss kt kk ∨ hasK ws kt kk
abbrev hitsR (rs : List Key) (ss : List Span) (ws : List Key) (kt kk : Int) : Prop := readsR rs ss kt kk ∨ hasK ws kt kk
abbrev ontoP (l : List Key) (rs : List Key) (ss : List Span) (ws : List Key) : Prop := ∃ x : Key, x ∈ l ∧ (hitsP rs ss ws x.1 x.2)
theorem onto1_fn : Try.cfg.fn 78 = some Try.f78 := by kernel_rfl
set_option maxHeartbeats 4000000 in
set_option maxRecDepth 100000 in
theorem onto1_sc (rs : List Key) (ss : List Span) (ws : List Key) (kt : Int) (kk : Int) (h0 : rs.length ≤ 1000000) (h1 : ss.length ≤ 1000000) (h2 : ws.length ≤ 1000000) : SC Try.prog 0 78 [.agg #[.int .i64 kt, .int .i64 kk], .pointer (some ⟨0, 0, none⟩)] ((St.empty 0).new (.cells [inlL kcells 2 rs, inlL scells 3 ss, inlL kcells 2 ws])) fun v s' => v = .bool (decide (hitsP rs ss ws kt kk)) ∧ s'.n ≤ 400 ∧ ∀ a, a < 1 → s'.get a = some (objL [.cells [inlL kcells 2 rs, inlL scells 3 ss, inlL kcells 2 ws]] a) := by
  obtain ⟨rc, hS, hC⟩ := rc_con (sound_run Try.cfgOk 300) [con_readsF, con_writesP] (by kernel_rfl)
  have hC17 := hC con_readsF (.head _)
  have hC18 := hC con_writesP (.tail _ (.head _))
  refine sc_body Try.cfgOk onto1_fn rfl ?_
  repeat' (with_reducible first | refine sk_seq ?_ | refine sk_block ?_ | refine sk_skip ?_ | refine sk_scope ?_)
  refine sk_regionK Try.cfgOk hS (by kernel_rfl) ?_
  repeat' (with_reducible first | refine sk_seq ?_ | refine sk_block ?_ | refine sk_skip ?_ | refine sk_scope ?_)
  refine sk_regionL Try.cfgOk hS ?_
  refine al_chunk 2 (by kernel_rfl) ?_
  refine al_callB 17 [.agg #[inlL kcells 2 rs, inlL scells 3 ss, inlL kcells 2 ws], .agg #[.int .i64 kt, .int .i64 kk]] (decide (readsP rs ss kt kk)) _ rfl (fun b h => by cases h) (by kernel_rfl) (by kernel_rfl) (hC17 _ _ _ _ (con_readsF_at rs ss ws kt kk (by first | omega | (simp; done) | (simp; omega)) (by first | omega | (simp; done) | (simp; omega)) _)) (fun h1 => ?_) (fun h1 => ?_)
  · have c2 : readsP rs ss kt kk := of_decide_eq_true h1
    clear h1
    refine al_known (by kernel_rfl) ?_
    repeat' (with_reducible first | refine sk_seq ?_ | refine sk_block ?_ | refine sk_skip ?_ | refine sk_scope ?_)
    refine sk_ret ?_
    exact ⟨[.bool true], by kernel_rfl, congrArg Value.bool (by first | exact (decide_eq_true (Or.inl (by assumption))).symm | exact (decide_eq_true (Or.inr (by assumption))).symm | exact (decide_eq_false (by rintro (h | h) <;> contradiction)).symm), Nat.le_of_ble_eq_true (by kernel_rfl), all1 (by kernel_rfl)⟩
  · have c2 : ¬ (readsP rs ss kt kk) := of_decide_eq_false h1
    clear h1
    refine al_chunk 3 (by kernel_rfl) ?_
    refine al_callB 18 [.agg #[inlL kcells 2 rs, inlL scells 3 ss, inlL kcells 2 ws], .agg #[.int .i64 kt, .int .i64 kk]] (decide (hasK ws kt kk)) _ rfl (fun b h => by cases h) (by kernel_rfl) (by kernel_rfl) (hC18 _ _ _ _ (con_writesP_at rs ss ws kt kk (by first | omega | (simp; done) | (simp; omega)) _)) (fun h3 => ?_) (fun h3 => ?_)
    · have c4 : hasK ws kt kk := of_decide_eq_true h3
      clear h3
      refine al_known (by kernel_rfl) ?_
      repeat' (with_reducible first | refine sk_seq ?_ | refine sk_block ?_ | refine sk_skip ?_ | refine sk_scope ?_)
      refine sk_ret ?_
      exact ⟨[.bool true], by kernel_rfl, congrArg Value.bool (by first | exact (decide_eq_true (Or.inl (by assumption))).symm | exact (decide_eq_true (Or.inr (by assumption))).symm | exact (decide_eq_false (by rintro (h | h) <;> contradiction)).symm), Nat.le_of_ble_eq_true (by kernel_rfl), all1 (by kernel_rfl)⟩
    · have c4 : ¬ (hasK ws kt kk) := of_decide_eq_false h3
      clear h3
      refine al_known (by kernel_rfl) ?_
      repeat' (with_reducible first | refine sk_seq ?_ | refine sk_block ?_ | refine sk_skip ?_ | refine sk_scope ?_)
      refine sk_ret ?_
      exact ⟨[.bool false], by kernel_rfl, congrArg Value.bool (by first | exact (decide_eq_true (Or.inl (by assumption))).symm | exact (decide_eq_true (Or.inr (by assumption))).symm | exact (decide_eq_false (by rintro (h | h) <;> contradiction)).symm), Nat.le_of_ble_eq_true (by kernel_rfl), all1 (by kernel_rfl)⟩
noncomputable def sm_onto1 : Small Try.prog 0 78 ((List Key) × (List Span) × (List Key) × Int × Int) where
  k := 1
  A := fun z9 ρ => [.agg #[.int .i64 z9.2.2.2.1, .int .i64 z9.2.2.2.2], .pointer (some ⟨(ρ 0), 0, none⟩)]
  M := fun z9 ρ => objL [.cells [inlL kcells 2 z9.1, inlL scells 3 z9.2.1, inlL kcells 2 z9.2.2.1]]
  M1 := fun z9 ρ => objL [.cells [inlL kcells 2 z9.1, inlL scells 3 z9.2.1, inlL kcells 2 z9.2.2.1]]
  V := fun z9 ρ => .bool (decide (hitsP z9.1 z9.2.1 z9.2.2.1 z9.2.2.2.1 z9.2.2.2.2))
  Pre := fun z9 => (z9.1.length ≤ 1000000) ∧ (z9.2.1.length ≤ 1000000) ∧ (z9.2.2.1.length ≤ 1000000)
  ch := []
  N := 400
  s0 := fun z9 => ((St.empty 0).new (.cells [inlL kcells 2 z9.1, inlL scells 3 z9.2.1, inlL kcells 2 z9.2.2.1]))
  hch := by decide
  hsame := fun x ρ => all1 (fun _ => rfl)
  hG := rfl
  hn := fun x => rfl
  hwf := fun x => ((wf_empty 0).new _)
  hget := fun x => all1 (by kernel_rfl)
  noloop := fun x ρ => all1 (fun h => h.elim)
  inA := fun x ρ R hR => .cons (.agg (.cons (sub_clo rfl) (.cons (sub_clo rfl) .nil))) (.cons (.ptr (hR 0 _ (by decide))) .nil)
  inM := fun x ρ R hR => all1 (OSub.cells (.cons (sub_clo rfl) (.cons (sub_clo rfl) (.cons (sub_clo rfl) .nil))))
  outM := fun x ρ R hR => all1 (OSub.cells (.cons (sub_clo rfl) (.cons (sub_clo rfl) (.cons (sub_clo rfl) .nil))))
  outV := fun x ρ R hR => sub_clo rfl
  dom := by
    intro x ρ a ha
    cases ha
  sc := by
    rintro ⟨a0, a1, a2, a3, a4⟩ ⟨p0, p1, p2⟩
    exact onto1_sc a0 a1 a2 a3 a4 p0 p1 p2
  det := by
    rintro ⟨a0, a1, a2, a3, a4⟩ ρ ⟨b0, b1, b2, b3, b4⟩ σ s h hm hm'
    simp only [List.cons.injEq, and_true, Value.int.injEq, Value.bool.injEq, Value.string.injEq, Value.agg.injEq, Array.mk.injEq, true_and, Value.pointer.injEq, Option.some.injEq, Addr.mk.injEq, Value.func.injEq, AObj.cells.injEq, AObj.arr.injEq, slL_iff, kcells_iff, scells_iff] at h
    have q : ∀ a, a < 1 → ρ a = σ a := all1 (by simp_all)
    have e0 := (hm 0 (by decide)).symm.trans ((congrArg s.get (q 0 (by decide))).trans (hm' 0 (by decide)))
    simp only [objL, List.getD_cons_zero, List.getD_cons_succ, List.cons.injEq, and_true, Value.int.injEq, Value.bool.injEq, Value.string.injEq, Value.agg.injEq, Array.mk.injEq, true_and, Value.pointer.injEq, Option.some.injEq, Addr.mk.injEq, Value.func.injEq, AObj.cells.injEq, AObj.arr.injEq, slL_iff, kcells_iff, scells_iff] at e0
    exact ⟨by first | rfl | (simp_all [Prod.ext_iff]; done) | exact e0, q⟩
  par := by
    intro x ρ σ h
    have h0 := h 0 (by decide)
    exact ⟨by first | rfl | simp only [h0], by first | exact fun _ _ => rfl | (simp only [h0]; exact fun _ _ => rfl)⟩
noncomputable def con_onto1 : Con Try.prog 0 := sm_onto1.con
theorem con_onto1_at (rs : List Key) (ss : List Span) (ws : List Key) (kt : Int) (kk : Int) (i0 : Nat) (h0 : rs.length ≤ 1000000) (h1 : ss.length ≤ 1000000) (h2 : ws.length ≤ 1000000) (s : St) (hn : nodupB [i0] = true) (m0 : s.get i0 = some (.cells [inlL kcells 2 rs, inlL scells 3 ss, inlL kcells 2 ws])) : con_onto1.rel [.agg #[.int .i64 kt, .int .i64 kk], .pointer (some ⟨i0, 0, none⟩)] s (.bool (decide (hitsP rs ss ws kt kk))) s :=
  sm_onto1.at_ (rs, ss, ws, kt, kk) [i0] s _ ⟨h0, h1, h2⟩ rfl hn rfl (all1 m0) rfl rfl
theorem indexF_fn : Try.cfg.fn 88 = some Try.f88 := by kernel_rfl
set_option maxHeartbeats 4000000 in
set_option maxRecDepth 100000 in
theorem indexF_sc (l : List Key) (rs : List Key) (ss : List Span) (ws : List Key) (h0 : l.length ≤ 1000000) (h1 : rs.length ≤ 1000000) (h2 : ss.length ≤ 1000000) (h3 : ws.length ≤ 1000000) : SC Try.prog 0 88 [inlL kcells 2 l, .func (.func 78) #[] #[.pointer (some ⟨0, 0, none⟩)]] ((St.empty 0).new (.cells [inlL kcells 2 rs, inlL scells 3 ss, inlL kcells 2 ws])) fun v s' => v = .int .i64 (fidx (fun x : Key => hitsP rs ss ws x.1 x.2) l) ∧ s'.n ≤ 400 ∧ ∀ a, a < 1 → s'.get a = some (objL [.cells [inlL kcells 2 rs, inlL scells 3 ss, inlL kcells 2 ws]] a) := by
  obtain ⟨rc, hS, hC⟩ := rc_con (sound_run Try.cfgOk 300) [con_onto1] (by kernel_rfl)
  have hC78 := hC con_onto1 (.head _)
  refine sc_body Try.cfgOk indexF_fn rfl ?_
  repeat' (with_reducible first | refine sk_seq ?_ | refine sk_block ?_ | refine sk_skip ?_ | refine sk_scope ?_)
  refine sk_regionK Try.cfgOk hS (by kernel_rfl) ?_
  repeat' (with_reducible first | refine sk_seq ?_ | refine sk_block ?_ | refine sk_skip ?_ | refine sk_scope ?_)
  refine sk_regionL Try.cfgOk hS ?_
  refine al_chunk 1 (by kernel_rfl) ?_
  refine al_map (lenB Try.cfg (St.empty 0) 22 (inlL kcells 2 l)) (.int .i64 ((l.length : Nat) : Int)) (by kernel_rfl) (by kernel_rfl) (by kernel_rfl) (len_inl tokC (by kernel_rfl)) ?_
  refine al_known (by kernel_rfl) ?_
  repeat' (with_reducible first | refine sk_seq ?_ | refine sk_block ?_ | refine sk_skip ?_ | refine sk_scope ?_)
  refine sk_live 19 ((fun a : Nat => [(0, inlL kcells 2 l), (1, .func (.func 78) #[] #[.pointer (some ⟨0, 0, none⟩)]), (7, .int .i64 ((l.length : Nat) : Int)), (8, .int .i64 ((a : Nat) : Int))]) 0) (by kernel_rfl) ⟨by kernel_rfl, by kernel_rfl, by kernel_rfl, by kernel_rfl, trivial⟩ fun m1 => ?_
  refine sk_st ((fun a : Nat => ((St.empty 0).new (.cells [inlL kcells 2 rs, inlL scells 3 ss, inlL kcells 2 ws]))) 0) (by kernel_rfl) ?_
  refine (sk_while (k := 1) (N := 400) (live := (fun a : Nat => [(0, inlL kcells 2 l), (1, .func (.func 78) #[] #[.pointer (some ⟨0, 0, none⟩)]), (7, .int .i64 ((l.length : Nat) : Int)), (8, .int .i64 ((a : Nat) : Int))])) (M := (fun a : Nat => ((St.empty 0).new (.cells [inlL kcells 2 rs, inlL scells 3 ss, inlL kcells 2 ws])))) (fun a : Nat => (a ≤ l.length) ∧ (NoHit (fun x : Key => hitsP rs ss ws x.1 x.2) l a)) (fun a : Nat => l.length - a) (fun (a : Nat) (o : Out) (lv : List (Nat × Value)) (M : St) => (o = .exit 0 ∧ (¬ a < l.length) ∧ lv = [(0, inlL kcells 2 l), (1, .func (.func 78) #[] #[.pointer (some ⟨0, 0, none⟩)]), (7, .int .i64 ((l.length : Nat) : Int)), (8, .int .i64 ((a : Nat) : Int))] ∧ M = ((St.empty 0).new (.cells [inlL kcells 2 rs, inlL scells 3 ss, inlL kcells 2 ws]))) ∨ (o = .ret ∧ (∃ x : Key, l[a]? = some x ∧ (hitsP rs ss ws x.1 x.2)) ∧ lv = [(4, .int .i64 ((a : Nat) : Int))] ∧ M = ((St.empty 0).new (.cells [inlL kcells 2 rs, inlL scells 3 ss, inlL kcells 2 ws])))) (Nat.zero_le _) (fun a ha => ?_) (fun a ha => ?_) (fun a m ha => ?_) (fun a m ha => ?_) 0 m1 ?_).up ?_
  · exact ⟨by kernel_rfl, ((wf_empty 0).new _), (selfs (all_cons (o := .cells [inlL kcells 2 rs, inlL scells 3 ss, inlL kcells 2 ws]) (by kernel_rfl) (OSub.cells (.cons (sub_clo rfl) (.cons (sub_clo rfl) (.cons (sub_clo rfl) .nil)))) (all_none)))⟩
  · exact ⟨sub_clo rfl, .func (.same _ (by intro l h; cases h)) .nil (.cons (.ptr ⟨by decide, rfl⟩) .nil), sub_clo rfl, sub_clo rfl, trivial⟩
  · exact ⟨by kernel_rfl, by kernel_rfl, by kernel_rfl, by kernel_rfl, trivial⟩
  · obtain ⟨i, ea⟩ : ∃ z, z = a := ⟨_, rfl⟩
    subst ea
    obtain ⟨i0, i1⟩ := ha
    repeat' (with_reducible first | refine sk_seq ?_ | refine sk_block ?_ | refine sk_skip ?_ | refine sk_scope ?_)
    refine sk_regionL Try.cfgOk hS ?_
    refine al_test (by kernel_rfl) (by kernel_rfl) (by kernel_rfl) (fun h2 => ?_) (fun h2 => ?_)
    · have c3e : (decide ((((i : Nat) : Int) : Int) < ((l.length : Nat) : Int))) = true := Eq.trans (by kernel_rfl) h2
      clear h2
      have c3 : (((i : Nat) : Int) : Int) < ((l.length : Nat) : Int) := of_decide_eq_true c3e
      clear c3e
      refine al_nil ?_
      repeat' (with_reducible first | refine sk_seq ?_ | refine sk_block ?_ | refine sk_skip ?_ | refine sk_scope ?_)
      refine sk_true (by kernel_rfl) ?_
      repeat' (with_reducible first | refine sk_seq ?_ | refine sk_block ?_ | refine sk_skip ?_ | refine sk_scope ?_)
      refine sk_regionK Try.cfgOk hS (by kernel_rfl) ?_
      repeat' (with_reducible first | refine sk_seq ?_ | refine sk_block ?_ | refine sk_skip ?_ | refine sk_scope ?_)
      refine sk_regionL Try.cfgOk hS ?_
      refine al_chunk 3 (by kernel_rfl) ?_
      refine al_map (indexAddrV Try.cfg 22 (inlL kcells 2 l) (.int .i64 ((i : Nat) : Int))) (elt (flatL kcells l) (i * 2)) (by kernel_rfl) (by kernel_rfl) (by kernel_rfl) (idx_inlL tokC (by kernel_rfl) (by omega)) ?_
      obtain ⟨x4, hx4⟩ := get_ex (l := l) (i := i) (by omega)
      refine al_map (loadV Try.cfg (St.empty 0) 30 (elt (flatL kcells l) (i * 2))) (.agg #[.int .i64 x4.1, .int .i64 x4.2]) (by kernel_rfl) (by kernel_rfl) (by kernel_rfl) (load_el tokC (by kernel_rfl) kcells_len hx4) ?_
      refine al_callB 78 [.agg #[.int .i64 x4.1, .int .i64 x4.2], .pointer (some ⟨0, 0, none⟩)] (decide (hitsP rs ss ws x4.1 x4.2)) _ rfl (fun b h => by cases h) (by kernel_rfl) (by kernel_rfl) (hC78 _ _ _ _ (con_onto1_at rs ss ws x4.1 x4.2 0 (by first | omega | (simp; done) | (simp; omega)) (by first | omega | (simp; done) | (simp; omega)) (by first | omega | (simp; done) | (simp; omega)) _ (by kernel_rfl) (by kernel_rfl) )) (fun h5 => ?_) (fun h5 => ?_)
      · have c6 : hitsP rs ss ws x4.1 x4.2 := of_decide_eq_true h5
        clear h5
        refine al_nil ?_
        repeat' (with_reducible first | refine sk_seq ?_ | refine sk_block ?_ | refine sk_skip ?_ | refine sk_scope ?_)
        refine sk_true (by kernel_rfl) ?_
        repeat' (with_reducible first | refine sk_seq ?_ | refine sk_block ?_ | refine sk_skip ?_ | refine sk_scope ?_)
        refine sk_regionK Try.cfgOk hS (by kernel_rfl) ?_
        repeat' (with_reducible first | refine sk_seq ?_ | refine sk_block ?_ | refine sk_skip ?_ | refine sk_scope ?_)
        refine sk_ret ?_
        refine .inr ⟨_, _, (fun h => by cases h), .inr ⟨rfl, ?_, rfl, rfl⟩, ⟨by kernel_rfl, ⟨by kernel_rfl, trivial⟩, ⟨sub_clo rfl, trivial⟩, Nat.le_of_ble_eq_true (by kernel_rfl), ⟨by kernel_rfl, ((wf_empty 0).new _), (selfs (all_cons (o := .cells [inlL kcells 2 rs, inlL scells 3 ss, inlL kcells 2 ws]) (by kernel_rfl) (OSub.cells (.cons (sub_clo rfl) (.cons (sub_clo rfl) (.cons (sub_clo rfl) .nil)))) (all_none)))⟩, mem_all (by kernel_rfl)⟩⟩
        · first | exact ⟨_, by assumption, by first | assumption | omega | exact Or.inl (by assumption) | exact Or.inr (by assumption) | exact fun h => h.elim (by assumption) (by assumption) | (simp_all; done)⟩ | exact ⟨_, by assumption, by first | assumption | omega | exact Or.inl (by assumption) | exact Or.inr (by assumption) | exact fun h => h.elim (by assumption) (by assumption) | (simp_all; done), rfl⟩
      · have c6 : ¬ (hitsP rs ss ws x4.1 x4.2) := of_decide_eq_false h5
        clear h5
        refine al_nil ?_
        repeat' (with_reducible first | refine sk_seq ?_ | refine sk_block ?_ | refine sk_skip ?_ | refine sk_scope ?_)
        refine sk_false (by kernel_rfl) ?_
        repeat' (with_reducible first | refine sk_seq ?_ | refine sk_block ?_ | refine sk_skip ?_ | refine sk_scope ?_)
        refine sk_regionL Try.cfgOk hS ?_
        refine al_eqv (v := .int .i64 (IntKind.wrap .i64 (((i : Nat) : Int) + 1))) (.int .i64 ((i + 1 : Nat) : Int)) (by kernel_rfl) (by kernel_rfl) (by kernel_rfl) (congrArg (Value.int .i64) (wrap_to (by omega) (by omega))) ?_
        refine al_known (by kernel_rfl) ?_
        repeat' (with_reducible first | refine sk_seq ?_ | refine sk_block ?_ | refine sk_skip ?_ | refine sk_scope ?_)
        refine .inl ⟨i + 1, rfl, ⟨?_, ?_⟩, ?_, ⟨by kernel_rfl, ⟨by kernel_rfl, by kernel_rfl, by kernel_rfl, by kernel_rfl, trivial⟩, ⟨sub_clo rfl, .func (.same _ (by intro l h; cases h)) .nil (.cons (.ptr ⟨by decide, rfl⟩) .nil), sub_clo rfl, sub_clo rfl, trivial⟩, Nat.le_of_ble_eq_true (by kernel_rfl), ⟨by kernel_rfl, ((wf_empty 0).new _), (selfs (all_cons (o := .cells [inlL kcells 2 rs, inlL scells 3 ss, inlL kcells 2 ws]) (by kernel_rfl) (OSub.cells (.cons (sub_clo rfl) (.cons (sub_clo rfl) (.cons (sub_clo rfl) .nil)))) (all_none)))⟩, mem_all (by kernel_rfl)⟩⟩
        · omega
        · exact NoHit.succ (p := (fun x : Key => hitsP rs ss ws x.1 x.2)) (by assumption) (by assumption) (by first | assumption | omega | exact fun h => h.elim (by assumption) (by assumption) | (simp_all; done))
        · omega
    · have c3e : (decide ((((i : Nat) : Int) : Int) < ((l.length : Nat) : Int))) = false := Eq.trans (by kernel_rfl) h2
      clear h2
      have c3 : ¬ (((i : Nat) : Int) : Int) < ((l.length : Nat) : Int) := of_decide_eq_false c3e
      clear c3e
      refine al_nil ?_
      repeat' (with_reducible first | refine sk_seq ?_ | refine sk_block ?_ | refine sk_skip ?_ | refine sk_scope ?_)
      refine sk_false (by kernel_rfl) ?_
      repeat' (with_reducible first | refine sk_seq ?_ | refine sk_block ?_ | refine sk_skip ?_ | refine sk_scope ?_)
      refine sk_exit ?_
      dsimp only
      refine .inr ⟨_, _, (fun h => by cases h), .inl ⟨rfl, ?_, rfl, rfl⟩, ⟨by kernel_rfl, ⟨by kernel_rfl, by kernel_rfl, by kernel_rfl, by kernel_rfl, trivial⟩, ⟨sub_clo rfl, .func (.same _ (by intro l h; cases h)) .nil (.cons (.ptr ⟨by decide, rfl⟩) .nil), sub_clo rfl, sub_clo rfl, trivial⟩, Nat.le_of_ble_eq_true (by kernel_rfl), ⟨by kernel_rfl, ((wf_empty 0).new _), (selfs (all_cons (o := .cells [inlL kcells 2 rs, inlL scells 3 ss, inlL kcells 2 ws]) (by kernel_rfl) (OSub.cells (.cons (sub_clo rfl) (.cons (sub_clo rfl) (.cons (sub_clo rfl) .nil)))) (all_none)))⟩, mem_all (by kernel_rfl)⟩⟩
      · omega
  · exact ⟨by omega, by exact NoHit.zero⟩
  rintro o e1 s1 ⟨a, lv1, M1, m1, ha, (⟨rfl, hx, rfl, rfl⟩ | ⟨rfl, hx, rfl, rfl⟩), rfl, rfl⟩
  ·
    obtain ⟨i, ea⟩ : ∃ z, z = a := ⟨_, rfl⟩
    subst ea
    obtain ⟨i0, i1⟩ := ha
    dsimp only
    try rw [if_pos rfl]
    repeat' (with_reducible first | refine sk_seq ?_ | refine sk_block ?_ | refine sk_skip ?_ | refine sk_scope ?_)
    refine sk_regionK Try.cfgOk hS (by kernel_rfl) ?_
    repeat' (with_reducible first | refine sk_seq ?_ | refine sk_block ?_ | refine sk_skip ?_ | refine sk_scope ?_)
    refine sk_ret ?_
    exact ⟨[.int .i64 (-1)], by kernel_rfl, congrArg (Value.int .i64) (by first | (obtain ⟨x, h1, h2⟩ := hx; exact (fidx_hit (by assumption) h1 h2).symm) | exact (fidx_none (NoHit.none (by assumption) hx)).symm), Nat.le_of_ble_eq_true (by kernel_rfl), all1 (by kernel_rfl)⟩
  ·
    obtain ⟨i, ea⟩ : ∃ z, z = a := ⟨_, rfl⟩
    subst ea
    obtain ⟨i0, i1⟩ := ha
    dsimp only
    exact ⟨[.int .i64 ((i : Nat) : Int)], by kernel_rfl, congrArg (Value.int .i64) (by first | (obtain ⟨x, h1, h2⟩ := hx; exact (fidx_hit (by assumption) h1 h2).symm) | exact (fidx_none (NoHit.none (by assumption) hx)).symm), Nat.le_of_ble_eq_true (by kernel_rfl), all1 (by kernel_rfl)⟩
noncomputable def sm_indexF : Small Try.prog 0 88 ((List Key) × (List Key) × (List Span) × (List Key)) where
  k := 1
  A := fun z9 ρ => [inlL kcells 2 z9.1, .func (.func 78) #[] #[.pointer (some ⟨(ρ 0), 0, none⟩)]]
  M := fun z9 ρ => objL [.cells [inlL kcells 2 z9.2.1, inlL scells 3 z9.2.2.1, inlL kcells 2 z9.2.2.2]]
  M1 := fun z9 ρ => objL [.cells [inlL kcells 2 z9.2.1, inlL scells 3 z9.2.2.1, inlL kcells 2 z9.2.2.2]]
  V := fun z9 ρ => .int .i64 (fidx (fun x : Key => hitsP z9.2.1 z9.2.2.1 z9.2.2.2 x.1 x.2) z9.1)
  Pre := fun z9 => (z9.1.length ≤ 1000000) ∧ (z9.2.1.length ≤ 1000000) ∧ (z9.2.2.1.length ≤ 1000000) ∧ (z9.2.2.2.length ≤ 1000000)
  ch := []
  N := 400
  s0 := fun z9 => ((St.empty 0).new (.cells [inlL kcells 2 z9.2.1, inlL scells 3 z9.2.2.1, inlL kcells 2 z9.2.2.2]))
  hch := by decide
  hsame := fun x ρ => all1 (fun _ => rfl)
  hG := rfl
  hn := fun x => rfl
  hwf := fun x => ((wf_empty 0).new _)
  hget := fun x => all1 (by kernel_rfl)
  noloop := fun x ρ => all1 (fun h => h.elim)
  inA := fun x ρ R hR => .cons (sub_clo rfl) (.cons (.func (.same _ (by intro l h; cases h)) .nil (.cons (.ptr (hR 0 _ (by decide))) .nil)) .nil)
  inM := fun x ρ R hR => all1 (OSub.cells (.cons (sub_clo rfl) (.cons (sub_clo rfl) (.cons (sub_clo rfl) .nil))))
  outM := fun x ρ R hR => all1 (OSub.cells (.cons (sub_clo rfl) (.cons (sub_clo rfl) (.cons (sub_clo rfl) .nil))))
  outV := fun x ρ R hR => sub_clo rfl
  dom := by
    intro x ρ a ha
    cases ha
  sc := by
    rintro ⟨a0, a1, a2, a3⟩ ⟨p0, p1, p2, p3⟩
    exact indexF_sc a0 a1 a2 a3 p0 p1 p2 p3
  det := by
    rintro ⟨a0, a1, a2, a3⟩ ρ ⟨b0, b1, b2, b3⟩ σ s h hm hm'
    simp only [List.cons.injEq, and_true, Value.int.injEq, Value.bool.injEq, Value.string.injEq, Value.agg.injEq, Array.mk.injEq, true_and, Value.pointer.injEq, Option.some.injEq, Addr.mk.injEq, Value.func.injEq, AObj.cells.injEq, AObj.arr.injEq, slL_iff, kcells_iff, scells_iff] at h
    have q : ∀ a, a < 1 → ρ a = σ a := all1 (by simp_all)
    have e0 := (hm 0 (by decide)).symm.trans ((congrArg s.get (q 0 (by decide))).trans (hm' 0 (by decide)))
    simp only [objL, List.getD_cons_zero, List.getD_cons_succ, List.cons.injEq, and_true, Value.int.injEq, Value.bool.injEq, Value.string.injEq, Value.agg.injEq, Array.mk.injEq, true_and, Value.pointer.injEq, Option.some.injEq, Addr.mk.injEq, Value.func.injEq, AObj.cells.injEq, AObj.arr.injEq, slL_iff, kcells_iff, scells_iff] at e0
    exact ⟨by first | rfl | (simp_all [Prod.ext_iff]; done) | exact e0, q⟩
  par := by
    intro x ρ σ h
    have h0 := h 0 (by decide)
    exact ⟨by first | rfl | simp only [h0], by first | exact fun _ _ => rfl | (simp only [h0]; exact fun _ _ => rfl)⟩
noncomputable def con_indexF : Con Try.prog 0 := sm_indexF.con
theorem con_indexF_at (l : List Key) (rs : List Key) (ss : List Span) (ws : List Key) (i0 : Nat) (h0 : l.length ≤ 1000000) (h1 : rs.length ≤ 1000000) (h2 : ss.length ≤ 1000000) (h3 : ws.length ≤ 1000000) (s : St) (hn : nodupB [i0] = true) (m0 : s.get i0 = some (.cells [inlL kcells 2 rs, inlL scells 3 ss, inlL kcells 2 ws])) : con_indexF.rel [inlL kcells 2 l, .func (.func 78) #[] #[.pointer (some ⟨i0, 0, none⟩)]] s (.int .i64 (fidx (fun x : Key => hitsP rs ss ws x.1 x.2) l)) s :=
  sm_indexF.at_ (l, rs, ss, ws) [i0] s _ ⟨h0, h1, h2, h3⟩ rfl hn rfl (all1 m0) rfl rfl
theorem containsF_fn : Try.cfg.fn 77 = some Try.f77 := by kernel_rfl
set_option maxHeartbeats 4000000 in
set_option maxRecDepth 100000 in
theorem containsF_sc (l : List Key) (rs : List Key) (ss : List Span) (ws : List Key) (h0 : l.length ≤ 1000000) (h1 : rs.length ≤ 1000000) (h2 : ss.length ≤ 1000000) (h3 : ws.length ≤ 1000000) : SC Try.prog 0 77 [inlL kcells 2 l, .func (.func 78) #[] #[.pointer (some ⟨0, 0, none⟩)]] ((St.empty 0).new (.cells [inlL kcells 2 rs, inlL scells 3 ss, inlL kcells 2 ws])) fun v s' => v = .bool (decide (ontoP l rs ss ws)) ∧ s'.n ≤ 400 ∧ ∀ a, a < 1 → s'.get a = some (objL [.cells [inlL kcells 2 rs, inlL scells 3 ss, inlL kcells 2 ws]] a) := by
  obtain ⟨rc, hS, hC⟩ := rc_con (sound_run Try.cfgOk 300) [con_indexF] (by kernel_rfl)
  have hC88 := hC con_indexF (.head _)
  refine sc_body Try.cfgOk containsF_fn rfl ?_
  repeat' (with_reducible first | refine sk_seq ?_ | refine sk_block ?_ | refine sk_skip ?_ | refine sk_scope ?_)
  refine sk_regionK Try.cfgOk hS (by kernel_rfl) ?_
  repeat' (with_reducible first | refine sk_seq ?_ | refine sk_block ?_ | refine sk_skip ?_ | refine sk_scope ?_)
  refine sk_regionL Try.cfgOk hS ?_
  refine al_chunk 2 (by kernel_rfl) ?_
  refine al_callH 88 [inlL kcells 2 l, .func (.func 78) #[] #[.pointer (some ⟨0, 0, none⟩)]] (.int .i64 (fidx (fun x : Key => hitsP rs ss ws x.1 x.2) l)) _ rfl (fun b h => by cases h) (by kernel_rfl) (by kernel_rfl) (hC88 _ _ _ _ (con_indexF_at l rs ss ws 0 (by first | omega | (simp; done) | (simp; omega)) (by first | omega | (simp; done) | (simp; omega)) (by first | omega | (simp; done) | (simp; omega)) (by first | omega | (simp; done) | (simp; omega)) _ (by kernel_rfl) (by kernel_rfl) )) ?_
  refine al_test (by kernel_rfl) (by kernel_rfl) (by kernel_rfl) (fun h1 => ?_) (fun h1 => ?_)
  · have c2e : (decide (((fidx (fun x : Key => hitsP rs ss ws x.1 x.2) l) : Int) ≥ 0)) = true := Eq.trans (by kernel_rfl) h1
    clear h1
    have c2 : ((fidx (fun x : Key => hitsP rs ss ws x.1 x.2) l) : Int) ≥ 0 := of_decide_eq_true c2e
    clear c2e
    refine al_known (by kernel_rfl) ?_
    repeat' (with_reducible first | refine sk_seq ?_ | refine sk_block ?_ | refine sk_skip ?_ | refine sk_scope ?_)
    refine sk_ret ?_
    exact ⟨[.bool true], by kernel_rfl, congrArg Value.bool (by first | rfl | (simp only [fidx_ge]) | (exact (decide_eq_true (fidx_ge.1 (by assumption))).symm) | (exact (decide_eq_false (fun h => absurd (fidx_ge.2 h) (by assumption))).symm)), Nat.le_of_ble_eq_true (by kernel_rfl), all1 (by kernel_rfl)⟩
  · have c2e : (decide (((fidx (fun x : Key => hitsP rs ss ws x.1 x.2) l) : Int) ≥ 0)) = false := Eq.trans (by kernel_rfl) h1
    clear h1
    have c2 : ¬ ((fidx (fun x : Key => hitsP rs ss ws x.1 x.2) l) : Int) ≥ 0 := of_decide_eq_false c2e
    clear c2e
    refine al_known (by kernel_rfl) ?_
    repeat' (with_reducible first | refine sk_seq ?_ | refine sk_block ?_ | refine sk_skip ?_ | refine sk_scope ?_)
    refine sk_ret ?_
    exact ⟨[.bool false], by kernel_rfl, congrArg Value.bool (by first | rfl | (simp only [fidx_ge]) | (exact (decide_eq_true (fidx_ge.1 (by assumption))).symm) | (exact (decide_eq_false (fun h => absurd (fidx_ge.2 h) (by assumption))).symm)), Nat.le_of_ble_eq_true (by kernel_rfl), all1 (by kernel_rfl)⟩
noncomputable def sm_containsF : Small Try.prog 0 77 ((List Key) × (List Key) × (List Span) × (List Key)) where
  k := 1
  A := fun z9 ρ => [inlL kcells 2 z9.1, .func (.func 78) #[] #[.pointer (some ⟨(ρ 0), 0, none⟩)]]
  M := fun z9 ρ => objL [.cells [inlL kcells 2 z9.2.1, inlL scells 3 z9.2.2.1, inlL kcells 2 z9.2.2.2]]
  M1 := fun z9 ρ => objL [.cells [inlL kcells 2 z9.2.1, inlL scells 3 z9.2.2.1, inlL kcells 2 z9.2.2.2]]
  V := fun z9 ρ => .bool (decide (ontoP z9.1 z9.2.1 z9.2.2.1 z9.2.2.2))
  Pre := fun z9 => (z9.1.length ≤ 1000000) ∧ (z9.2.1.length ≤ 1000000) ∧ (z9.2.2.1.length ≤ 1000000) ∧ (z9.2.2.2.length ≤ 1000000)
  ch := []
  N := 400
  s0 := fun z9 => ((St.empty 0).new (.cells [inlL kcells 2 z9.2.1, inlL scells 3 z9.2.2.1, inlL kcells 2 z9.2.2.2]))
  hch := by decide
  hsame := fun x ρ => all1 (fun _ => rfl)
  hG := rfl
  hn := fun x => rfl
  hwf := fun x => ((wf_empty 0).new _)
  hget := fun x => all1 (by kernel_rfl)
  noloop := fun x ρ => all1 (fun h => h.elim)
  inA := fun x ρ R hR => .cons (sub_clo rfl) (.cons (.func (.same _ (by intro l h; cases h)) .nil (.cons (.ptr (hR 0 _ (by decide))) .nil)) .nil)
  inM := fun x ρ R hR => all1 (OSub.cells (.cons (sub_clo rfl) (.cons (sub_clo rfl) (.cons (sub_clo rfl) .nil))))
  outM := fun x ρ R hR => all1 (OSub.cells (.cons (sub_clo rfl) (.cons (sub_clo rfl) (.cons (sub_clo rfl) .nil))))
  outV := fun x ρ R hR => sub_clo rfl
  dom := by
    intro x ρ a ha
    cases ha
  sc := by
    rintro ⟨a0, a1, a2, a3⟩ ⟨p0, p1, p2, p3⟩
    exact containsF_sc a0 a1 a2 a3 p0 p1 p2 p3
  det := by
    rintro ⟨a0, a1, a2, a3⟩ ρ ⟨b0, b1, b2, b3⟩ σ s h hm hm'
    simp only [List.cons.injEq, and_true, Value.int.injEq, Value.bool.injEq, Value.string.injEq, Value.agg.injEq, Array.mk.injEq, true_and, Value.pointer.injEq, Option.some.injEq, Addr.mk.injEq, Value.func.injEq, AObj.cells.injEq, AObj.arr.injEq, slL_iff, kcells_iff, scells_iff] at h
    have q : ∀ a, a < 1 → ρ a = σ a := all1 (by simp_all)
    have e0 := (hm 0 (by decide)).symm.trans ((congrArg s.get (q 0 (by decide))).trans (hm' 0 (by decide)))
    simp only [objL, List.getD_cons_zero, List.getD_cons_succ, List.cons.injEq, and_true, Value.int.injEq, Value.bool.injEq, Value.string.injEq, Value.agg.injEq, Array.mk.injEq, true_and, Value.pointer.injEq, Option.some.injEq, Addr.mk.injEq, Value.func.injEq, AObj.cells.injEq, AObj.arr.injEq, slL_iff, kcells_iff, scells_iff] at e0
    exact ⟨by first | rfl | (simp_all [Prod.ext_iff]; done) | exact e0, q⟩
  par := by
    intro x ρ σ h
    have h0 := h 0 (by decide)
    exact ⟨by first | rfl | simp only [h0], by first | exact fun _ _ => rfl | (simp only [h0]; exact fun _ _ => rfl)⟩
noncomputable def con_containsF : Con Try.prog 0 := sm_containsF.con
theorem con_containsF_at (l : List Key) (rs : List Key) (ss : List Span) (ws : List Key) (i0 : Nat) (h0 : l.length ≤ 1000000) (h1 : rs.length ≤ 1000000) (h2 : ss.length ≤ 1000000) (h3 : ws.length ≤ 1000000) (s : St) (hn : nodupB [i0] = true) (m0 : s.get i0 = some (.cells [inlL kcells 2 rs, inlL scells 3 ss, inlL kcells 2 ws])) : con_containsF.rel [inlL kcells 2 l, .func (.func 78) #[] #[.pointer (some ⟨i0, 0, none⟩)]] s (.bool (decide (ontoP l rs ss ws))) s :=
  sm_containsF.at_ (l, rs, ss, ws) [i0] s _ ⟨h0, h1, h2, h3⟩ rfl hn rfl (all1 m0) rfl rfl
theorem onto__fn : Try.cfg.fn 46 = some Try.f46 := by kernel_rfl
set_option maxHeartbeats 4000000 in
set_option maxRecDepth 100000 in
theorem onto__sc (ar : List Key) (az : List Span) (aw : List Key) (br : List Key) (bz : List Span) (bw : List Key) (h0 : ar.length ≤ 1000000) (h1 : az.length ≤ 1000000) (h2 : aw.length ≤ 1000000) (h3 : br.length ≤ 1000000) (h4 : bz.length ≤ 1000000) (h5 : bw.length ≤ 1000000) : SC Try.prog 0 46 [.agg #[inlL kcells 2 ar, inlL scells 3 az, inlL kcells 2 aw], .agg #[inlL kcells 2 br, inlL scells 3 bz, inlL kcells 2 bw]] (St.empty 0) fun v s' => v = .bool (decide (ontoP aw br bz bw)) ∧ s'.n ≤ 400 := by
  obtain ⟨rc, hS, hC⟩ := rc_con (sound_run Try.cfgOk 300) [con_containsF] (by kernel_rfl)
  have hC77 := hC con_containsF (.head _)
  refine sc_ice0 (N := 400) (v2 := .bool (decide (ontoP aw br bz bw))) (Q := fun v s' => FS 0 s' v (.bool (decide (ontoP aw br bz bw))) ∧ s'.n ≤ 400) ?_ (fun _ _ h => h)
  refine sc_body Try.cfgOk onto__fn rfl ?_
  repeat' (with_reducible first | refine sk_seq ?_ | refine sk_block ?_ | refine sk_skip ?_ | refine sk_scope ?_)
  refine sk_regionK Try.cfgOk hS (by kernel_rfl) ?_
  repeat' (with_reducible first | refine sk_seq ?_ | refine sk_block ?_ | refine sk_skip ?_ | refine sk_scope ?_)
  refine sk_regionL Try.cfgOk hS ?_
  refine al_chunk 3 (by kernel_rfl) ?_
  refine al_callB 77 [inlL kcells 2 aw, .func (.func 78) #[] #[.pointer (some ⟨1, 0, none⟩)]] (decide (ontoP aw br bz bw)) _ rfl (fun b h => by cases h) (by kernel_rfl) (by kernel_rfl) (hC77 _ _ _ _ (con_containsF_at aw br bz bw 1 (by first | omega | (simp; done) | (simp; omega)) (by first | omega | (simp; done) | (simp; omega)) (by first | omega | (simp; done) | (simp; omega)) (by first | omega | (simp; done) | (simp; omega)) _ (by kernel_rfl) (by kernel_rfl) )) (fun h1 => ?_) (fun h1 => ?_)
  · have c2 : ontoP aw br bz bw := of_decide_eq_true h1
    clear h1
    refine al_known (by kernel_rfl) ?_
    repeat' (with_reducible first | refine sk_seq ?_ | refine sk_block ?_ | refine sk_skip ?_ | refine sk_scope ?_)
    refine sk_ret ?_
    exact ⟨[.bool true], by kernel_rfl, fs_to (fs_clo rfl) (congrArg Value.bool (by simp [*])), Nat.le_of_ble_eq_true (by kernel_rfl)⟩
  · have c2 : ¬ (ontoP aw br bz bw) := of_decide_eq_false h1
    clear h1
    refine al_known (by kernel_rfl) ?_
    repeat' (with_reducible first | refine sk_seq ?_ | refine sk_block ?_ | refine sk_skip ?_ | refine sk_scope ?_)
    refine sk_ret ?_
    exact ⟨[.bool false], by kernel_rfl, fs_to (fs_clo rfl) (congrArg Value.bool (by simp [*])), Nat.le_of_ble_eq_true (by kernel_rfl)⟩
noncomputable def con_onto_ : Con Try.prog 0 := Con.pure (α := (List Key) × (List Span) × (List Key) × (List Key) × (List Span) × (List Key)) 46 (fun z9 => [.agg #[inlL kcells 2 z9.1, inlL scells 3 z9.2.1, inlL kcells 2 z9.2.2.1], .agg #[inlL kcells 2 z9.2.2.2.1, inlL scells 3 z9.2.2.2.2.1, inlL kcells 2 z9.2.2.2.2.2]]) (fun z9 => .bool (decide (ontoP z9.2.2.1 z9.2.2.2.1 z9.2.2.2.2.1 z9.2.2.2.2.2))) (fun z9 => (z9.1.length ≤ 1000000) ∧ (z9.2.1.length ≤ 1000000) ∧ (z9.2.2.1.length ≤ 1000000) ∧ (z9.2.2.2.1.length ≤ 1000000) ∧ (z9.2.2.2.2.1.length ≤ 1000000) ∧ (z9.2.2.2.2.2.length ≤ 1000000)) (by
  rintro ⟨a0, a1, a2, a3, a4, a5⟩ ⟨b0, b1, b2, b3, b4, b5⟩ h
  simp only [List.cons.injEq, and_true, Value.int.injEq, Value.bool.injEq, Value.string.injEq, Value.agg.injEq, Array.mk.injEq, true_and, kcells_iff, scells_iff] at h
  first | exact h | (simp only [Prod.ext_iff, h, and_self, and_true, true_and]; done) | simp_all [Prod.ext_iff]) (fun _ => rfl) (fun _ => rfl) 400 (by
  rintro ⟨a0, a1, a2, a3, a4, a5⟩ ⟨p0, p1, p2, p3, p4, p5⟩
  exact onto__sc a0 a1 a2 a3 a4 a5 p0 p1 p2 p3 p4 p5)
theorem con_onto__at (ar : List Key) (az : List Span) (aw : List Key) (br : List Key) (bz : List Span) (bw : List Key) (h0 : ar.length ≤ 1000000) (h1 : az.length ≤ 1000000) (h2 : aw.length ≤ 1000000) (h3 : br.length ≤ 1000000) (h4 : bz.length ≤ 1000000) (h5 : bw.length ≤ 1000000) (s : St) : con_onto_.rel [.agg #[inlL kcells 2 ar, inlL scells 3 az, inlL kcells 2 aw], .agg #[inlL kcells 2 br, inlL scells 3 bz, inlL kcells 2 bw]] s (.bool (decide (ontoP aw br bz bw))) s := con_pure (ar, az, aw, br, bz, bw) ⟨h0, h1, h2, h3, h4, h5⟩ s
theorem meetP__fn : Try.cfg.fn 19 = some Try.f19 := by kernel_rfl
set_option maxHeartbeats 4000000 in
set_option maxRecDepth 100000 in
theorem meetP__sc (ar : List Key) (az : List Span) (aw : List Key) (br : List Key) (bz : List Span) (bw : List Key) (h0 : ar.length ≤ 1000000) (h1 : az.length ≤ 1000000) (h2 : aw.length ≤ 1000000) (h3 : br.length ≤ 1000000) (h4 : bz.length ≤ 1000000) (h5 : bw.length ≤ 1000000) : SC Try.prog 0 19 [.agg #[inlL kcells 2 ar, inlL scells 3 az, inlL kcells 2 aw], .agg #[inlL kcells 2 br, inlL scells 3 bz, inlL kcells 2 bw]] (St.empty 0) fun v s' => v = .bool (decide (ontoP aw br bz bw ∨ ontoP bw ar az aw)) ∧ s'.n ≤ 400 := by
  obtain ⟨rc, hS, hC⟩ := rc_con (sound_run Try.cfgOk 300) [con_onto_] (by kernel_rfl)
  have hC46 := hC con_onto_ (.head _)
  refine sc_ice0 (N := 400) (v2 := .bool (decide (ontoP aw br bz bw ∨ ontoP bw ar az aw))) (Q := fun v s' => FS 0 s' v (.bool (decide (ontoP aw br bz bw ∨ ontoP bw ar az aw))) ∧ s'.n ≤ 400) ?_ (fun _ _ h => h)
  refine sc_body Try.cfgOk meetP__fn rfl ?_
  repeat' (with_reducible first | refine sk_seq ?_ | refine sk_block ?_ | refine sk_skip ?_ | refine sk_scope ?_)
  refine sk_regionK Try.cfgOk hS (by kernel_rfl) ?_
  repeat' (with_reducible first | refine sk_seq ?_ | refine sk_block ?_ | refine sk_skip ?_ | refine sk_scope ?_)
  refine sk_regionL Try.cfgOk hS ?_
  refine al_chunk 2 (by kernel_rfl) ?_
  refine al_callB 46 [.agg #[inlL kcells 2 ar, inlL scells 3 az, inlL kcells 2 aw], .agg #[inlL kcells 2 br, inlL scells 3 bz, inlL kcells 2 bw]] (decide (ontoP aw br bz bw)) _ rfl (fun b h => by cases h) (by kernel_rfl) (by kernel_rfl) (hC46 _ _ _ _ (con_onto__at ar az aw br bz bw (by first | omega | (simp; done) | (simp; omega)) (by first | omega | (simp; done) | (simp; omega)) (by first | omega | (simp; done) | (simp; omega)) (by first | omega | (simp; done) | (simp; omega)) (by first | omega | (simp; done) | (simp; omega)) (by first | omega | (simp; done) | (simp; omega)) _)) (fun h1 => ?_) (fun h1 => ?_)
  · have c2 : ontoP aw br bz bw := of_decide_eq_true h1
    clear h1
    refine al_known (by kernel_rfl) ?_
    repeat' (with_reducible first | refine sk_seq ?_ | refine sk_block ?_ | refine sk_skip ?_ | refine sk_scope ?_)
    refine sk_ret ?_
    exact ⟨[.bool true], by kernel_rfl, fs_to (fs_clo rfl) (congrArg Value.bool (by first | exact (decide_eq_true (Or.inl (by assumption))).symm | exact (decide_eq_true (Or.inr (by assumption))).symm | exact (decide_eq_false (by rintro (h | h) <;> contradiction)).symm)), Nat.le_of_ble_eq_true (by kernel_rfl)⟩
  · have c2 : ¬ (ontoP aw br bz bw) := of_decide_eq_false h1
    clear h1
    refine al_chunk 3 (by kernel_rfl) ?_
    refine al_callB 46 [.agg #[inlL kcells 2 br, inlL scells 3 bz, inlL kcells 2 bw], .agg #[inlL kcells 2 ar, inlL scells 3 az, inlL kcells 2 aw]] (decide (ontoP bw ar az aw)) _ rfl (fun b h => by cases h) (by kernel_rfl) (by kernel_rfl) (hC46 _ _ _ _ (con_onto__at br bz bw ar az aw (by first | omega | (simp; done) | (simp; omega)) (by first | omega | (simp; done) | (simp; omega)) (by first | omega | (simp; done) | (simp; omega)) (by first | omega | (simp; done) | (simp; omega)) (by first | omega | (simp; done) | (simp; omega)) (by first | omega | (simp; done) | (simp; omega)) _)) (fun h3 => ?_) (fun h3 => ?_)
    · have c4 : ontoP bw ar az aw := of_decide_eq_true h3
      clear h3
      refine al_known (by kernel_rfl) ?_
      repeat' (with_reducible first | refine sk_seq ?_ | refine sk_block ?_ | refine sk_skip ?_ | refine sk_scope ?_)
      refine sk_ret ?_
      exact ⟨[.bool true], by kernel_rfl, fs_to (fs_clo rfl) (congrArg Value.bool (by first | exact (decide_eq_true (Or.inl (by assumption))).symm | exact (decide_eq_true (Or.inr (by assumption))).symm | exact (decide_eq_false (by rintro (h | h) <;> contradiction)).symm)), Nat.le_of_ble_eq_true (by kernel_rfl)⟩
    · have c4 : ¬ (ontoP bw ar az aw) := of_decide_eq_false h3
      clear h3
      refine al_known (by kernel_rfl) ?_
      repeat' (with_reducible first | refine sk_seq ?_ | refine sk_block ?_ | refine sk_skip ?_ | refine sk_scope ?_)
      refine sk_ret ?_
      exact ⟨[.bool false], by kernel_rfl, fs_to (fs_clo rfl) (congrArg Value.bool (by first | exact (decide_eq_true (Or.inl (by assumption))).symm | exact (decide_eq_true (Or.inr (by assumption))).symm | exact (decide_eq_false (by rintro (h | h) <;> contradiction)).symm)), Nat.le_of_ble_eq_true (by kernel_rfl)⟩
noncomputable def con_meetP_ : Con Try.prog 0 := Con.pure (α := (List Key) × (List Span) × (List Key) × (List Key) × (List Span) × (List Key)) 19 (fun z9 => [.agg #[inlL kcells 2 z9.1, inlL scells 3 z9.2.1, inlL kcells 2 z9.2.2.1], .agg #[inlL kcells 2 z9.2.2.2.1, inlL scells 3 z9.2.2.2.2.1, inlL kcells 2 z9.2.2.2.2.2]]) (fun z9 => .bool (decide (ontoP z9.2.2.1 z9.2.2.2.1 z9.2.2.2.2.1 z9.2.2.2.2.2 ∨ ontoP z9.2.2.2.2.2 z9.1 z9.2.1 z9.2.2.1))) (fun z9 => (z9.1.length ≤ 1000000) ∧ (z9.2.1.length ≤ 1000000) ∧ (z9.2.2.1.length ≤ 1000000) ∧ (z9.2.2.2.1.length ≤ 1000000) ∧ (z9.2.2.2.2.1.length ≤ 1000000) ∧ (z9.2.2.2.2.2.length ≤ 1000000)) (by
  rintro ⟨a0, a1, a2, a3, a4, a5⟩ ⟨b0, b1, b2, b3, b4, b5⟩ h
  simp only [List.cons.injEq, and_true, Value.int.injEq, Value.bool.injEq, Value.string.injEq, Value.agg.injEq, Array.mk.injEq, true_and, kcells_iff, scells_iff] at h
  first | exact h | (simp only [Prod.ext_iff, h, and_self, and_true, true_and]; done) | simp_all [Prod.ext_iff]) (fun _ => rfl) (fun _ => rfl) 400 (by
  rintro ⟨a0, a1, a2, a3, a4, a5⟩ ⟨p0, p1, p2, p3, p4, p5⟩
  exact meetP__sc a0 a1 a2 a3 a4 a5 p0 p1 p2 p3 p4 p5)
theorem con_meetP__at (ar : List Key) (az : List Span) (aw : List Key) (br : List Key) (bz : List Span) (bw : List Key) (h0 : ar.length ≤ 1000000) (h1 : az.length ≤ 1000000) (h2 : aw.length ≤ 1000000) (h3 : br.length ≤ 1000000) (h4 : bz.length ≤ 1000000) (h5 : bw.length ≤ 1000000) (s : St) : con_meetP_.rel [.agg #[inlL kcells 2 ar, inlL scells 3 az, inlL kcells 2 aw], .agg #[inlL kcells 2 br, inlL scells 3 bz, inlL kcells 2 bw]] s (.bool (decide (ontoP aw br bz bw ∨ ontoP bw ar az aw))) s := con_pure (ar, az, aw, br, bz, bw) ⟨h0, h1, h2, h3, h4, h5⟩ s
abbrev meetR1 (l : List Key) (rs : List Key) (ss : List Span) (ws : List Key) : Prop := ∃ x : Key, x ∈ l ∧ (hitsR rs ss ws x.1 x.2)
abbrev meetR2 (l : List Key) (rs : List Key) (ss : List Span) : Prop := ∃ x : Key, x ∈ l ∧ (readsR rs ss x.1 x.2)
theorem meetR__fn : Try.cfg.fn 20 = some Try.f20 := by kernel_rfl
set_option maxHeartbeats 4000000 in
set_option maxRecDepth 100000 in
theorem meetR__sc (ar : List Key) (az : List Span) (aw : List Key) (br : List Key) (bz : List Span) (bw : List Key) (h0 : ar.length ≤ 1000000) (h1 : az.length ≤ 1000000) (h2 : aw.length ≤ 1000000) (h3 : br.length ≤ 1000000) (h4 : bz.length ≤ 1000000) (h5 : bw.length ≤ 1000000) : SC Try.prog 0 20 [.agg #[inlL kcells 2 ar, inlL scells 3 az, inlL kcells 2 aw], .agg #[inlL kcells 2 br, inlL scells 3 bz, inlL kcells 2 bw]] (St.empty 0) fun v s' => v = .bool (decide (meetR1 aw br bz bw ∨ meetR2 bw ar az)) ∧ s'.n ≤ 400 := by
  obtain ⟨rc, hS, hC⟩ := rc_con (sound_run Try.cfgOk 300) [con_readsR_, con_writesR] (by kernel_rfl)
  have hC14 := hC con_readsR_ (.head _)
  have hC15 := hC con_writesR (.tail _ (.head _))
  refine sc_ice0 (N := 400) (v2 := .bool (decide (meetR1 aw br bz bw ∨ meetR2 bw ar az))) (Q := fun v s' => FS 0 s' v (.bool (decide (meetR1 aw br bz bw ∨ meetR2 bw ar az))) ∧ s'.n ≤ 400) ?_ (fun _ _ h => h)
  refine sc_body Try.cfgOk meetR__fn rfl ?_
  repeat' (with_reducible first | refine sk_seq ?_ | refine sk_block ?_ | refine sk_skip ?_ | refine sk_scope ?_)
  refine sk_regionK Try.cfgOk hS (by kernel_rfl) ?_
  repeat' (with_reducible first | refine sk_seq ?_ | refine sk_block ?_ | refine sk_skip ?_ | refine sk_scope ?_)
  refine sk_regionK Try.cfgOk hS (by kernel_rfl) ?_
  repeat' (with_reducible first | refine sk_seq ?_ | refine sk_block ?_ | refine sk_skip ?_ | refine sk_scope ?_)
  refine sk_live 44 ((fun a : Nat => [(2, .pointer (some ⟨0, 0, none⟩)), (3, .pointer (some ⟨1, 0, none⟩)), (5, .int .i64 ((a : Nat) : Int))]) 0) (by kernel_rfl) ⟨by kernel_rfl, by kernel_rfl, by kernel_rfl, trivial⟩ fun m1 => ?_
  refine sk_st ((fun a : Nat => (((St.empty 0).new (.cells [inlL kcells 2 ar, inlL scells 3 az, inlL kcells 2 aw])).new (.cells [inlL kcells 2 br, inlL scells 3 bz, inlL kcells 2 bw]))) 0) (by kernel_rfl) ?_
  refine (sk_while (k := 2) (N := 400) (live := (fun a : Nat => [(2, .pointer (some ⟨0, 0, none⟩)), (3, .pointer (some ⟨1, 0, none⟩)), (5, .int .i64 ((a : Nat) : Int))])) (M := (fun a : Nat => (((St.empty 0).new (.cells [inlL kcells 2 ar, inlL scells 3 az, inlL kcells 2 aw])).new (.cells [inlL kcells 2 br, inlL scells 3 bz, inlL kcells 2 bw])))) (fun a : Nat => (a ≤ aw.length) ∧ (NoHit (fun x : Key => hitsR br bz bw x.1 x.2) aw a)) (fun a : Nat => aw.length - a) (fun (a : Nat) (o : Out) (lv : List (Nat × Value)) (M : St) => (o = .exit 0 ∧ (¬ a < aw.length) ∧ lv = [(2, .pointer (some ⟨0, 0, none⟩)), (3, .pointer (some ⟨1, 0, none⟩)), (5, .int .i64 ((a : Nat) : Int))] ∧ M = (((St.empty 0).new (.cells [inlL kcells 2 ar, inlL scells 3 az, inlL kcells 2 aw])).new (.cells [inlL kcells 2 br, inlL scells 3 bz, inlL kcells 2 bw]))) ∨ (o = .ret ∧ (∃ x : Key, aw[a]? = some x ∧ (hitsR br bz bw x.1 x.2)) ∧ lv = [(4, .bool true)] ∧ M = (((St.empty 0).new (.cells [inlL kcells 2 ar, inlL scells 3 az, inlL kcells 2 aw])).new (.cells [inlL kcells 2 br, inlL scells 3 bz, inlL kcells 2 bw])))) (Nat.zero_le _) (fun a ha => ?_) (fun a ha => ?_) (fun a m ha => ?_) (fun a m ha => ?_) 0 m1 ?_).up ?_
  · exact ⟨by kernel_rfl, (((wf_empty 0).new _).new _), (selfs (all_cons (o := .cells [inlL kcells 2 ar, inlL scells 3 az, inlL kcells 2 aw]) (by kernel_rfl) (OSub.cells (.cons (sub_clo rfl) (.cons (sub_clo rfl) (.cons (sub_clo rfl) .nil)))) (all_cons (o := .cells [inlL kcells 2 br, inlL scells 3 bz, inlL kcells 2 bw]) (by kernel_rfl) (OSub.cells (.cons (sub_clo rfl) (.cons (sub_clo rfl) (.cons (sub_clo rfl) .nil)))) (all_none))))⟩
  · exact ⟨.ptr ⟨by decide, rfl⟩, .ptr ⟨by decide, rfl⟩, sub_clo rfl, trivial⟩
  · exact ⟨by kernel_rfl, by kernel_rfl, by kernel_rfl, trivial⟩
  · obtain ⟨i, ea⟩ : ∃ z, z = a := ⟨_, rfl⟩
    subst ea
    obtain ⟨i0, i1⟩ := ha
    repeat' (with_reducible first | refine sk_seq ?_ | refine sk_block ?_ | refine sk_skip ?_ | refine sk_scope ?_)
    refine sk_regionL Try.cfgOk hS ?_
    refine al_chunk 3 (by kernel_rfl) ?_
    refine al_map (lenB Try.cfg (St.empty 0) 22 (inlL kcells 2 aw)) (.int .i64 ((aw.length : Nat) : Int)) (by kernel_rfl) (by kernel_rfl) (by kernel_rfl) (len_inl tokC (by kernel_rfl)) ?_
    refine al_test (by kernel_rfl) (by kernel_rfl) (by kernel_rfl) (fun h2 => ?_) (fun h2 => ?_)
    · have c3e : (decide ((((i : Nat) : Int) : Int) < ((aw.length : Nat) : Int))) = true := Eq.trans (by kernel_rfl) h2
      clear h2
      have c3 : (((i : Nat) : Int) : Int) < ((aw.length : Nat) : Int) := of_decide_eq_true c3e
      clear c3e
      refine al_nil ?_
      repeat' (with_reducible first | refine sk_seq ?_ | refine sk_block ?_ | refine sk_skip ?_ | refine sk_scope ?_)
      refine sk_true (by kernel_rfl) ?_
      repeat' (with_reducible first | refine sk_seq ?_ | refine sk_block ?_ | refine sk_skip ?_ | refine sk_scope ?_)
      refine sk_drawL Try.cfgOk hS ?_
      refine ald_chunk 4 (by kernel_rfl) ?_
      refine ald_mapL (indexAddrV Try.cfg 22 (inlL kcells 2 aw) (.int .i64 ((i : Nat) : Int))) (elt (flatL kcells aw) (i * 2)) (by kernel_rfl) (by kernel_rfl) (by kernel_rfl) (idx_inlL tokC (by kernel_rfl) (by omega)) (by kernel_rfl) ?_
      obtain ⟨x4, hx4⟩ := get_ex (l := aw) (i := i) (by omega)
      refine ald_mapL (loadV Try.cfg (St.empty 0) 30 (elt (flatL kcells aw) (i * 2))) (.agg #[.int .i64 x4.1, .int .i64 x4.2]) (by kernel_rfl) (by kernel_rfl) (by kernel_rfl) (load_el tokC (by kernel_rfl) kcells_len hx4) (by kernel_rfl) ?_
      refine ald_callB 14 [.agg #[inlL kcells 2 br, inlL scells 3 bz, inlL kcells 2 bw], .agg #[.int .i64 x4.1, .int .i64 x4.2]] (decide (readsR br bz x4.1 x4.2)) _ rfl (fun b h => by cases h) (by kernel_rfl) (by kernel_rfl) (hC14 _ _ _ _ (con_readsR__at br bz bw x4.1 x4.2 (by first | omega | (simp; done) | (simp; omega)) (by first | omega | (simp; done) | (simp; omega)) (by first | omega | (simp; done) | (simp; omega)) _)) (fun b => by kernel_rfl) (fun h5 => ?_) (fun h5 => ?_)
      · have c6 : readsR br bz x4.1 x4.2 := of_decide_eq_true h5
        clear h5
        refine ald_chunk 9 (by kernel_rfl) ?_
        refine ald_nil ?_
        repeat' (with_reducible first | refine sk_seq ?_ | refine sk_block ?_ | refine sk_skip ?_ | refine sk_scope ?_)
        refine sk_true (by kernel_rfl) ?_
        repeat' (with_reducible first | refine sk_seq ?_ | refine sk_block ?_ | refine sk_skip ?_ | refine sk_scope ?_)
        refine sk_regionK Try.cfgOk hS (by kernel_rfl) ?_
        repeat' (with_reducible first | refine sk_seq ?_ | refine sk_block ?_ | refine sk_skip ?_ | refine sk_scope ?_)
        refine sk_ret ?_
        refine .inr ⟨_, _, (fun h => by cases h), .inr ⟨rfl, ?_, rfl, rfl⟩, ⟨by kernel_rfl, ⟨by kernel_rfl, trivial⟩, ⟨sub_clo rfl, trivial⟩, Nat.le_of_ble_eq_true (by kernel_rfl), ⟨by kernel_rfl, (((wf_empty 0).new _).new _), (selfs (all_cons (o := .cells [inlL kcells 2 ar, inlL scells 3 az, inlL kcells 2 aw]) (by kernel_rfl) (OSub.cells (.cons (sub_clo rfl) (.cons (sub_clo rfl) (.cons (sub_clo rfl) .nil)))) (all_cons (o := .cells [inlL kcells 2 br, inlL scells 3 bz, inlL kcells 2 bw]) (by kernel_rfl) (OSub.cells (.cons (sub_clo rfl) (.cons (sub_clo rfl) (.cons (sub_clo rfl) .nil)))) (all_none))))⟩, mem_all (by kernel_rfl)⟩⟩
        · first | exact ⟨_, by assumption, by first | assumption | omega | exact Or.inl (by assumption) | exact Or.inr (by assumption) | exact fun h => h.elim (by assumption) (by assumption) | (simp_all; done)⟩ | exact ⟨_, by assumption, by first | assumption | omega | exact Or.inl (by assumption) | exact Or.inr (by assumption) | exact fun h => h.elim (by assumption) (by assumption) | (simp_all; done), rfl⟩
      · have c6 : ¬ (readsR br bz x4.1 x4.2) := of_decide_eq_false h5
        clear h5
        refine ald_chunk 5 (by kernel_rfl) ?_
        refine ald_mapL (indexAddrV Try.cfg 22 (inlL kcells 2 aw) (.int .i64 ((i : Nat) : Int))) (elt (flatL kcells aw) (i * 2)) (by kernel_rfl) (by kernel_rfl) (by kernel_rfl) (idx_inlL tokC (by kernel_rfl) (by omega)) (by kernel_rfl) ?_
        refine ald_mapL (loadV Try.cfg (St.empty 0) 30 (elt (flatL kcells aw) (i * 2))) (.agg #[.int .i64 x4.1, .int .i64 x4.2]) (by kernel_rfl) (by kernel_rfl) (by kernel_rfl) (load_el tokC (by kernel_rfl) kcells_len hx4) (by kernel_rfl) ?_
        refine ald_callB 15 [.agg #[inlL kcells 2 br, inlL scells 3 bz, inlL kcells 2 bw], .agg #[.int .i64 x4.1, .int .i64 x4.2]] (decide (hasK bw x4.1 x4.2)) _ rfl (fun b h => by cases h) (by kernel_rfl) (by kernel_rfl) (hC15 _ _ _ _ (con_writesR_at br bz bw x4.1 x4.2 (by first | omega | (simp; done) | (simp; omega)) _)) (fun b => by kernel_rfl) (fun h7 => ?_) (fun h7 => ?_)
        · have c8 : hasK bw x4.1 x4.2 := of_decide_eq_true h7
          clear h7
          refine ald_chunk 1 (by kernel_rfl) ?_
          refine ald_nil ?_
          repeat' (with_reducible first | refine sk_seq ?_ | refine sk_block ?_ | refine sk_skip ?_ | refine sk_scope ?_)
          refine sk_true (by kernel_rfl) ?_
          repeat' (with_reducible first | refine sk_seq ?_ | refine sk_block ?_ | refine sk_skip ?_ | refine sk_scope ?_)
          refine sk_regionK Try.cfgOk hS (by kernel_rfl) ?_
          repeat' (with_reducible first | refine sk_seq ?_ | refine sk_block ?_ | refine sk_skip ?_ | refine sk_scope ?_)
          refine sk_ret ?_
          refine .inr ⟨_, _, (fun h => by cases h), .inr ⟨rfl, ?_, rfl, rfl⟩, ⟨by kernel_rfl, ⟨by kernel_rfl, trivial⟩, ⟨sub_clo rfl, trivial⟩, Nat.le_of_ble_eq_true (by kernel_rfl), ⟨by kernel_rfl, (((wf_empty 0).new _).new _), (selfs (all_cons (o := .cells [inlL kcells 2 ar, inlL scells 3 az, inlL kcells 2 aw]) (by kernel_rfl) (OSub.cells (.cons (sub_clo rfl) (.cons (sub_clo rfl) (.cons (sub_clo rfl) .nil)))) (all_cons (o := .cells [inlL kcells 2 br, inlL scells 3 bz, inlL kcells 2 bw]) (by kernel_rfl) (OSub.cells (.cons (sub_clo rfl) (.cons (sub_clo rfl) (.cons (sub_clo rfl) .nil)))) (all_none))))⟩, mem_all (by kernel_rfl)⟩⟩
          · first | exact ⟨_, by assumption, by first | assumption | omega | exact Or.inl (by assumption) | exact Or.inr (by assumption) | exact fun h => h.elim (by assumption) (by assumption) | (simp_all; done)⟩ | exact ⟨_, by assumption, by first | assumption | omega | exact Or.inl (by assumption) | exact Or.inr (by assumption) | exact fun h => h.elim (by assumption) (by assumption) | (simp_all; done), rfl⟩
        · have c8 : ¬ (hasK bw x4.1 x4.2) := of_decide_eq_false h7
          clear h7
          refine ald_chunk 1 (by kernel_rfl) ?_
          refine ald_nil ?_
          repeat' (with_reducible first | refine sk_seq ?_ | refine sk_block ?_ | refine sk_skip ?_ | refine sk_scope ?_)
          refine sk_false (by kernel_rfl) ?_
          repeat' (with_reducible first | refine sk_seq ?_ | refine sk_block ?_ | refine sk_skip ?_ | refine sk_scope ?_)
          refine sk_regionL Try.cfgOk hS ?_
          refine al_chunk 1 (by kernel_rfl) ?_
          refine al_eqv (v := .int .i64 (IntKind.wrap .i64 (((i : Nat) : Int) + 1))) (.int .i64 ((i + 1 : Nat) : Int)) (by kernel_rfl) (by kernel_rfl) (by kernel_rfl) (congrArg (Value.int .i64) (wrap_to (by omega) (by omega))) ?_
          refine al_known (by kernel_rfl) ?_
          repeat' (with_reducible first | refine sk_seq ?_ | refine sk_block ?_ | refine sk_skip ?_ | refine sk_scope ?_)
          refine .inl ⟨i + 1, rfl, ⟨?_, ?_⟩, ?_, ⟨by kernel_rfl, ⟨by kernel_rfl, by kernel_rfl, by kernel_rfl, trivial⟩, ⟨.ptr ⟨by decide, rfl⟩, .ptr ⟨by decide, rfl⟩, sub_clo rfl, trivial⟩, Nat.le_of_ble_eq_true (by kernel_rfl), ⟨by kernel_rfl, (((wf_empty 0).new _).new _), (selfs (all_cons (o := .cells [inlL kcells 2 ar, inlL scells 3 az, inlL kcells 2 aw]) (by kernel_rfl) (OSub.cells (.cons (sub_clo rfl) (.cons (sub_clo rfl) (.cons (sub_clo rfl) .nil)))) (all_cons (o := .cells [inlL kcells 2 br, inlL scells 3 bz, inlL kcells 2 bw]) (by kernel_rfl) (OSub.cells (.cons (sub_clo rfl) (.cons (sub_clo rfl) (.cons (sub_clo rfl) .nil)))) (all_none))))⟩, mem_all (by kernel_rfl)⟩⟩
          · omega
          · exact NoHit.succ (p := (fun x : Key => hitsR br bz bw x.1 x.2)) (by assumption) (by assumption) (by first | assumption | omega | exact fun h => h.elim (by assumption) (by assumption) | (simp_all; done))
          · omega
    · have c3e : (decide ((((i : Nat) : Int) : Int) < ((aw.length : Nat) : Int))) = false := Eq.trans (by kernel_rfl) h2
      clear h2
      have c3 : ¬ (((i : Nat) : Int) : Int) < ((aw.length : Nat) : Int) := of_decide_eq_false c3e
      clear c3e
      refine al_nil ?_
      repeat' (with_reducible first | refine sk_seq ?_ | refine sk_block ?_ | refine sk_skip ?_ | refine sk_scope ?_)
      refine sk_false (by kernel_rfl) ?_
      repeat' (with_reducible first | refine sk_seq ?_ | refine sk_block ?_ | refine sk_skip ?_ | refine sk_scope ?_)
      refine sk_exit ?_
      dsimp only
      refine .inr ⟨_, _, (fun h => by cases h), .inl ⟨rfl, ?_, rfl, rfl⟩, ⟨by kernel_rfl, ⟨by kernel_rfl, by kernel_rfl, by kernel_rfl, trivial⟩, ⟨.ptr ⟨by decide, rfl⟩, .ptr ⟨by decide, rfl⟩, sub_clo rfl, trivial⟩, Nat.le_of_ble_eq_true (by kernel_rfl), ⟨by kernel_rfl, (((wf_empty 0).new _).new _), (selfs (all_cons (o := .cells [inlL kcells 2 ar, inlL scells 3 az, inlL kcells 2 aw]) (by kernel_rfl) (OSub.cells (.cons (sub_clo rfl) (.cons (sub_clo rfl) (.cons (sub_clo rfl) .nil)))) (all_cons (o := .cells [inlL kcells 2 br, inlL scells 3 bz, inlL kcells 2 bw]) (by kernel_rfl) (OSub.cells (.cons (sub_clo rfl) (.cons (sub_clo rfl) (.cons (sub_clo rfl) .nil)))) (all_none))))⟩, mem_all (by kernel_rfl)⟩⟩
      · omega
  · exact ⟨by omega, by exact NoHit.zero⟩
  rintro o e1 s1 ⟨a, lv1, M1, m1, ha, (⟨rfl, hx, rfl, rfl⟩ | ⟨rfl, hx, rfl, rfl⟩), rfl, rfl⟩
  ·
    obtain ⟨i, ea⟩ : ∃ z, z = a := ⟨_, rfl⟩
    subst ea
    obtain ⟨i0, i1⟩ := ha
    dsimp only
    try rw [if_pos rfl]
    repeat' (with_reducible first | refine sk_seq ?_ | refine sk_block ?_ | refine sk_skip ?_ | refine sk_scope ?_)
    refine sk_regionK Try.cfgOk hS (by kernel_rfl) ?_
    repeat' (with_reducible first | refine sk_seq ?_ | refine sk_block ?_ | refine sk_skip ?_ | refine sk_scope ?_)
    refine sk_live 44 ((fun a : Nat => [(2, .pointer (some ⟨0, 0, none⟩)), (3, .pointer (some ⟨1, 0, none⟩)), (6, .int .i64 ((a : Nat) : Int))]) 0) (by kernel_rfl) ⟨by kernel_rfl, by kernel_rfl, by kernel_rfl, trivial⟩ fun m9 => ?_
    refine sk_st ((fun a : Nat => (((St.empty 0).new (.cells [inlL kcells 2 ar, inlL scells 3 az, inlL kcells 2 aw])).new (.cells [inlL kcells 2 br, inlL scells 3 bz, inlL kcells 2 bw]))) 0) (by kernel_rfl) ?_
    refine (sk_while (k := 2) (N := 400) (live := (fun a : Nat => [(2, .pointer (some ⟨0, 0, none⟩)), (3, .pointer (some ⟨1, 0, none⟩)), (6, .int .i64 ((a : Nat) : Int))])) (M := (fun a : Nat => (((St.empty 0).new (.cells [inlL kcells 2 ar, inlL scells 3 az, inlL kcells 2 aw])).new (.cells [inlL kcells 2 br, inlL scells 3 bz, inlL kcells 2 bw])))) (fun a : Nat => (a ≤ bw.length) ∧ (NoHit (fun x : Key => readsR ar az x.1 x.2) bw a)) (fun a : Nat => bw.length - a) (fun (a : Nat) (o : Out) (lv : List (Nat × Value)) (M : St) => (o = .exit 2 ∧ (¬ a < bw.length) ∧ lv = [(2, .pointer (some ⟨0, 0, none⟩)), (3, .pointer (some ⟨1, 0, none⟩)), (6, .int .i64 ((a : Nat) : Int))] ∧ M = (((St.empty 0).new (.cells [inlL kcells 2 ar, inlL scells 3 az, inlL kcells 2 aw])).new (.cells [inlL kcells 2 br, inlL scells 3 bz, inlL kcells 2 bw]))) ∨ (o = .ret ∧ (∃ x : Key, bw[a]? = some x ∧ (readsR ar az x.1 x.2)) ∧ lv = [(4, .bool true)] ∧ M = (((St.empty 0).new (.cells [inlL kcells 2 ar, inlL scells 3 az, inlL kcells 2 aw])).new (.cells [inlL kcells 2 br, inlL scells 3 bz, inlL kcells 2 bw])))) (Nat.zero_le _) (fun a ha => ?_) (fun a ha => ?_) (fun a m ha => ?_) (fun a m ha => ?_) 0 m9 ?_).up ?_
    · exact ⟨by kernel_rfl, (((wf_empty 0).new _).new _), (selfs (all_cons (o := .cells [inlL kcells 2 ar, inlL scells 3 az, inlL kcells 2 aw]) (by kernel_rfl) (OSub.cells (.cons (sub_clo rfl) (.cons (sub_clo rfl) (.cons (sub_clo rfl) .nil)))) (all_cons (o := .cells [inlL kcells 2 br, inlL scells 3 bz, inlL kcells 2 bw]) (by kernel_rfl) (OSub.cells (.cons (sub_clo rfl) (.cons (sub_clo rfl) (.cons (sub_clo rfl) .nil)))) (all_none))))⟩
    · exact ⟨.ptr ⟨by decide, rfl⟩, .ptr ⟨by decide, rfl⟩, sub_clo rfl, trivial⟩
    · exact ⟨by kernel_rfl, by kernel_rfl, by kernel_rfl, trivial⟩
    · obtain ⟨i, ea⟩ : ∃ z, z = a := ⟨_, rfl⟩
      subst ea
      obtain ⟨i0, i1⟩ := ha
      repeat' (with_reducible first | refine sk_seq ?_ | refine sk_block ?_ | refine sk_skip ?_ | refine sk_scope ?_)
      refine sk_regionL Try.cfgOk hS ?_
      refine al_chunk 3 (by kernel_rfl) ?_
      refine al_map (lenB Try.cfg (St.empty 0) 22 (inlL kcells 2 bw)) (.int .i64 ((bw.length : Nat) : Int)) (by kernel_rfl) (by kernel_rfl) (by kernel_rfl) (len_inl tokC (by kernel_rfl)) ?_
      refine al_test (by kernel_rfl) (by kernel_rfl) (by kernel_rfl) (fun h10 => ?_) (fun h10 => ?_)
      · have c11e : (decide ((((i : Nat) : Int) : Int) < ((bw.length : Nat) : Int))) = true := Eq.trans (by kernel_rfl) h10
        clear h10
        have c11 : (((i : Nat) : Int) : Int) < ((bw.length : Nat) : Int) := of_decide_eq_true c11e
        clear c11e
        refine al_nil ?_
        repeat' (with_reducible first | refine sk_seq ?_ | refine sk_block ?_ | refine sk_skip ?_ | refine sk_scope ?_)
        refine sk_true (by kernel_rfl) ?_
        repeat' (with_reducible first | refine sk_seq ?_ | refine sk_block ?_ | refine sk_skip ?_ | refine sk_scope ?_)
        refine sk_drawL Try.cfgOk hS ?_
        refine ald_chunk 4 (by kernel_rfl) ?_
        refine ald_mapL (indexAddrV Try.cfg 22 (inlL kcells 2 bw) (.int .i64 ((i : Nat) : Int))) (elt (flatL kcells bw) (i * 2)) (by kernel_rfl) (by kernel_rfl) (by kernel_rfl) (idx_inlL tokC (by kernel_rfl) (by omega)) (by kernel_rfl) ?_
        obtain ⟨x12, hx12⟩ := get_ex (l := bw) (i := i) (by omega)
        refine ald_mapL (loadV Try.cfg (St.empty 0) 30 (elt (flatL kcells bw) (i * 2))) (.agg #[.int .i64 x12.1, .int .i64 x12.2]) (by kernel_rfl) (by kernel_rfl) (by kernel_rfl) (load_el tokC (by kernel_rfl) kcells_len hx12) (by kernel_rfl) ?_
        refine ald_callB 14 [.agg #[inlL kcells 2 ar, inlL scells 3 az, inlL kcells 2 aw], .agg #[.int .i64 x12.1, .int .i64 x12.2]] (decide (readsR ar az x12.1 x12.2)) _ rfl (fun b h => by cases h) (by kernel_rfl) (by kernel_rfl) (hC14 _ _ _ _ (con_readsR__at ar az aw x12.1 x12.2 (by first | omega | (simp; done) | (simp; omega)) (by first | omega | (simp; done) | (simp; omega)) (by first | omega | (simp; done) | (simp; omega)) _)) (fun b => by kernel_rfl) (fun h13 => ?_) (fun h13 => ?_)
        · have c14 : readsR ar az x12.1 x12.2 := of_decide_eq_true h13
          clear h13
          refine ald_nil ?_
          repeat' (with_reducible first | refine sk_seq ?_ | refine sk_block ?_ | refine sk_skip ?_ | refine sk_scope ?_)
          refine sk_true (by kernel_rfl) ?_
          repeat' (with_reducible first | refine sk_seq ?_ | refine sk_block ?_ | refine sk_skip ?_ | refine sk_scope ?_)
          refine sk_regionK Try.cfgOk hS (by kernel_rfl) ?_
          repeat' (with_reducible first | refine sk_seq ?_ | refine sk_block ?_ | refine sk_skip ?_ | refine sk_scope ?_)
          refine sk_ret ?_
          refine .inr ⟨_, _, (fun h => by cases h), .inr ⟨rfl, ?_, rfl, rfl⟩, ⟨by kernel_rfl, ⟨by kernel_rfl, trivial⟩, ⟨sub_clo rfl, trivial⟩, Nat.le_of_ble_eq_true (by kernel_rfl), ⟨by kernel_rfl, (((wf_empty 0).new _).new _), (selfs (all_cons (o := .cells [inlL kcells 2 ar, inlL scells 3 az, inlL kcells 2 aw]) (by kernel_rfl) (OSub.cells (.cons (sub_clo rfl) (.cons (sub_clo rfl) (.cons (sub_clo rfl) .nil)))) (all_cons (o := .cells [inlL kcells 2 br, inlL scells 3 bz, inlL kcells 2 bw]) (by kernel_rfl) (OSub.cells (.cons (sub_clo rfl) (.cons (sub_clo rfl) (.cons (sub_clo rfl) .nil)))) (all_none))))⟩, mem_all (by kernel_rfl)⟩⟩
          · first | exact ⟨_, by assumption, by first | assumption | omega | exact Or.inl (by assumption) | exact Or.inr (by assumption) | exact fun h => h.elim (by assumption) (by assumption) | (simp_all; done)⟩ | exact ⟨_, by assumption, by first | assumption | omega | exact Or.inl (by assumption) | exact Or.inr (by assumption) | exact fun h => h.elim (by assumption) (by assumption) | (simp_all; done), rfl⟩
        · have c14 : ¬ (readsR ar az x12.1 x12.2) := of_decide_eq_false h13
          clear h13
          refine ald_nil ?_
          repeat' (with_reducible first | refine sk_seq ?_ | refine sk_block ?_ | refine sk_skip ?_ | refine sk_scope ?_)
          refine sk_false (by kernel_rfl) ?_
          repeat' (with_reducible first | refine sk_seq ?_ | refine sk_block ?_ | refine sk_skip ?_ | refine sk_scope ?_)
          refine sk_regionL Try.cfgOk hS ?_
          refine al_chunk 1 (by kernel_rfl) ?_
          refine al_eqv (v := .int .i64 (IntKind.wrap .i64 (((i : Nat) : Int) + 1))) (.int .i64 ((i + 1 : Nat) : Int)) (by kernel_rfl) (by kernel_rfl) (by kernel_rfl) (congrArg (Value.int .i64) (wrap_to (by omega) (by omega))) ?_
          refine al_known (by kernel_rfl) ?_
          repeat' (with_reducible first | refine sk_seq ?_ | refine sk_block ?_ | refine sk_skip ?_ | refine sk_scope ?_)
          refine .inl ⟨i + 1, rfl, ⟨?_, ?_⟩, ?_, ⟨by kernel_rfl, ⟨by kernel_rfl, by kernel_rfl, by kernel_rfl, trivial⟩, ⟨.ptr ⟨by decide, rfl⟩, .ptr ⟨by decide, rfl⟩, sub_clo rfl, trivial⟩, Nat.le_of_ble_eq_true (by kernel_rfl), ⟨by kernel_rfl, (((wf_empty 0).new _).new _), (selfs (all_cons (o := .cells [inlL kcells 2 ar, inlL scells 3 az, inlL kcells 2 aw]) (by kernel_rfl) (OSub.cells (.cons (sub_clo rfl) (.cons (sub_clo rfl) (.cons (sub_clo rfl) .nil)))) (all_cons (o := .cells [inlL kcells 2 br, inlL scells 3 bz, inlL kcells 2 bw]) (by kernel_rfl) (OSub.cells (.cons (sub_clo rfl) (.cons (sub_clo rfl) (.cons (sub_clo rfl) .nil)))) (all_none))))⟩, mem_all (by kernel_rfl)⟩⟩
          · omega
          · exact NoHit.succ (p := (fun x : Key => readsR ar az x.1 x.2)) (by assumption) (by assumption) (by first | assumption | omega | exact fun h => h.elim (by assumption) (by assumption) | (simp_all; done))
          · omega
      · have c11e : (decide ((((i : Nat) : Int) : Int) < ((bw.length : Nat) : Int))) = false := Eq.trans (by kernel_rfl) h10
        clear h10
        have c11 : ¬ (((i : Nat) : Int) : Int) < ((bw.length : Nat) : Int) := of_decide_eq_false c11e
        clear c11e
        refine al_nil ?_
        repeat' (with_reducible first | refine sk_seq ?_ | refine sk_block ?_ | refine sk_skip ?_ | refine sk_scope ?_)
        refine sk_false (by kernel_rfl) ?_
        repeat' (with_reducible first | refine sk_seq ?_ | refine sk_block ?_ | refine sk_skip ?_ | refine sk_scope ?_)
        refine sk_exit ?_
        dsimp only
        refine .inr ⟨_, _, (fun h => by cases h), .inl ⟨rfl, ?_, rfl, rfl⟩, ⟨by kernel_rfl, ⟨by kernel_rfl, by kernel_rfl, by kernel_rfl, trivial⟩, ⟨.ptr ⟨by decide, rfl⟩, .ptr ⟨by decide, rfl⟩, sub_clo rfl, trivial⟩, Nat.le_of_ble_eq_true (by kernel_rfl), ⟨by kernel_rfl, (((wf_empty 0).new _).new _), (selfs (all_cons (o := .cells [inlL kcells 2 ar, inlL scells 3 az, inlL kcells 2 aw]) (by kernel_rfl) (OSub.cells (.cons (sub_clo rfl) (.cons (sub_clo rfl) (.cons (sub_clo rfl) .nil)))) (all_cons (o := .cells [inlL kcells 2 br, inlL scells 3 bz, inlL kcells 2 bw]) (by kernel_rfl) (OSub.cells (.cons (sub_clo rfl) (.cons (sub_clo rfl) (.cons (sub_clo rfl) .nil)))) (all_none))))⟩, mem_all (by kernel_rfl)⟩⟩
        · omega
    · exact ⟨by omega, by exact NoHit.zero⟩
    rintro o e1 s1 ⟨a, lv1, M1, m9, ha, (⟨rfl, hx, rfl, rfl⟩ | ⟨rfl, hx, rfl, rfl⟩), rfl, rfl⟩
    ·
      obtain ⟨i, ea⟩ : ∃ z, z = a := ⟨_, rfl⟩
      subst ea
      obtain ⟨i0, i1⟩ := ha
      dsimp only
      try rw [if_pos rfl]
      repeat' (with_reducible first | refine sk_seq ?_ | refine sk_block ?_ | refine sk_skip ?_ | refine sk_scope ?_)
      refine sk_regionK Try.cfgOk hS (by kernel_rfl) ?_
      repeat' (with_reducible first | refine sk_seq ?_ | refine sk_block ?_ | refine sk_skip ?_ | refine sk_scope ?_)
      refine sk_ret ?_
      exact ⟨[.bool false], by kernel_rfl, fs_to (fs_clo rfl) (congrArg Value.bool (by first | (obtain ⟨x, h1, h2⟩ := hx; exact (decide_eq_true (Or.inl ⟨x, List.mem_of_getElem? h1, h2⟩)).symm) | (obtain ⟨x, h1, h2⟩ := hx; exact (decide_eq_true (Or.inr ⟨x, List.mem_of_getElem? h1, h2⟩)).symm) | exact (decide_eq_false (by rintro (h | h); exact NoHit.none (by assumption) (by assumption) h; exact NoHit.none (by assumption) (by assumption) h)).symm)), Nat.le_of_ble_eq_true (by kernel_rfl)⟩
    ·
      obtain ⟨i, ea⟩ : ∃ z, z = a := ⟨_, rfl⟩
      subst ea
      obtain ⟨i0, i1⟩ := ha
      dsimp only
      exact ⟨[.bool true], by kernel_rfl, fs_to (fs_clo rfl) (congrArg Value.bool (by first | (obtain ⟨x, h1, h2⟩ := hx; exact (decide_eq_true (Or.inl ⟨x, List.mem_of_getElem? h1, h2⟩)).symm) | (obtain ⟨x, h1, h2⟩ := hx; exact (decide_eq_true (Or.inr ⟨x, List.mem_of_getElem? h1, h2⟩)).symm) | exact (decide_eq_false (by rintro (h | h); exact NoHit.none (by assumption) (by assumption) h; exact NoHit.none (by assumption) (by assumption) h)).symm)), Nat.le_of_ble_eq_true (by kernel_rfl)⟩
  ·
    obtain ⟨i, ea⟩ : ∃ z, z = a := ⟨_, rfl⟩
    subst ea
    obtain ⟨i0, i1⟩ := ha
    dsimp only
    exact ⟨[.bool true], by kernel_rfl, fs_to (fs_clo rfl) (congrArg Value.bool (by first | (obtain ⟨x, h1, h2⟩ := hx; exact (decide_eq_true (Or.inl ⟨x, List.mem_of_getElem? h1, h2⟩)).symm) | (obtain ⟨x, h1, h2⟩ := hx; exact (decide_eq_true (Or.inr ⟨x, List.mem_of_getElem? h1, h2⟩)).symm) | exact (decide_eq_false (by rintro (h | h); exact NoHit.none (by assumption) (by assumption) h; exact NoHit.none (by assumption) (by assumption) h)).symm)), Nat.le_of_ble_eq_true (by kernel_rfl)⟩
noncomputable def con_meetR_ : Con Try.prog 0 := Con.pure (α := (List Key) × (List Span) × (List Key) × (List Key) × (List Span) × (List Key)) 20 (fun z9 => [.agg #[inlL kcells 2 z9.1, inlL scells 3 z9.2.1, inlL kcells 2 z9.2.2.1], .agg #[inlL kcells 2 z9.2.2.2.1, inlL scells 3 z9.2.2.2.2.1, inlL kcells 2 z9.2.2.2.2.2]]) (fun z9 => .bool (decide (meetR1 z9.2.2.1 z9.2.2.2.1 z9.2.2.2.2.1 z9.2.2.2.2.2 ∨ meetR2 z9.2.2.2.2.2 z9.1 z9.2.1))) (fun z9 => (z9.1.length ≤ 1000000) ∧ (z9.2.1.length ≤ 1000000) ∧ (z9.2.2.1.length ≤ 1000000) ∧ (z9.2.2.2.1.length ≤ 1000000) ∧ (z9.2.2.2.2.1.length ≤ 1000000) ∧ (z9.2.2.2.2.2.length ≤ 1000000)) (by
  rintro ⟨a0, a1, a2, a3, a4, a5⟩ ⟨b0, b1, b2, b3, b4, b5⟩ h
  simp only [List.cons.injEq, and_true, Value.int.injEq, Value.bool.injEq, Value.string.injEq, Value.agg.injEq, Array.mk.injEq, true_and, kcells_iff, scells_iff] at h
  first | exact h | (simp only [Prod.ext_iff, h, and_self, and_true, true_and]; done) | simp_all [Prod.ext_iff]) (fun _ => rfl) (fun _ => rfl) 400 (by
  rintro ⟨a0, a1, a2, a3, a4, a5⟩ ⟨p0, p1, p2, p3, p4, p5⟩
  exact meetR__sc a0 a1 a2 a3 a4 a5 p0 p1 p2 p3 p4 p5)
theorem con_meetR__at (ar : List Key) (az : List Span) (aw : List Key) (br : List Key) (bz : List Span) (bw : List Key) (h0 : ar.length ≤ 1000000) (h1 : az.length ≤ 1000000) (h2 : aw.length ≤ 1000000) (h3 : br.length ≤ 1000000) (h4 : bz.length ≤ 1000000) (h5 : bw.length ≤ 1000000) (s : St) : con_meetR_.rel [.agg #[inlL kcells 2 ar, inlL scells 3 az, inlL kcells 2 aw], .agg #[inlL kcells 2 br, inlL scells 3 bz, inlL kcells 2 bw]] s (.bool (decide (meetR1 aw br bz bw ∨ meetR2 bw ar az))) s := con_pure (ar, az, aw, br, bz, bw) ⟨h0, h1, h2, h3, h4, h5⟩ s
end Go.Proofs.Ytekeepgjegkedaa
