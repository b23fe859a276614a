/- The law: what feet put together are. -/
import Derived.Test.YtekeepgjegkedaaRefJoin
import Derived.Test.YtekeepgjegkedaaSame
set_option linter.unusedVariables false
set_option linter.unusedSimpArgs false
set_option linter.unnecessarySimpa false
namespace Go.Proofs.Ytekeepgjegkedaa
open Go.Ai
theorem copies_fn : Try.cfg.fn 13 = some Try.f13 := by kernel_rfl
set_option maxHeartbeats 4000000 in
set_option maxRecDepth 100000 in
theorem copies_sc (rs : List Key) (ss : List Span) (ws : List Key) (h0 : rs.length ≤ 1000000) (h1 : ss.length ≤ 1000000) (h2 : ws.length ≤ 1000000) : SC Try.prog 0 13 [.agg #[inlL kcells 2 rs, inlL scells 3 ss, inlL kcells 2 ws]] (St.empty 0) fun v s' => v = .agg #[inlL kcells 2 rs, inlL scells 3 ss, inlL kcells 2 ws] ∧ s'.n ≤ 400 := by
  have hS := sound_run Try.cfgOk 300
  refine sc_ice0 (N := 400) (v2 := .agg #[inlL kcells 2 rs, inlL scells 3 ss, inlL kcells 2 ws]) (Q := fun v s' => FS 0 s' v (.agg #[inlL kcells 2 rs, inlL scells 3 ss, inlL kcells 2 ws]) ∧ s'.n ≤ 400) ?_ (fun _ _ h => h)
  refine sc_body Try.cfgOk copies_fn rfl ?_
  refine sk_seq ?_
  refine kK Try.cfgOk hS ?_
  refine sk_seq ?_
  refine sk_drawL Try.cfgOk hS ?_
  refine dK 3 ?_
  refine ald_opF (v := slL 2 2 (([] : List Key) ++ rs).length) (s1 := ((((St.empty 0).new (.cells [inlL kcells 2 rs, inlL scells 3 ss, inlL kcells 2 ws])).new (.cells [.slice none 0 0, .slice none 0 0, .slice none 0 0])).new (rowL kcells ([] : List Key))).set 2 (rowL kcells (([] : List Key) ++ rs))) (by kernel_rfl) (by kernel_rfl) (Eq.trans (b := appendV Try.cfg ((((St.empty 0).new (.cells [inlL kcells 2 rs, inlL scells 3 ss, inlL kcells 2 ws])).new (.cells [.slice none 0 0, .slice none 0 0, .slice none 0 0])).new (rowL kcells ([] : List Key))) 22 (slL 2 2 (([] : List Key).length)) (inlL kcells 2 rs)) (by kernel_rfl) (app_rowL (l := ([] : List Key)) (l2 := rs) (bytes := 16) tokC (by kernel_rfl) kcells_len kcells_one (by kernel_rfl) (lenV_inl tokC) (firstV_inlL tokC kcells_len) (by (try simp only [List.length_cons, List.length_nil, List.length_append]); omega))) (by kernel_rfl) ?_
  refine dK 2 ?_
  refine ald_readK (d := (0, St.empty 0, St.empty 0)) (by kernel_rfl) (by kernel_rfl) (by kernel_rfl) (by kernel_rfl) (below_len (k := 1) (by kernel_rfl) (all1 (.inr (read_again (by kernel_rfl) (Eq.trans (b := inlL scells 3 ss) (by kernel_rfl) (by kernel_rfl)))))) ?_
  refine ald_opF (v := slL 3 3 (([] : List Span) ++ ss).length) (s1 := (((((St.empty 0).new (.cells [inlL kcells 2 rs, inlL scells 3 ss, inlL kcells 2 ws])).new (.cells [.slice none 0 0, .slice none 0 0, .slice none 0 0])).new (rowL kcells (([] : List Key) ++ rs))).new (rowL scells ([] : List Span))).set 3 (rowL scells (([] : List Span) ++ ss))) (by kernel_rfl) (by kernel_rfl) (Eq.trans (b := appendV Try.cfg (((((St.empty 0).new (.cells [inlL kcells 2 rs, inlL scells 3 ss, inlL kcells 2 ws])).new (.cells [.slice none 0 0, .slice none 0 0, .slice none 0 0])).new (rowL kcells (([] : List Key) ++ rs))).new (rowL scells ([] : List Span))) 23 (slL 3 3 (([] : List Span).length)) (inlL scells 3 ss)) (by kernel_rfl) (app_rowL (l := ([] : List Span)) (l2 := ss) (bytes := 24) tokC (by kernel_rfl) scells_len scells_one (by kernel_rfl) (lenV_inl tokC) (firstV_inlL tokC scells_len) (by (try simp only [List.length_cons, List.length_nil, List.length_append]); omega))) (by kernel_rfl) ?_
  refine dK 2 ?_
  refine ald_readK (d := (0, St.empty 0, St.empty 0)) (by kernel_rfl) (by kernel_rfl) (by kernel_rfl) (by kernel_rfl) (below_len (k := 2) (by kernel_rfl) (all2 (.inr (read_again (by kernel_rfl) (Eq.trans (b := inlL kcells 2 ws) (by kernel_rfl) (by kernel_rfl)))) (.inr (read_again (by kernel_rfl) (Eq.trans (b := inlL kcells 2 ws) (by kernel_rfl) (by kernel_rfl)))))) ?_
  refine ald_opF (v := slL 4 2 (([] : List Key) ++ ws).length) (s1 := ((((((St.empty 0).new (.cells [inlL kcells 2 rs, inlL scells 3 ss, inlL kcells 2 ws])).new (.cells [.slice none 0 0, .slice none 0 0, .slice none 0 0])).new (rowL kcells (([] : List Key) ++ rs))).new (rowL scells (([] : List Span) ++ ss))).new (rowL kcells ([] : List Key))).set 4 (rowL kcells (([] : List Key) ++ ws))) (by kernel_rfl) (by kernel_rfl) (Eq.trans (b := appendV Try.cfg ((((((St.empty 0).new (.cells [inlL kcells 2 rs, inlL scells 3 ss, inlL kcells 2 ws])).new (.cells [.slice none 0 0, .slice none 0 0, .slice none 0 0])).new (rowL kcells (([] : List Key) ++ rs))).new (rowL scells (([] : List Span) ++ ss))).new (rowL kcells ([] : List Key))) 22 (slL 4 2 (([] : List Key).length)) (inlL kcells 2 ws)) (by kernel_rfl) (app_rowL (l := ([] : List Key)) (l2 := ws) (bytes := 16) tokC (by kernel_rfl) kcells_len kcells_one (by kernel_rfl) (lenV_inl tokC) (firstV_inlL tokC kcells_len) (by (try simp only [List.length_cons, List.length_nil, List.length_append]); omega))) (by kernel_rfl) ?_
  refine dK 2 ?_
  refine ald_nil ?_
  refine sk_ret ?_
  exact ⟨[.agg #[slL 2 2 ((([] : List Key) ++ rs).length), slL 3 3 ((([] : List Span) ++ ss).length), slL 4 2 ((([] : List Key) ++ ws).length)]], by kernel_rfl, .agg (.cons (fs_to (fs_rowL (by decide) kcells_len kcells_clo kcells_one (Nat.le_of_ble_eq_true (by kernel_rfl)) (by kernel_rfl)) (congrArg (inlL kcells 2) (by rfl))) (.cons (fs_to (fs_rowL (by decide) scells_len scells_clo scells_one (Nat.le_of_ble_eq_true (by kernel_rfl)) (by kernel_rfl)) (congrArg (inlL scells 3) (by rfl))) (.cons (fs_to (fs_rowL (by decide) kcells_len kcells_clo kcells_one (Nat.le_of_ble_eq_true (by kernel_rfl)) (by kernel_rfl)) (congrArg (inlL kcells 2) (by rfl))) (.nil)))), Nat.le_of_ble_eq_true (by kernel_rfl)⟩
noncomputable def con_copies : Con Try.prog 0 := Con.pure (α := (List Key) × (List Span) × (List Key)) 13 (fun z9 => [.agg #[inlL kcells 2 z9.1, inlL scells 3 z9.2.1, inlL kcells 2 z9.2.2]]) (fun z9 => .agg #[inlL kcells 2 z9.1, inlL scells 3 z9.2.1, inlL kcells 2 z9.2.2]) (fun z9 => (z9.1.length ≤ 1000000) ∧ (z9.2.1.length ≤ 1000000) ∧ (z9.2.2.length ≤ 1000000)) (by
  rintro ⟨a0, a1, a2⟩ ⟨b0, b1, b2⟩ h
  simp only [List.cons.injEq, and_true, Int.natCast_inj, UInt8.toNat_inj, Value.int.injEq, Value.bool.injEq, Value.string.injEq, Value.agg.injEq, Array.mk.injEq, true_and, kcells_iff, scells_iff] at h
  first | exact h | (simp only [Prod.ext_iff, h, and_self, and_true, true_and]; done) | simp_all [Prod.ext_iff]) (fun _ => rfl) (fun _ => rfl) 400 (by
  rintro ⟨a0, a1, a2⟩ ⟨p0, p1, p2⟩
  exact copies_sc a0 a1 a2 p0 p1 p2)
theorem con_copies_at (rs : List Key) (ss : List Span) (ws : List Key) (h0 : rs.length ≤ 1000000) (h1 : ss.length ≤ 1000000) (h2 : ws.length ≤ 1000000) (s : St) : con_copies.rel [.agg #[inlL kcells 2 rs, inlL scells 3 ss, inlL kcells 2 ws]] s (.agg #[inlL kcells 2 rs, inlL scells 3 ss, inlL kcells 2 ws]) s := con_pure (rs, ss, ws) ⟨h0, h1, h2⟩ s
theorem larget_fn : Try.cfg.fn 9 = some Try.f9 := by kernel_rfl
set_option maxHeartbeats 4000000 in
set_option maxRecDepth 100000 in
theorem larget_sc (l : List Foot) (h0 : l.length ≤ 9223372036854775807) : SC Try.prog 0 9 [inlL fcells 3 l] (St.empty 0) fun v s' => v = .bool (tf (largeL l)) ∧ s'.n ≤ 400 := by
  have hS := sound_run Try.cfgOk 300
  refine sc_ice0 (N := 400) (v2 := .bool (tf (largeL l))) (Q := fun v s' => FS 0 s' v (.bool (tf (largeL l))) ∧ s'.n ≤ 400) ?_ (fun _ _ h => h)
  refine sc_body Try.cfgOk larget_fn rfl ?_
  refine sk_seq ?_
  refine kK Try.cfgOk hS ?_
  refine sk_seq (sk_seq ?_)
  refine sk_regionL Try.cfgOk hS ?_
  refine aK 1 ?_
  refine aM (lenB Try.cfg (St.empty 0) 35 (inlL fcells 3 l)) (.int .i64 ((l.length : Nat) : Int)) (len_inl tokC (by kernel_rfl)) ?_
  refine aN ?_
  refine sk_block ?_
  refine sk_live 33 ((fun a : Nat => [(5, inlL fcells 3 l), (6, .int .i64 ((l.length : Nat) : Int)), (7, .int .i64 ((a : Nat) : Int))]) 0) (by kernel_rfl) ⟨by kernel_rfl, by kernel_rfl, by kernel_rfl, trivial⟩ fun m1 => ?_
  refine sk_st ((fun a : Nat => (St.empty 0)) 0) (by kernel_rfl) ?_
  refine (sk_while (k := 0) (N := 400) (live := (fun a : Nat => [(5, inlL fcells 3 l), (6, .int .i64 ((l.length : Nat) : Int)), (7, .int .i64 ((a : Nat) : Int))])) (M := (fun a : Nat => (St.empty 0))) (fun a : Nat => (a ≤ l.length) ∧ (NoI (fun a : Nat => bigF l a) a)) (fun a : Nat => l.length - a) (fun (a : Nat) (o : Out) (lv : List (Nat × Value)) (M : St) => (o = .exit 0 ∧ (¬ a < l.length) ∧ lv = [(5, inlL fcells 3 l), (6, .int .i64 ((l.length : Nat) : Int)), (7, .int .i64 ((a : Nat) : Int))] ∧ M = (St.empty 0)) ∨ (o = .ret ∧ (a < l.length ∧ (bigF l a)) ∧ lv = [(2, .bool true)] ∧ M = (St.empty 0))) (Nat.zero_le _) (fun a ha => ?_) (fun a ha => ?_) (fun a m ha => ?_) (fun a m ha => ?_) 0 m1 ?_).up ?_
  · exact ⟨by kernel_rfl, (wf_empty 0), (fun i hi => absurd hi (Nat.not_lt_zero i))⟩
  · exact ⟨sub_clo rfl, sub_clo rfl, sub_clo rfl, trivial⟩
  · exact ⟨by kernel_rfl, by kernel_rfl, by kernel_rfl, trivial⟩
  · obtain ⟨i, ea⟩ : ∃ z, z = a := ⟨_, rfl⟩
    subst ea
    obtain ⟨i0, i1⟩ := ha
    refine sk_seq ?_
    refine sk_regionL Try.cfgOk hS ?_
    refine aT (fun h2 => ?_) (fun h2 => ?_)
    · have c3e : (decide ((((i : Nat) : Int) : Int) < ((l.length : Nat) : Int))) = true := Eq.trans (by kernel_rfl) h2
      clear h2
      have c3 : (((i : Nat) : Int) : Int) < ((l.length : Nat) : Int) := of_decide_eq_true c3e
      clear c3e
      refine al_nil ?_
      refine sk_seq ?_
      refine kT ?_
      refine sk_skip (sk_seq (sk_block (sk_seq ?_)))
      refine sk_regionL Try.cfgOk hS ?_
      refine aK 1 ?_
      refine aM (indexAddrV Try.cfg 35 (inlL fcells 3 l) (.int .i64 ((i : Nat) : Int))) (elt (flatL fcells l) (i * 3)) (idx_inlL tokC (by kernel_rfl) (by first | omega | simp)) ?_
      have hx4l : i < l.length := by omega
      refine Exists.elim (get_ex hx4l) fun x4 hx4 => ?_
      clear hx4l
      refine aM (loadV Try.cfg (St.empty 0) 25 (elt (flatL fcells l) (i * 3))) (.agg #[inlL kcells 2 x4.1, inlL scells 3 x4.2.1, inlL kcells 2 x4.2.2]) (load_el tokC (by kernel_rfl) fcells_len hx4) ?_
      refine aN ?_
      refine sk_seq ?_
      refine sk_regionL Try.cfgOk hS ?_
      refine aK 1 ?_
      refine aT (fun h5 => ?_) (fun h5 => ?_)
      · have c6e : (decide ((((i : Nat) : Int) : Int) > 10)) = true := Eq.trans (by kernel_rfl) h5
        clear h5
        have c6 : (((i : Nat) : Int) : Int) > 10 := of_decide_eq_true c6e
        clear c6e
        refine aN ?_
        refine kT ?_
        refine sk_seq ?_
        refine kK Try.cfgOk hS ?_
        refine sk_ret ?_
        refine .inr ⟨_, _, (fun h => by cases h), .inr ⟨rfl, ?_, rfl, rfl⟩, ⟨by kernel_rfl, ⟨by kernel_rfl, trivial⟩, ⟨sub_clo rfl, trivial⟩, Nat.le_of_ble_eq_true (by kernel_rfl), ⟨by kernel_rfl, (wf_empty 0), (fun i hi => absurd hi (Nat.not_lt_zero i))⟩, mem_all (by kernel_rfl)⟩⟩
        · first | (refine ⟨by omega, ?_⟩; rw [bigF_iff (by assumption)]; omega) | (rw [bigF_iff (by assumption)]; omega)
      · have c6e : (decide ((((i : Nat) : Int) : Int) > 10)) = false := Eq.trans (by kernel_rfl) h5
        clear h5
        have c6 : ¬ (((i : Nat) : Int) : Int) > 10 := of_decide_eq_false c6e
        clear c6e
        refine aK 3 ?_
        refine aM (lenB Try.cfg (St.empty 0) 22 (inlL kcells 2 x4.1)) (.int .i64 ((x4.1.length : Nat) : Int)) (len_inl tokC (by kernel_rfl)) ?_
        refine aT (fun h7 => ?_) (fun h7 => ?_)
        · have c8e : (decide ((((x4.1.length : Nat) : Int) : Int) > 60)) = true := Eq.trans (by kernel_rfl) h7
          clear h7
          have c8 : (((x4.1.length : Nat) : Int) : Int) > 60 := of_decide_eq_true c8e
          clear c8e
          refine aN ?_
          refine kT ?_
          refine sk_seq ?_
          refine kK Try.cfgOk hS ?_
          refine sk_ret ?_
          refine .inr ⟨_, _, (fun h => by cases h), .inr ⟨rfl, ?_, rfl, rfl⟩, ⟨by kernel_rfl, ⟨by kernel_rfl, trivial⟩, ⟨sub_clo rfl, trivial⟩, Nat.le_of_ble_eq_true (by kernel_rfl), ⟨by kernel_rfl, (wf_empty 0), (fun i hi => absurd hi (Nat.not_lt_zero i))⟩, mem_all (by kernel_rfl)⟩⟩
          · first | (refine ⟨by omega, ?_⟩; rw [bigF_iff (by assumption)]; omega) | (rw [bigF_iff (by assumption)]; omega)
        · have c8e : (decide ((((x4.1.length : Nat) : Int) : Int) > 60)) = false := Eq.trans (by kernel_rfl) h7
          clear h7
          have c8 : ¬ (((x4.1.length : Nat) : Int) : Int) > 60 := of_decide_eq_false c8e
          clear c8e
          refine aK 4 ?_
          refine aM (lenB Try.cfg (St.empty 0) 23 (inlL scells 3 x4.2.1)) (.int .i64 ((x4.2.1.length : Nat) : Int)) (len_inl tokC (by kernel_rfl)) ?_
          refine aT (fun h9 => ?_) (fun h9 => ?_)
          · have c10e : (decide ((((x4.2.1.length : Nat) : Int) : Int) > 60)) = true := Eq.trans (by kernel_rfl) h9
            clear h9
            have c10 : (((x4.2.1.length : Nat) : Int) : Int) > 60 := of_decide_eq_true c10e
            clear c10e
            refine aN ?_
            refine kT ?_
            refine sk_seq ?_
            refine kK Try.cfgOk hS ?_
            refine sk_ret ?_
            refine .inr ⟨_, _, (fun h => by cases h), .inr ⟨rfl, ?_, rfl, rfl⟩, ⟨by kernel_rfl, ⟨by kernel_rfl, trivial⟩, ⟨sub_clo rfl, trivial⟩, Nat.le_of_ble_eq_true (by kernel_rfl), ⟨by kernel_rfl, (wf_empty 0), (fun i hi => absurd hi (Nat.not_lt_zero i))⟩, mem_all (by kernel_rfl)⟩⟩
            · first | (refine ⟨by omega, ?_⟩; rw [bigF_iff (by assumption)]; omega) | (rw [bigF_iff (by assumption)]; omega)
          · have c10e : (decide ((((x4.2.1.length : Nat) : Int) : Int) > 60)) = false := Eq.trans (by kernel_rfl) h9
            clear h9
            have c10 : ¬ (((x4.2.1.length : Nat) : Int) : Int) > 60 := of_decide_eq_false c10e
            clear c10e
            refine aK 4 ?_
            refine aM (lenB Try.cfg (St.empty 0) 22 (inlL kcells 2 x4.2.2)) (.int .i64 ((x4.2.2.length : Nat) : Int)) (len_inl tokC (by kernel_rfl)) ?_
            refine aT (fun h11 => ?_) (fun h11 => ?_)
            · have c12e : (decide ((((x4.2.2.length : Nat) : Int) : Int) > 60)) = true := Eq.trans (by kernel_rfl) h11
              clear h11
              have c12 : (((x4.2.2.length : Nat) : Int) : Int) > 60 := of_decide_eq_true c12e
              clear c12e
              refine aN ?_
              refine kT ?_
              refine sk_seq ?_
              refine kK Try.cfgOk hS ?_
              refine sk_ret ?_
              refine .inr ⟨_, _, (fun h => by cases h), .inr ⟨rfl, ?_, rfl, rfl⟩, ⟨by kernel_rfl, ⟨by kernel_rfl, trivial⟩, ⟨sub_clo rfl, trivial⟩, Nat.le_of_ble_eq_true (by kernel_rfl), ⟨by kernel_rfl, (wf_empty 0), (fun i hi => absurd hi (Nat.not_lt_zero i))⟩, mem_all (by kernel_rfl)⟩⟩
              · first | (refine ⟨by omega, ?_⟩; rw [bigF_iff (by assumption)]; omega) | (rw [bigF_iff (by assumption)]; omega)
            · have c12e : (decide ((((x4.2.2.length : Nat) : Int) : Int) > 60)) = false := Eq.trans (by kernel_rfl) h11
              clear h11
              have c12 : ¬ (((x4.2.2.length : Nat) : Int) : Int) > 60 := of_decide_eq_false c12e
              clear c12e
              refine aN ?_
              refine kF ?_
              refine sk_skip ?_
              refine sk_regionL Try.cfgOk hS ?_
              refine aE (v := .int .i64 (IntKind.wrap .i64 (((i : Nat) : Int) + 1))) (.int .i64 ((i + 1 : Nat) : Int)) (congrArg (Value.int .i64) (wrap_to (by omega) (by omega))) ?_
              refine aN ?_
              refine .inl ⟨i + 1, rfl, ⟨?_, ?_⟩, ?_, ⟨by kernel_rfl, ⟨by kernel_rfl, by kernel_rfl, by kernel_rfl, trivial⟩, ⟨sub_clo rfl, sub_clo rfl, sub_clo rfl, trivial⟩, Nat.le_of_ble_eq_true (by kernel_rfl), ⟨by kernel_rfl, (wf_empty 0), (fun i hi => absurd hi (Nat.not_lt_zero i))⟩, mem_all (by kernel_rfl)⟩⟩
              · (try dsimp only); omega
              · (try dsimp only); exact NoI.succ (p := (fun i : Nat => bigF l i)) (by assumption) (by first | (refine ⟨by omega, ?_⟩; rw [bigF_iff (by assumption)]; omega) | (rw [bigF_iff (by assumption)]; omega))
              · omega
    · have c3e : (decide ((((i : Nat) : Int) : Int) < ((l.length : Nat) : Int))) = false := Eq.trans (by kernel_rfl) h2
      clear h2
      have c3 : ¬ (((i : Nat) : Int) : Int) < ((l.length : Nat) : Int) := of_decide_eq_false c3e
      clear c3e
      refine al_nil ?_
      refine sk_seq ?_
      refine kF ?_
      refine sk_exit ?_
      dsimp only
      refine .inr ⟨_, _, (fun h => by cases h), .inl ⟨rfl, ?_, rfl, rfl⟩, ⟨by kernel_rfl, ⟨by kernel_rfl, by kernel_rfl, by kernel_rfl, trivial⟩, ⟨sub_clo rfl, sub_clo rfl, sub_clo rfl, trivial⟩, Nat.le_of_ble_eq_true (by kernel_rfl), ⟨by kernel_rfl, (wf_empty 0), (fun i hi => absurd hi (Nat.not_lt_zero i))⟩, mem_all (by kernel_rfl)⟩⟩
      · omega
  · exact ⟨by ((try dsimp only); first | done | (omega)), by ((try dsimp only); first | done | (exact NoI.zero))⟩
  rintro o e1 s1 ⟨a, lv1, M1, m1, ha, (⟨rfl, hx, rfl, rfl⟩ | ⟨rfl, hx, rfl, rfl⟩), rfl, rfl⟩
  ·
    obtain ⟨i, ea⟩ : ∃ z, z = a := ⟨_, rfl⟩
    subst ea
    obtain ⟨i0, i1⟩ := ha
    dsimp only
    try rw [if_pos rfl]
    refine sk_seq ?_
    refine kK Try.cfgOk hS ?_
    refine sk_ret ?_
    exact ⟨[.bool false], by kernel_rfl, fs_to (fs_clo rfl) (congrArg Value.bool (by first | (obtain ⟨q1, q2⟩ := hx; exact Eq.symm (tf_true ⟨_, q1, q2⟩)) | exact Eq.symm (tf_false (fun h => NoI.none (by assumption) hx h)))), Nat.le_of_ble_eq_true (by kernel_rfl)⟩
  ·
    obtain ⟨i, ea⟩ : ∃ z, z = a := ⟨_, rfl⟩
    subst ea
    obtain ⟨i0, i1⟩ := ha
    dsimp only
    exact ⟨[.bool true], by kernel_rfl, fs_to (fs_clo rfl) (congrArg Value.bool (by first | (obtain ⟨q1, q2⟩ := hx; exact Eq.symm (tf_true ⟨_, q1, q2⟩)) | exact Eq.symm (tf_false (fun h => NoI.none (by assumption) hx h)))), Nat.le_of_ble_eq_true (by kernel_rfl)⟩
noncomputable def con_larget : Con Try.prog 0 := Con.pure (α := (List Foot)) 9 (fun z9 => [inlL fcells 3 z9]) (fun z9 => .bool (tf (largeL z9))) (fun z9 => (z9.length ≤ 9223372036854775807)) (by
  intro x y h
  simp only [List.cons.injEq, and_true, Int.natCast_inj, UInt8.toNat_inj, Value.int.injEq, Value.bool.injEq, Value.string.injEq, Value.agg.injEq, Array.mk.injEq, true_and, fcells_iff] at h
  first | exact h | (simp only [Prod.ext_iff, h, and_self, and_true, true_and]; done) | simp_all [Prod.ext_iff]) (fun _ => rfl) (fun _ => rfl) 400 (by
  rintro x p0
  exact larget_sc x p0)
theorem con_larget_at (l : List Foot) (h0 : l.length ≤ 9223372036854775807) (s : St) : con_larget.rel [inlL fcells 3 l] s (.bool (tf (largeL l))) s := con_pure l h0 s
theorem small_at {l : List Foot} (h : ¬ largeL l) {i : Nat} {x : Foot} (hx : l[i]? = some x) : i ≤ 10 ∧ x.1.length ≤ 60 ∧ x.2.1.length ≤ 60 ∧ x.2.2.length ≤ 60 := by
  have h0 : ¬ bigF l i := fun q => h ⟨i, (List.getElem?_eq_some_iff.1 hx).1, q⟩
  rw [bigF_iff hx] at h0
  omega
theorem flat_bd {α β : Type} (f : α → List β) {c : Nat} : ∀ {l : List α}, (∀ x ∈ l, (f x).length ≤ c) → (l.flatMap f).length ≤ c * l.length
  | [], _ => by simp
  | x :: l, h => by
    have q := flat_bd f (l := l) fun z hz => h z (.tail _ hz)
    have q2 := h x (.head _)
    rw [List.flatMap_cons, List.length_append, List.length_cons, Nat.mul_add]
    omega
theorem small_all {l : List Foot} (h : ¬ largeL l) : l.length ≤ 11 ∧ (flatR l).length ≤ 660 ∧ (flatS l).length ≤ 660 ∧ (flatW l).length ≤ 660 ∧ ∀ x ∈ l, x.1.length ≤ 60 ∧ x.2.1.length ≤ 60 ∧ x.2.2.length ≤ 60 := by
  have hl : l.length ≤ 11 := by
    refine Classical.byContradiction fun q => ?_
    obtain ⟨x, hx⟩ := get_ex (l := l) (i := 11) (by omega)
    have := (small_at h hx).1
    omega
  have hb : ∀ x ∈ l, x.1.length ≤ 60 ∧ x.2.1.length ≤ 60 ∧ x.2.2.length ≤ 60 := fun x hx => by
    obtain ⟨i, hi⟩ := List.getElem?_of_mem hx
    exact (small_at h hi).2
  have q1 := flat_bd (fun x : Foot => x.1) (l := l) fun x hx => (hb x hx).1
  have q2 := flat_bd (fun x : Foot => x.2.1) (l := l) fun x hx => (hb x hx).2.1
  have q3 := flat_bd (fun x : Foot => x.2.2) (l := l) fun x hx => (hb x hx).2.2
  unfold flatR flatS flatW
  exact ⟨hl, by omega, by omega, by omega, hb⟩
theorem ok_flat {l : List Foot} (h : ∀ x ∈ l, ∀ z ∈ x.2.1, okN z) : ∀ z ∈ flatS l, okN z := by
  intro z hz
  obtain ⟨x, hx, hz⟩ := List.mem_flatMap.1 hz
  exact h x hx z hz
theorem any_t {α : Type} {p : α → Prop} {l : List α} {i : Nat} (h : true = tf (∃ x, x ∈ l.take i ∧ p x)) : true = tf (∃ x, x ∈ l.take (i + 1) ∧ p x) := by
  obtain ⟨x, hx, q⟩ := tf_t h.symm
  refine (tf_true ⟨x, ?_, q⟩).symm
  rw [List.take_add_one]
  exact List.mem_append_left _ hx
theorem any_y {α : Type} {p : α → Prop} {l : List α} {i : Nat} {x : α} (hx : l[i]? = some x) (q : p x) : true = tf (∃ x, x ∈ l.take (i + 1) ∧ p x) := by
  refine (tf_true ⟨x, ?_, q⟩).symm
  rw [take_snoc hx]
  exact List.mem_append_right _ (.head _)
theorem any_n {α : Type} {p : α → Prop} {l : List α} {i : Nat} {x : α} (h : false = tf (∃ x, x ∈ l.take i ∧ p x)) (hx : l[i]? = some x) (q : ¬ p x) : false = tf (∃ x, x ∈ l.take (i + 1) ∧ p x) := by
  refine (tf_false fun ⟨z, hz, qz⟩ => ?_).symm
  rw [take_snoc hx] at hz
  rcases List.mem_append.1 hz with hz | hz
  · exact tf_f h.symm ⟨z, hz, qz⟩
  · obtain rfl := List.mem_singleton.1 hz
    exact q qz
theorem any_end {α : Type} {p : α → Prop} {l : List α} {i : Nat} {b : Bool} (h : b = tf (∃ x, x ∈ l.take i ∧ p x)) (hi : ¬ i < l.length) : b = tf (∃ x, x ∈ l ∧ p x) := by rwa [List.take_of_length_le (by omega)] at h
theorem eql_of' {a b : Bool} (h : a = b) : (a == b) = true := by rw [h]; exact beq_self_eq_true _
abbrev anyR (l : List Foot) (kt kk : Int) : Prop := ∃ x, x ∈ l ∧ readsR x.1 x.2.1 kt kk
abbrev anyW (l : List Foot) (kt kk : Int) : Prop := ∃ x, x ∈ l ∧ hasK x.2.2 kt kk
theorem has_flat {f : Foot → List Key} {l : List Foot} {kt kk : Int} : hasK (l.flatMap f) kt kk ↔ ∃ x, x ∈ l ∧ hasK (f x) kt kk :=
  ⟨fun ⟨z, hz, q⟩ => by obtain ⟨x, hx, hz⟩ := List.mem_flatMap.1 hz; exact ⟨x, hx, z, hz, q⟩, fun ⟨x, hx, z, hz, q⟩ => ⟨z, List.mem_flatMap.2 ⟨x, hx, hz⟩, q⟩⟩
theorem has_kj {l : List Key} {kt kk : Int} : hasK (kj l) kt kk ↔ hasK l kt kk := exists_congr fun x => and_congr kj_mem Iff.rfl
theorem inP_iff {l : List Span} {t k : Int} : inP l t k ↔ hasP l t k := by
  refine exists_congr fun x => and_congr Iff.rfl ?_
  unfold pt
  omega
theorem hasP_flat {l : List Foot} {t k : Int} : hasP (flatS l) t k ↔ ∃ x, x ∈ l ∧ hasP x.2.1 t k :=
  ⟨fun ⟨z, hz, q⟩ => by obtain ⟨x, hx, hz⟩ := List.mem_flatMap.1 hz; exact ⟨x, hx, z, hz, q⟩, fun ⟨x, hx, z, hz, q⟩ => ⟨z, List.mem_flatMap.2 ⟨x, hx, hz⟩, q⟩⟩
theorem reads_any {l m : List Foot} (e : m = l) (h : ∀ x ∈ l, ∀ z ∈ x.2.1, okN z) {kt kk : Int} {b : Bool} (hb : b = tf (anyR l kt kk)) : decide (readsP (kj (flatR m)) (sj (flatS m)) kt kk) = b := by
  subst e
  rw [hb, ← tf_decide]
  refine tf_iff ?_
  unfold readsP
  rw [has_kj, inP_iff, (sj_can (ok_flat h)).2.2, hasP_flat, show hasK (flatR m) kt kk ↔ _ from has_flat]
  constructor
  · rintro (⟨x, hx, q⟩ | ⟨x, hx, q⟩)
    · exact ⟨x, hx, .inr q⟩
    · exact ⟨x, hx, .inl q⟩
  · rintro ⟨x, hx, q | q⟩
    · exact .inr ⟨x, hx, q⟩
    · exact .inl ⟨x, hx, q⟩
theorem writes_any {l m : List Foot} (e : m = l) {kt kk : Int} {b : Bool} (hb : b = tf (anyW l kt kk)) : decide (hasK (kj (flatW m)) kt kk) = b := by
  subst e
  rw [hb, ← tf_decide]
  exact tf_iff (has_kj.trans has_flat)
theorem same_at {l m : List Foot} (e : m = l) {i : Nat} {x y : Foot} (hy : m[i]? = some y) (hx : l[i]? = some x) : y.1 = x.1 ∧ y.2.1 = x.2.1 ∧ y.2.2 = x.2.2 := by
  subst e
  rw [hy] at hx
  obtain rfl := Option.some.inj hx
  exact ⟨rfl, rfl, rfl⟩
theorem join_ref {l m : List Foot} (e : m = l) (h : ∀ x ∈ l, ∀ z ∈ x.2.1, okN z) : kj (flatR m) = insAll (flatR l) ∧ sj (flatS m) = addAll (flatS l) ∧ kj (flatW m) = insAll (flatW l) := by
  subst e
  exact ⟨(insAll_kj _).symm, (addAll_sj (ok_flat h)).symm, (insAll_kj _).symm⟩
theorem law4_fn : Try.cfg.fn 4 = some Try.f4 := by kernel_rfl
set_option maxHeartbeats 4000000 in
set_option maxRecDepth 100000 in
theorem law4_sc (l : List Foot) (kt : Int) (kk : Int) (h0 : ∀ x ∈ l, ∀ z ∈ x.2.1, okN z) (h1 : l.length ≤ 9223372036854775807) : SC Try.prog 0 4 [inlL fcells 3 l, .agg #[.int .i64 kt, .int .i64 kk]] (St.empty 0) fun v s' => v = .bool true ∧ s'.n ≤ 400 := by
  obtain ⟨rc, hS, hC⟩ := rc_con (sound_run Try.cfgOk 300) [con_alive, con_larget, con_copies, con_readsR_, con_writesR, con_joinF, con_nfeet, con_joinR, con_readsF, con_writesP] (by kernel_rfl)
  have hC8 := hC con_alive (.head _)
  have hC9 := hC con_larget (.tail _ (.head _))
  have hC13 := hC con_copies (.tail _ (.tail _ (.head _)))
  have hC14 := hC con_readsR_ (.tail _ (.tail _ (.tail _ (.head _))))
  have hC15 := hC con_writesR (.tail _ (.tail _ (.tail _ (.tail _ (.head _)))))
  have hC10 := hC con_joinF (.tail _ (.tail _ (.tail _ (.tail _ (.tail _ (.head _))))))
  have hC12 := hC con_nfeet (.tail _ (.tail _ (.tail _ (.tail _ (.tail _ (.tail _ (.head _)))))))
  have hC16 := hC con_joinR (.tail _ (.tail _ (.tail _ (.tail _ (.tail _ (.tail _ (.tail _ (.head _))))))))
  have hC17 := hC con_readsF (.tail _ (.tail _ (.tail _ (.tail _ (.tail _ (.tail _ (.tail _ (.tail _ (.head _)))))))))
  have hC18 := hC con_writesP (.tail _ (.tail _ (.tail _ (.tail _ (.tail _ (.tail _ (.tail _ (.tail _ (.tail _ (.head _))))))))))
  refine sc_ice0 (N := 400) (v2 := .bool true) (Q := fun v s' => FS 0 s' v (.bool true) ∧ s'.n ≤ 400) ?_ (fun _ _ h => h)
  refine sc_body Try.cfgOk law4_fn rfl ?_
  refine sk_seq ?_
  refine kK Try.cfgOk hS ?_
  refine sk_seq (sk_seq ?_)
  refine sk_regionL Try.cfgOk hS ?_
  refine aC 8 [] (.bool true) _ rfl (hC8 _ _ _ _ (con_alive_at   _)) ?_
  refine aN ?_
  refine kF ?_
  refine sk_skip (sk_seq (sk_seq ?_))
  refine sk_regionL Try.cfgOk hS ?_
  refine aK 1 ?_
  refine aB 9 [inlL fcells 3 l] (tf (largeL l)) _ rfl (hC9 _ _ _ _ (con_larget_at l (by first | omega | (have q := g5 _ (List.mem_of_getElem? (by assumption)); omega) | (have q := s5 _ (List.mem_of_getElem? (by assumption)); omega) | (rw [g1]; omega) | (rw [hx.1]; omega) | exact ok_flat h0 | exact fun x hx => ⟨by have := s5 x hx; omega, by have := s5 x hx; omega, by have := s5 x hx; omega⟩ | (refine Nat.le_trans (kj_len _) ?_; rw [g1]; omega) | (refine Nat.le_trans (sj_len _) ?_; rw [g1]; omega) | exact Nat.le_trans (insAll_le _) (by omega) | exact Nat.le_trans (addAll_le (ok_flat h0)) (by omega) | (simp; done)) _)) (fun h1 => ?_) (fun h1 => ?_)
  · have c2 : largeL l := tf_t h1
    clear h1
    refine al_nil ?_
    refine kT ?_
    refine sk_seq ?_
    refine kK Try.cfgOk hS ?_
    refine sk_ret ?_
    exact ⟨[.bool true], by kernel_rfl, .same (sub_clo rfl), Nat.le_of_ble_eq_true (by kernel_rfl)⟩
  · have c2 : ¬ (largeL l) := tf_f h1
    clear h1
    obtain ⟨s1, s2, s3, s4, s5⟩ := small_all c2
    refine al_nil ?_
    refine kF ?_
    refine sk_skip (sk_seq ?_)
    refine kK Try.cfgOk hS ?_
    refine sk_seq ?_
    refine kK Try.cfgOk hS ?_
    refine sk_seq (sk_seq ?_)
    refine sk_regionL Try.cfgOk hS ?_
    refine aK 1 ?_
    refine aM (lenB Try.cfg (St.empty 0) 35 (inlL fcells 3 l)) (.int .i64 ((l.length : Nat) : Int)) (len_inl tokC (by kernel_rfl)) ?_
    refine aN ?_
    refine sk_block ?_
    refine sk_live 77 ((fun a : Nat × (List Foot) × Bool × Bool => [(0, inlL fcells 3 l), (3, .pointer (some ⟨0, 0, none⟩)), (5, slL 1 3 a.2.1.length), (6, .bool a.2.2.1), (7, .bool a.2.2.2), (18, inlL fcells 3 l), (19, .int .i64 ((l.length : Nat) : Int)), (20, .int .i64 ((a.1 : Nat) : Int))]) (0, ([] : List Foot), false, false)) (by kernel_rfl) ⟨by kernel_rfl, by kernel_rfl, by kernel_rfl, by kernel_rfl, by kernel_rfl, by kernel_rfl, by kernel_rfl, by kernel_rfl, trivial⟩ fun m3 => ?_
    refine sk_st ((fun a : Nat × (List Foot) × Bool × Bool => (((St.empty 0).new (.cells [.int .i64 kt, .int .i64 kk])).new (rowL fcells a.2.1))) (0, ([] : List Foot), false, false)) (by kernel_rfl) ?_
    refine (sk_while (k := 2) (N := 400) (live := (fun a : Nat × (List Foot) × Bool × Bool => [(0, inlL fcells 3 l), (3, .pointer (some ⟨0, 0, none⟩)), (5, slL 1 3 a.2.1.length), (6, .bool a.2.2.1), (7, .bool a.2.2.2), (18, inlL fcells 3 l), (19, .int .i64 ((l.length : Nat) : Int)), (20, .int .i64 ((a.1 : Nat) : Int))])) (M := (fun a : Nat × (List Foot) × Bool × Bool => (((St.empty 0).new (.cells [.int .i64 kt, .int .i64 kk])).new (rowL fcells a.2.1)))) (fun a : Nat × (List Foot) × Bool × Bool => (a.1 ≤ l.length) ∧ (a.2.1 = l.take a.1) ∧ (a.2.2.1 = tf (∃ x, x ∈ l.take a.1 ∧ readsR x.1 x.2.1 kt kk)) ∧ (a.2.2.2 = tf (∃ x, x ∈ l.take a.1 ∧ hasK x.2.2 kt kk)) ∧ (a.2.1.length ≤ 11)) (fun a : Nat × (List Foot) × Bool × Bool => l.length - a.1) (fun (a : Nat × (List Foot) × Bool × Bool) (o : Out) (lv : List (Nat × Value)) (M : St) => (o = .exit 0 ∧ (a.2.1 = l ∧ a.2.2.1 = tf (∃ x, x ∈ l ∧ readsR x.1 x.2.1 kt kk) ∧ a.2.2.2 = tf (∃ x, x ∈ l ∧ hasK x.2.2 kt kk)) ∧ lv = [(0, inlL fcells 3 l), (3, .pointer (some ⟨0, 0, none⟩)), (5, slL 1 3 a.2.1.length), (6, .bool a.2.2.1), (7, .bool a.2.2.2), (18, inlL fcells 3 l), (19, .int .i64 ((l.length : Nat) : Int)), (20, .int .i64 ((a.1 : Nat) : Int))] ∧ M = (((St.empty 0).new (.cells [.int .i64 kt, .int .i64 kk])).new (rowL fcells a.2.1)))) (Nat.zero_le _) (fun a ha => ?_) (fun a ha => ?_) (fun a m ha => ?_) (fun a m ha => ?_) (0, ([] : List Foot), false, false) m3 ?_).up ?_
    · exact ⟨by kernel_rfl, (((wf_empty 0).new _).new _), (selfs (all_cons (o := .cells [.int .i64 kt, .int .i64 kk]) (by kernel_rfl) (OSub.cells (.cons (sub_clo rfl) (.cons (sub_clo rfl) .nil))) (all_cons (o := rowL fcells a.2.1) (by kernel_rfl) (OSub.arr (subs_clo (flatL_clo fcells_clo))) (all_none))))⟩
    · exact ⟨sub_clo rfl, .ptr ⟨by decide, rfl⟩, .slice ⟨by decide, rfl⟩, sub_clo rfl, sub_clo rfl, sub_clo rfl, sub_clo rfl, sub_clo rfl, trivial⟩
    · exact ⟨by kernel_rfl, by kernel_rfl, by kernel_rfl, by kernel_rfl, by kernel_rfl, by kernel_rfl, by kernel_rfl, by kernel_rfl, trivial⟩
    · obtain ⟨i, fm, rd, wd⟩ := a
      obtain ⟨i0, i1, i2, i3, i4⟩ := ha
      dsimp only at i0 i1 i2 i3 i4
      rcases rd with _ | _
      ·
        rcases wd with _ | _
        ·
          refine sk_seq ?_
          refine sk_regionL Try.cfgOk hS ?_
          refine aT (fun h4 => ?_) (fun h4 => ?_)
          · have c5e : (decide ((((i : Nat) : Int) : Int) < ((l.length : Nat) : Int))) = true := Eq.trans (by kernel_rfl) h4
            clear h4
            have c5 : (((i : Nat) : Int) : Int) < ((l.length : Nat) : Int) := of_decide_eq_true c5e
            clear c5e
            refine al_nil ?_
            refine sk_seq ?_
            refine kT ?_
            refine sk_skip (sk_seq (sk_block (sk_seq ?_)))
            refine sk_regionL Try.cfgOk hS ?_
            refine aM (indexAddrV Try.cfg 35 (inlL fcells 3 l) (.int .i64 ((i : Nat) : Int))) (elt (flatL fcells l) (i * 3)) (idx_inlL tokC (by kernel_rfl) (by first | omega | simp)) ?_
            have hx6l : i < l.length := by omega
            refine Exists.elim (get_ex hx6l) fun x6 hx6 => ?_
            clear hx6l
            refine aM (loadV Try.cfg (St.empty 0) 25 (elt (flatL fcells l) (i * 3))) (.agg #[inlL kcells 2 x6.1, inlL scells 3 x6.2.1, inlL kcells 2 x6.2.2]) (load_el tokC (by kernel_rfl) fcells_len hx6) ?_
            refine aN ?_
            refine sk_seq ?_
            refine sk_regionL Try.cfgOk hS ?_
            refine aK 2 ?_
            refine aC 13 [.agg #[inlL kcells 2 x6.1, inlL scells 3 x6.2.1, inlL kcells 2 x6.2.2]] (.agg #[inlL kcells 2 x6.1, inlL scells 3 x6.2.1, inlL kcells 2 x6.2.2]) _ rfl (hC13 _ _ _ _ (con_copies_at x6.1 x6.2.1 x6.2.2 (by first | omega | (have q := g5 _ (List.mem_of_getElem? (by assumption)); omega) | (have q := s5 _ (List.mem_of_getElem? (by assumption)); omega) | (rw [g1]; omega) | (rw [hx.1]; omega) | exact ok_flat h0 | exact fun x hx => ⟨by have := s5 x hx; omega, by have := s5 x hx; omega, by have := s5 x hx; omega⟩ | (refine Nat.le_trans (kj_len _) ?_; rw [g1]; omega) | (refine Nat.le_trans (sj_len _) ?_; rw [g1]; omega) | exact Nat.le_trans (insAll_le _) (by omega) | exact Nat.le_trans (addAll_le (ok_flat h0)) (by omega) | (simp; done)) (by first | omega | (have q := g5 _ (List.mem_of_getElem? (by assumption)); omega) | (have q := s5 _ (List.mem_of_getElem? (by assumption)); omega) | (rw [g1]; omega) | (rw [hx.1]; omega) | exact ok_flat h0 | exact fun x hx => ⟨by have := s5 x hx; omega, by have := s5 x hx; omega, by have := s5 x hx; omega⟩ | (refine Nat.le_trans (kj_len _) ?_; rw [g1]; omega) | (refine Nat.le_trans (sj_len _) ?_; rw [g1]; omega) | exact Nat.le_trans (insAll_le _) (by omega) | exact Nat.le_trans (addAll_le (ok_flat h0)) (by omega) | (simp; done)) (by first | omega | (have q := g5 _ (List.mem_of_getElem? (by assumption)); omega) | (have q := s5 _ (List.mem_of_getElem? (by assumption)); omega) | (rw [g1]; omega) | (rw [hx.1]; omega) | exact ok_flat h0 | exact fun x hx => ⟨by have := s5 x hx; omega, by have := s5 x hx; omega, by have := s5 x hx; omega⟩ | (refine Nat.le_trans (kj_len _) ?_; rw [g1]; omega) | (refine Nat.le_trans (sj_len _) ?_; rw [g1]; omega) | exact Nat.le_trans (insAll_le _) (by omega) | exact Nat.le_trans (addAll_le (ok_flat h0)) (by omega) | (simp; done)) _)) ?_
            refine aK 1 ?_
            refine al_opF (v := slL 1 3 (fm ++ [(x6.1, x6.2.1, x6.2.2)]).length) (s1 := (((((St.empty 0).new (.cells [.int .i64 kt, .int .i64 kk])).new (rowL fcells fm)).new (.cells [inlL kcells 2 x6.1, inlL scells 3 x6.2.1, inlL kcells 2 x6.2.2])).new (.arr [inlL kcells 2 x6.1, inlL scells 3 x6.2.1, inlL kcells 2 x6.2.2] 0 false)).set 1 (rowL fcells (fm ++ [(x6.1, x6.2.1, x6.2.2)]))) (by kernel_rfl) (by kernel_rfl) (Eq.trans (b := appendV Try.cfg (((((St.empty 0).new (.cells [.int .i64 kt, .int .i64 kk])).new (rowL fcells fm)).new (.cells [inlL kcells 2 x6.1, inlL scells 3 x6.2.1, inlL kcells 2 x6.2.2])).new (.arr [inlL kcells 2 x6.1, inlL scells 3 x6.2.1, inlL kcells 2 x6.2.2] 0 false)) 35 (slL 1 3 fm.length) (.slice (some ⟨3, 0, some 3⟩) 1 3)) (by kernel_rfl) (app_rowL (l := fm) (l2 := [(x6.1, x6.2.1, x6.2.2)]) (bytes := 72) tokC (by kernel_rfl) fcells_len fcells_one (by kernel_rfl) (by kernel_rfl) (by kernel_rfl) (by (try simp only [List.length_cons, List.length_nil, List.length_append]); omega))) ?_
            refine aN ?_
            refine sk_seq ?_
            refine sk_regionL Try.cfgOk hS ?_
            refine aK 4 ?_
            refine aB 14 [.agg #[inlL kcells 2 x6.1, inlL scells 3 x6.2.1, inlL kcells 2 x6.2.2], .agg #[.int .i64 kt, .int .i64 kk]] (decide (readsR x6.1 x6.2.1 kt kk)) _ rfl (hC14 _ _ _ _ (con_readsR__at x6.1 x6.2.1 x6.2.2 kt kk (by first | omega | (have q := g5 _ (List.mem_of_getElem? (by assumption)); omega) | (have q := s5 _ (List.mem_of_getElem? (by assumption)); omega) | (rw [g1]; omega) | (rw [hx.1]; omega) | exact ok_flat h0 | exact fun x hx => ⟨by have := s5 x hx; omega, by have := s5 x hx; omega, by have := s5 x hx; omega⟩ | (refine Nat.le_trans (kj_len _) ?_; rw [g1]; omega) | (refine Nat.le_trans (sj_len _) ?_; rw [g1]; omega) | exact Nat.le_trans (insAll_le _) (by omega) | exact Nat.le_trans (addAll_le (ok_flat h0)) (by omega) | (simp; done)) (by first | omega | (have q := g5 _ (List.mem_of_getElem? (by assumption)); omega) | (have q := s5 _ (List.mem_of_getElem? (by assumption)); omega) | (rw [g1]; omega) | (rw [hx.1]; omega) | exact ok_flat h0 | exact fun x hx => ⟨by have := s5 x hx; omega, by have := s5 x hx; omega, by have := s5 x hx; omega⟩ | (refine Nat.le_trans (kj_len _) ?_; rw [g1]; omega) | (refine Nat.le_trans (sj_len _) ?_; rw [g1]; omega) | exact Nat.le_trans (insAll_le _) (by omega) | exact Nat.le_trans (addAll_le (ok_flat h0)) (by omega) | (simp; done)) (by first | omega | (have q := g5 _ (List.mem_of_getElem? (by assumption)); omega) | (have q := s5 _ (List.mem_of_getElem? (by assumption)); omega) | (rw [g1]; omega) | (rw [hx.1]; omega) | exact ok_flat h0 | exact fun x hx => ⟨by have := s5 x hx; omega, by have := s5 x hx; omega, by have := s5 x hx; omega⟩ | (refine Nat.le_trans (kj_len _) ?_; rw [g1]; omega) | (refine Nat.le_trans (sj_len _) ?_; rw [g1]; omega) | exact Nat.le_trans (insAll_le _) (by omega) | exact Nat.le_trans (addAll_le (ok_flat h0)) (by omega) | (simp; done)) _)) (fun h7 => ?_) (fun h7 => ?_)
            · have c8 : readsR x6.1 x6.2.1 kt kk := of_decide_eq_true h7
              clear h7
              refine aN ?_
              refine sk_regionL Try.cfgOk hS ?_
              refine aK 4 ?_
              refine aB 15 [.agg #[inlL kcells 2 x6.1, inlL scells 3 x6.2.1, inlL kcells 2 x6.2.2], .agg #[.int .i64 kt, .int .i64 kk]] (decide (hasK x6.2.2 kt kk)) _ rfl (hC15 _ _ _ _ (con_writesR_at x6.1 x6.2.1 x6.2.2 kt kk (by first | omega | (have q := g5 _ (List.mem_of_getElem? (by assumption)); omega) | (have q := s5 _ (List.mem_of_getElem? (by assumption)); omega) | (rw [g1]; omega) | (rw [hx.1]; omega) | exact ok_flat h0 | exact fun x hx => ⟨by have := s5 x hx; omega, by have := s5 x hx; omega, by have := s5 x hx; omega⟩ | (refine Nat.le_trans (kj_len _) ?_; rw [g1]; omega) | (refine Nat.le_trans (sj_len _) ?_; rw [g1]; omega) | exact Nat.le_trans (insAll_le _) (by omega) | exact Nat.le_trans (addAll_le (ok_flat h0)) (by omega) | (simp; done)) _)) (fun h9 => ?_) (fun h9 => ?_)
              · have c10 : hasK x6.2.2 kt kk := of_decide_eq_true h9
                clear h9
                refine aN ?_
                refine sk_regionL Try.cfgOk hS ?_
                refine aE (v := .int .i64 (IntKind.wrap .i64 (((i : Nat) : Int) + 1))) (.int .i64 ((i + 1 : Nat) : Int)) (congrArg (Value.int .i64) (wrap_to (by omega) (by omega))) ?_
                refine aN ?_
                refine .inl ⟨(i + 1, (fm ++ [(x6.1, x6.2.1, x6.2.2)]), true, true), rfl, ⟨?_, ?_, ?_, ?_, ?_⟩, ?_, ⟨by kernel_rfl, ⟨by kernel_rfl, by kernel_rfl, by kernel_rfl, by kernel_rfl, by kernel_rfl, by kernel_rfl, by kernel_rfl, by kernel_rfl, trivial⟩, ⟨sub_clo rfl, .ptr ⟨by decide, rfl⟩, .slice ⟨by decide, rfl⟩, sub_clo rfl, sub_clo rfl, sub_clo rfl, sub_clo rfl, sub_clo rfl, trivial⟩, Nat.le_of_ble_eq_true (by kernel_rfl), ⟨by kernel_rfl, (((wf_empty 0).new _).new _), (selfs (all_cons (o := .cells [.int .i64 kt, .int .i64 kk]) (by kernel_rfl) (OSub.cells (.cons (sub_clo rfl) (.cons (sub_clo rfl) .nil))) (all_cons (o := rowL fcells (fm ++ [(x6.1, x6.2.1, x6.2.2)])) (by kernel_rfl) (OSub.arr (subs_clo (flatL_clo fcells_clo))) (all_none))))⟩, mem_all (by kernel_rfl)⟩⟩
                · (try dsimp only); omega
                · (try dsimp only); rw [take_snoc (by assumption), i1]
                · (try dsimp only); first | exact any_t (by assumption) | exact any_y (by assumption) (by assumption) | exact any_n (by assumption) (by assumption) (by assumption)
                · (try dsimp only); first | exact any_t (by assumption) | exact any_y (by assumption) (by assumption) | exact any_n (by assumption) (by assumption) (by assumption)
                · (try dsimp only); rw [List.length_append, i1, List.length_take]; simp only [List.length_cons, List.length_nil]; omega
                · dsimp only; omega
              · have c10 : ¬ (hasK x6.2.2 kt kk) := of_decide_eq_false h9
                clear h9
                refine aN ?_
                refine sk_regionL Try.cfgOk hS ?_
                refine aE (v := .int .i64 (IntKind.wrap .i64 (((i : Nat) : Int) + 1))) (.int .i64 ((i + 1 : Nat) : Int)) (congrArg (Value.int .i64) (wrap_to (by omega) (by omega))) ?_
                refine aN ?_
                refine .inl ⟨(i + 1, (fm ++ [(x6.1, x6.2.1, x6.2.2)]), true, false), rfl, ⟨?_, ?_, ?_, ?_, ?_⟩, ?_, ⟨by kernel_rfl, ⟨by kernel_rfl, by kernel_rfl, by kernel_rfl, by kernel_rfl, by kernel_rfl, by kernel_rfl, by kernel_rfl, by kernel_rfl, trivial⟩, ⟨sub_clo rfl, .ptr ⟨by decide, rfl⟩, .slice ⟨by decide, rfl⟩, sub_clo rfl, sub_clo rfl, sub_clo rfl, sub_clo rfl, sub_clo rfl, trivial⟩, Nat.le_of_ble_eq_true (by kernel_rfl), ⟨by kernel_rfl, (((wf_empty 0).new _).new _), (selfs (all_cons (o := .cells [.int .i64 kt, .int .i64 kk]) (by kernel_rfl) (OSub.cells (.cons (sub_clo rfl) (.cons (sub_clo rfl) .nil))) (all_cons (o := rowL fcells (fm ++ [(x6.1, x6.2.1, x6.2.2)])) (by kernel_rfl) (OSub.arr (subs_clo (flatL_clo fcells_clo))) (all_none))))⟩, mem_all (by kernel_rfl)⟩⟩
                · (try dsimp only); omega
                · (try dsimp only); rw [take_snoc (by assumption), i1]
                · (try dsimp only); first | exact any_t (by assumption) | exact any_y (by assumption) (by assumption) | exact any_n (by assumption) (by assumption) (by assumption)
                · (try dsimp only); first | exact any_t (by assumption) | exact any_y (by assumption) (by assumption) | exact any_n (by assumption) (by assumption) (by assumption)
                · (try dsimp only); rw [List.length_append, i1, List.length_take]; simp only [List.length_cons, List.length_nil]; omega
                · dsimp only; omega
            · have c8 : ¬ (readsR x6.1 x6.2.1 kt kk) := of_decide_eq_false h7
              clear h7
              refine aN ?_
              refine sk_regionL Try.cfgOk hS ?_
              refine aK 4 ?_
              refine aB 15 [.agg #[inlL kcells 2 x6.1, inlL scells 3 x6.2.1, inlL kcells 2 x6.2.2], .agg #[.int .i64 kt, .int .i64 kk]] (decide (hasK x6.2.2 kt kk)) _ rfl (hC15 _ _ _ _ (con_writesR_at x6.1 x6.2.1 x6.2.2 kt kk (by first | omega | (have q := g5 _ (List.mem_of_getElem? (by assumption)); omega) | (have q := s5 _ (List.mem_of_getElem? (by assumption)); omega) | (rw [g1]; omega) | (rw [hx.1]; omega) | exact ok_flat h0 | exact fun x hx => ⟨by have := s5 x hx; omega, by have := s5 x hx; omega, by have := s5 x hx; omega⟩ | (refine Nat.le_trans (kj_len _) ?_; rw [g1]; omega) | (refine Nat.le_trans (sj_len _) ?_; rw [g1]; omega) | exact Nat.le_trans (insAll_le _) (by omega) | exact Nat.le_trans (addAll_le (ok_flat h0)) (by omega) | (simp; done)) _)) (fun h11 => ?_) (fun h11 => ?_)
              · have c12 : hasK x6.2.2 kt kk := of_decide_eq_true h11
                clear h11
                refine aN ?_
                refine sk_regionL Try.cfgOk hS ?_
                refine aE (v := .int .i64 (IntKind.wrap .i64 (((i : Nat) : Int) + 1))) (.int .i64 ((i + 1 : Nat) : Int)) (congrArg (Value.int .i64) (wrap_to (by omega) (by omega))) ?_
                refine aN ?_
                refine .inl ⟨(i + 1, (fm ++ [(x6.1, x6.2.1, x6.2.2)]), false, true), rfl, ⟨?_, ?_, ?_, ?_, ?_⟩, ?_, ⟨by kernel_rfl, ⟨by kernel_rfl, by kernel_rfl, by kernel_rfl, by kernel_rfl, by kernel_rfl, by kernel_rfl, by kernel_rfl, by kernel_rfl, trivial⟩, ⟨sub_clo rfl, .ptr ⟨by decide, rfl⟩, .slice ⟨by decide, rfl⟩, sub_clo rfl, sub_clo rfl, sub_clo rfl, sub_clo rfl, sub_clo rfl, trivial⟩, Nat.le_of_ble_eq_true (by kernel_rfl), ⟨by kernel_rfl, (((wf_empty 0).new _).new _), (selfs (all_cons (o := .cells [.int .i64 kt, .int .i64 kk]) (by kernel_rfl) (OSub.cells (.cons (sub_clo rfl) (.cons (sub_clo rfl) .nil))) (all_cons (o := rowL fcells (fm ++ [(x6.1, x6.2.1, x6.2.2)])) (by kernel_rfl) (OSub.arr (subs_clo (flatL_clo fcells_clo))) (all_none))))⟩, mem_all (by kernel_rfl)⟩⟩
                · (try dsimp only); omega
                · (try dsimp only); rw [take_snoc (by assumption), i1]
                · (try dsimp only); first | exact any_t (by assumption) | exact any_y (by assumption) (by assumption) | exact any_n (by assumption) (by assumption) (by assumption)
                · (try dsimp only); first | exact any_t (by assumption) | exact any_y (by assumption) (by assumption) | exact any_n (by assumption) (by assumption) (by assumption)
                · (try dsimp only); rw [List.length_append, i1, List.length_take]; simp only [List.length_cons, List.length_nil]; omega
                · dsimp only; omega
              · have c12 : ¬ (hasK x6.2.2 kt kk) := of_decide_eq_false h11
                clear h11
                refine aN ?_
                refine sk_regionL Try.cfgOk hS ?_
                refine aE (v := .int .i64 (IntKind.wrap .i64 (((i : Nat) : Int) + 1))) (.int .i64 ((i + 1 : Nat) : Int)) (congrArg (Value.int .i64) (wrap_to (by omega) (by omega))) ?_
                refine aN ?_
                refine .inl ⟨(i + 1, (fm ++ [(x6.1, x6.2.1, x6.2.2)]), false, false), rfl, ⟨?_, ?_, ?_, ?_, ?_⟩, ?_, ⟨by kernel_rfl, ⟨by kernel_rfl, by kernel_rfl, by kernel_rfl, by kernel_rfl, by kernel_rfl, by kernel_rfl, by kernel_rfl, by kernel_rfl, trivial⟩, ⟨sub_clo rfl, .ptr ⟨by decide, rfl⟩, .slice ⟨by decide, rfl⟩, sub_clo rfl, sub_clo rfl, sub_clo rfl, sub_clo rfl, sub_clo rfl, trivial⟩, Nat.le_of_ble_eq_true (by kernel_rfl), ⟨by kernel_rfl, (((wf_empty 0).new _).new _), (selfs (all_cons (o := .cells [.int .i64 kt, .int .i64 kk]) (by kernel_rfl) (OSub.cells (.cons (sub_clo rfl) (.cons (sub_clo rfl) .nil))) (all_cons (o := rowL fcells (fm ++ [(x6.1, x6.2.1, x6.2.2)])) (by kernel_rfl) (OSub.arr (subs_clo (flatL_clo fcells_clo))) (all_none))))⟩, mem_all (by kernel_rfl)⟩⟩
                · (try dsimp only); omega
                · (try dsimp only); rw [take_snoc (by assumption), i1]
                · (try dsimp only); first | exact any_t (by assumption) | exact any_y (by assumption) (by assumption) | exact any_n (by assumption) (by assumption) (by assumption)
                · (try dsimp only); first | exact any_t (by assumption) | exact any_y (by assumption) (by assumption) | exact any_n (by assumption) (by assumption) (by assumption)
                · (try dsimp only); rw [List.length_append, i1, List.length_take]; simp only [List.length_cons, List.length_nil]; omega
                · dsimp only; omega
          · have c5e : (decide ((((i : Nat) : Int) : Int) < ((l.length : Nat) : Int))) = false := Eq.trans (by kernel_rfl) h4
            clear h4
            have c5 : ¬ (((i : Nat) : Int) : Int) < ((l.length : Nat) : Int) := of_decide_eq_false c5e
            clear c5e
            refine al_nil ?_
            refine sk_seq ?_
            refine kF ?_
            refine sk_exit ?_
            dsimp only
            refine .inr ⟨_, _, (fun h => by cases h), ⟨rfl, ?_, rfl, rfl⟩, ⟨by kernel_rfl, ⟨by kernel_rfl, by kernel_rfl, by kernel_rfl, by kernel_rfl, by kernel_rfl, by kernel_rfl, by kernel_rfl, by kernel_rfl, trivial⟩, ⟨sub_clo rfl, .ptr ⟨by decide, rfl⟩, .slice ⟨by decide, rfl⟩, sub_clo rfl, sub_clo rfl, sub_clo rfl, sub_clo rfl, sub_clo rfl, trivial⟩, Nat.le_of_ble_eq_true (by kernel_rfl), ⟨by kernel_rfl, (((wf_empty 0).new _).new _), (selfs (all_cons (o := .cells [.int .i64 kt, .int .i64 kk]) (by kernel_rfl) (OSub.cells (.cons (sub_clo rfl) (.cons (sub_clo rfl) .nil))) (all_cons (o := rowL fcells fm) (by kernel_rfl) (OSub.arr (subs_clo (flatL_clo fcells_clo))) (all_none))))⟩, mem_all (by kernel_rfl)⟩⟩
            · exact ⟨by rw [i1, List.take_of_length_le (by omega)], any_end i2 (by omega), any_end i3 (by omega)⟩
        ·
          refine sk_seq ?_
          refine sk_regionL Try.cfgOk hS ?_
          refine aT (fun h13 => ?_) (fun h13 => ?_)
          · have c14e : (decide ((((i : Nat) : Int) : Int) < ((l.length : Nat) : Int))) = true := Eq.trans (by kernel_rfl) h13
            clear h13
            have c14 : (((i : Nat) : Int) : Int) < ((l.length : Nat) : Int) := of_decide_eq_true c14e
            clear c14e
            refine al_nil ?_
            refine sk_seq ?_
            refine kT ?_
            refine sk_skip (sk_seq (sk_block (sk_seq ?_)))
            refine sk_regionL Try.cfgOk hS ?_
            refine aM (indexAddrV Try.cfg 35 (inlL fcells 3 l) (.int .i64 ((i : Nat) : Int))) (elt (flatL fcells l) (i * 3)) (idx_inlL tokC (by kernel_rfl) (by first | omega | simp)) ?_
            have hx15l : i < l.length := by omega
            refine Exists.elim (get_ex hx15l) fun x15 hx15 => ?_
            clear hx15l
            refine aM (loadV Try.cfg (St.empty 0) 25 (elt (flatL fcells l) (i * 3))) (.agg #[inlL kcells 2 x15.1, inlL scells 3 x15.2.1, inlL kcells 2 x15.2.2]) (load_el tokC (by kernel_rfl) fcells_len hx15) ?_
            refine aN ?_
            refine sk_seq ?_
            refine sk_regionL Try.cfgOk hS ?_
            refine aK 2 ?_
            refine aC 13 [.agg #[inlL kcells 2 x15.1, inlL scells 3 x15.2.1, inlL kcells 2 x15.2.2]] (.agg #[inlL kcells 2 x15.1, inlL scells 3 x15.2.1, inlL kcells 2 x15.2.2]) _ rfl (hC13 _ _ _ _ (con_copies_at x15.1 x15.2.1 x15.2.2 (by first | omega | (have q := g5 _ (List.mem_of_getElem? (by assumption)); omega) | (have q := s5 _ (List.mem_of_getElem? (by assumption)); omega) | (rw [g1]; omega) | (rw [hx.1]; omega) | exact ok_flat h0 | exact fun x hx => ⟨by have := s5 x hx; omega, by have := s5 x hx; omega, by have := s5 x hx; omega⟩ | (refine Nat.le_trans (kj_len _) ?_; rw [g1]; omega) | (refine Nat.le_trans (sj_len _) ?_; rw [g1]; omega) | exact Nat.le_trans (insAll_le _) (by omega) | exact Nat.le_trans (addAll_le (ok_flat h0)) (by omega) | (simp; done)) (by first | omega | (have q := g5 _ (List.mem_of_getElem? (by assumption)); omega) | (have q := s5 _ (List.mem_of_getElem? (by assumption)); omega) | (rw [g1]; omega) | (rw [hx.1]; omega) | exact ok_flat h0 | exact fun x hx => ⟨by have := s5 x hx; omega, by have := s5 x hx; omega, by have := s5 x hx; omega⟩ | (refine Nat.le_trans (kj_len _) ?_; rw [g1]; omega) | (refine Nat.le_trans (sj_len _) ?_; rw [g1]; omega) | exact Nat.le_trans (insAll_le _) (by omega) | exact Nat.le_trans (addAll_le (ok_flat h0)) (by omega) | (simp; done)) (by first | omega | (have q := g5 _ (List.mem_of_getElem? (by assumption)); omega) | (have q := s5 _ (List.mem_of_getElem? (by assumption)); omega) | (rw [g1]; omega) | (rw [hx.1]; omega) | exact ok_flat h0 | exact fun x hx => ⟨by have := s5 x hx; omega, by have := s5 x hx; omega, by have := s5 x hx; omega⟩ | (refine Nat.le_trans (kj_len _) ?_; rw [g1]; omega) | (refine Nat.le_trans (sj_len _) ?_; rw [g1]; omega) | exact Nat.le_trans (insAll_le _) (by omega) | exact Nat.le_trans (addAll_le (ok_flat h0)) (by omega) | (simp; done)) _)) ?_
            refine aK 1 ?_
            refine al_opF (v := slL 1 3 (fm ++ [(x15.1, x15.2.1, x15.2.2)]).length) (s1 := (((((St.empty 0).new (.cells [.int .i64 kt, .int .i64 kk])).new (rowL fcells fm)).new (.cells [inlL kcells 2 x15.1, inlL scells 3 x15.2.1, inlL kcells 2 x15.2.2])).new (.arr [inlL kcells 2 x15.1, inlL scells 3 x15.2.1, inlL kcells 2 x15.2.2] 0 false)).set 1 (rowL fcells (fm ++ [(x15.1, x15.2.1, x15.2.2)]))) (by kernel_rfl) (by kernel_rfl) (Eq.trans (b := appendV Try.cfg (((((St.empty 0).new (.cells [.int .i64 kt, .int .i64 kk])).new (rowL fcells fm)).new (.cells [inlL kcells 2 x15.1, inlL scells 3 x15.2.1, inlL kcells 2 x15.2.2])).new (.arr [inlL kcells 2 x15.1, inlL scells 3 x15.2.1, inlL kcells 2 x15.2.2] 0 false)) 35 (slL 1 3 fm.length) (.slice (some ⟨3, 0, some 3⟩) 1 3)) (by kernel_rfl) (app_rowL (l := fm) (l2 := [(x15.1, x15.2.1, x15.2.2)]) (bytes := 72) tokC (by kernel_rfl) fcells_len fcells_one (by kernel_rfl) (by kernel_rfl) (by kernel_rfl) (by (try simp only [List.length_cons, List.length_nil, List.length_append]); omega))) ?_
            refine aN ?_
            refine sk_seq ?_
            refine sk_regionL Try.cfgOk hS ?_
            refine aK 4 ?_
            refine aB 14 [.agg #[inlL kcells 2 x15.1, inlL scells 3 x15.2.1, inlL kcells 2 x15.2.2], .agg #[.int .i64 kt, .int .i64 kk]] (decide (readsR x15.1 x15.2.1 kt kk)) _ rfl (hC14 _ _ _ _ (con_readsR__at x15.1 x15.2.1 x15.2.2 kt kk (by first | omega | (have q := g5 _ (List.mem_of_getElem? (by assumption)); omega) | (have q := s5 _ (List.mem_of_getElem? (by assumption)); omega) | (rw [g1]; omega) | (rw [hx.1]; omega) | exact ok_flat h0 | exact fun x hx => ⟨by have := s5 x hx; omega, by have := s5 x hx; omega, by have := s5 x hx; omega⟩ | (refine Nat.le_trans (kj_len _) ?_; rw [g1]; omega) | (refine Nat.le_trans (sj_len _) ?_; rw [g1]; omega) | exact Nat.le_trans (insAll_le _) (by omega) | exact Nat.le_trans (addAll_le (ok_flat h0)) (by omega) | (simp; done)) (by first | omega | (have q := g5 _ (List.mem_of_getElem? (by assumption)); omega) | (have q := s5 _ (List.mem_of_getElem? (by assumption)); omega) | (rw [g1]; omega) | (rw [hx.1]; omega) | exact ok_flat h0 | exact fun x hx => ⟨by have := s5 x hx; omega, by have := s5 x hx; omega, by have := s5 x hx; omega⟩ | (refine Nat.le_trans (kj_len _) ?_; rw [g1]; omega) | (refine Nat.le_trans (sj_len _) ?_; rw [g1]; omega) | exact Nat.le_trans (insAll_le _) (by omega) | exact Nat.le_trans (addAll_le (ok_flat h0)) (by omega) | (simp; done)) (by first | omega | (have q := g5 _ (List.mem_of_getElem? (by assumption)); omega) | (have q := s5 _ (List.mem_of_getElem? (by assumption)); omega) | (rw [g1]; omega) | (rw [hx.1]; omega) | exact ok_flat h0 | exact fun x hx => ⟨by have := s5 x hx; omega, by have := s5 x hx; omega, by have := s5 x hx; omega⟩ | (refine Nat.le_trans (kj_len _) ?_; rw [g1]; omega) | (refine Nat.le_trans (sj_len _) ?_; rw [g1]; omega) | exact Nat.le_trans (insAll_le _) (by omega) | exact Nat.le_trans (addAll_le (ok_flat h0)) (by omega) | (simp; done)) _)) (fun h16 => ?_) (fun h16 => ?_)
            · have c17 : readsR x15.1 x15.2.1 kt kk := of_decide_eq_true h16
              clear h16
              refine aN ?_
              refine kK Try.cfgOk hS ?_
              refine sk_regionL Try.cfgOk hS ?_
              refine aE (v := .int .i64 (IntKind.wrap .i64 (((i : Nat) : Int) + 1))) (.int .i64 ((i + 1 : Nat) : Int)) (congrArg (Value.int .i64) (wrap_to (by omega) (by omega))) ?_
              refine aN ?_
              refine .inl ⟨(i + 1, (fm ++ [(x15.1, x15.2.1, x15.2.2)]), true, true), rfl, ⟨?_, ?_, ?_, ?_, ?_⟩, ?_, ⟨by kernel_rfl, ⟨by kernel_rfl, by kernel_rfl, by kernel_rfl, by kernel_rfl, by kernel_rfl, by kernel_rfl, by kernel_rfl, by kernel_rfl, trivial⟩, ⟨sub_clo rfl, .ptr ⟨by decide, rfl⟩, .slice ⟨by decide, rfl⟩, sub_clo rfl, sub_clo rfl, sub_clo rfl, sub_clo rfl, sub_clo rfl, trivial⟩, Nat.le_of_ble_eq_true (by kernel_rfl), ⟨by kernel_rfl, (((wf_empty 0).new _).new _), (selfs (all_cons (o := .cells [.int .i64 kt, .int .i64 kk]) (by kernel_rfl) (OSub.cells (.cons (sub_clo rfl) (.cons (sub_clo rfl) .nil))) (all_cons (o := rowL fcells (fm ++ [(x15.1, x15.2.1, x15.2.2)])) (by kernel_rfl) (OSub.arr (subs_clo (flatL_clo fcells_clo))) (all_none))))⟩, mem_all (by kernel_rfl)⟩⟩
              · (try dsimp only); omega
              · (try dsimp only); rw [take_snoc (by assumption), i1]
              · (try dsimp only); first | exact any_t (by assumption) | exact any_y (by assumption) (by assumption) | exact any_n (by assumption) (by assumption) (by assumption)
              · (try dsimp only); first | exact any_t (by assumption) | exact any_y (by assumption) (by assumption) | exact any_n (by assumption) (by assumption) (by assumption)
              · (try dsimp only); rw [List.length_append, i1, List.length_take]; simp only [List.length_cons, List.length_nil]; omega
              · dsimp only; omega
            · have c17 : ¬ (readsR x15.1 x15.2.1 kt kk) := of_decide_eq_false h16
              clear h16
              refine aN ?_
              refine kK Try.cfgOk hS ?_
              refine sk_regionL Try.cfgOk hS ?_
              refine aE (v := .int .i64 (IntKind.wrap .i64 (((i : Nat) : Int) + 1))) (.int .i64 ((i + 1 : Nat) : Int)) (congrArg (Value.int .i64) (wrap_to (by omega) (by omega))) ?_
              refine aN ?_
              refine .inl ⟨(i + 1, (fm ++ [(x15.1, x15.2.1, x15.2.2)]), false, true), rfl, ⟨?_, ?_, ?_, ?_, ?_⟩, ?_, ⟨by kernel_rfl, ⟨by kernel_rfl, by kernel_rfl, by kernel_rfl, by kernel_rfl, by kernel_rfl, by kernel_rfl, by kernel_rfl, by kernel_rfl, trivial⟩, ⟨sub_clo rfl, .ptr ⟨by decide, rfl⟩, .slice ⟨by decide, rfl⟩, sub_clo rfl, sub_clo rfl, sub_clo rfl, sub_clo rfl, sub_clo rfl, trivial⟩, Nat.le_of_ble_eq_true (by kernel_rfl), ⟨by kernel_rfl, (((wf_empty 0).new _).new _), (selfs (all_cons (o := .cells [.int .i64 kt, .int .i64 kk]) (by kernel_rfl) (OSub.cells (.cons (sub_clo rfl) (.cons (sub_clo rfl) .nil))) (all_cons (o := rowL fcells (fm ++ [(x15.1, x15.2.1, x15.2.2)])) (by kernel_rfl) (OSub.arr (subs_clo (flatL_clo fcells_clo))) (all_none))))⟩, mem_all (by kernel_rfl)⟩⟩
              · (try dsimp only); omega
              · (try dsimp only); rw [take_snoc (by assumption), i1]
              · (try dsimp only); first | exact any_t (by assumption) | exact any_y (by assumption) (by assumption) | exact any_n (by assumption) (by assumption) (by assumption)
              · (try dsimp only); first | exact any_t (by assumption) | exact any_y (by assumption) (by assumption) | exact any_n (by assumption) (by assumption) (by assumption)
              · (try dsimp only); rw [List.length_append, i1, List.length_take]; simp only [List.length_cons, List.length_nil]; omega
              · dsimp only; omega
          · have c14e : (decide ((((i : Nat) : Int) : Int) < ((l.length : Nat) : Int))) = false := Eq.trans (by kernel_rfl) h13
            clear h13
            have c14 : ¬ (((i : Nat) : Int) : Int) < ((l.length : Nat) : Int) := of_decide_eq_false c14e
            clear c14e
            refine al_nil ?_
            refine sk_seq ?_
            refine kF ?_
            refine sk_exit ?_
            dsimp only
            refine .inr ⟨_, _, (fun h => by cases h), ⟨rfl, ?_, rfl, rfl⟩, ⟨by kernel_rfl, ⟨by kernel_rfl, by kernel_rfl, by kernel_rfl, by kernel_rfl, by kernel_rfl, by kernel_rfl, by kernel_rfl, by kernel_rfl, trivial⟩, ⟨sub_clo rfl, .ptr ⟨by decide, rfl⟩, .slice ⟨by decide, rfl⟩, sub_clo rfl, sub_clo rfl, sub_clo rfl, sub_clo rfl, sub_clo rfl, trivial⟩, Nat.le_of_ble_eq_true (by kernel_rfl), ⟨by kernel_rfl, (((wf_empty 0).new _).new _), (selfs (all_cons (o := .cells [.int .i64 kt, .int .i64 kk]) (by kernel_rfl) (OSub.cells (.cons (sub_clo rfl) (.cons (sub_clo rfl) .nil))) (all_cons (o := rowL fcells fm) (by kernel_rfl) (OSub.arr (subs_clo (flatL_clo fcells_clo))) (all_none))))⟩, mem_all (by kernel_rfl)⟩⟩
            · exact ⟨by rw [i1, List.take_of_length_le (by omega)], any_end i2 (by omega), any_end i3 (by omega)⟩
      ·
        rcases wd with _ | _
        ·
          refine sk_seq ?_
          refine sk_regionL Try.cfgOk hS ?_
          refine aT (fun h18 => ?_) (fun h18 => ?_)
          · have c19e : (decide ((((i : Nat) : Int) : Int) < ((l.length : Nat) : Int))) = true := Eq.trans (by kernel_rfl) h18
            clear h18
            have c19 : (((i : Nat) : Int) : Int) < ((l.length : Nat) : Int) := of_decide_eq_true c19e
            clear c19e
            refine al_nil ?_
            refine sk_seq ?_
            refine kT ?_
            refine sk_skip (sk_seq (sk_block (sk_seq ?_)))
            refine sk_regionL Try.cfgOk hS ?_
            refine aM (indexAddrV Try.cfg 35 (inlL fcells 3 l) (.int .i64 ((i : Nat) : Int))) (elt (flatL fcells l) (i * 3)) (idx_inlL tokC (by kernel_rfl) (by first | omega | simp)) ?_
            have hx20l : i < l.length := by omega
            refine Exists.elim (get_ex hx20l) fun x20 hx20 => ?_
            clear hx20l
            refine aM (loadV Try.cfg (St.empty 0) 25 (elt (flatL fcells l) (i * 3))) (.agg #[inlL kcells 2 x20.1, inlL scells 3 x20.2.1, inlL kcells 2 x20.2.2]) (load_el tokC (by kernel_rfl) fcells_len hx20) ?_
            refine aN ?_
            refine sk_seq ?_
            refine sk_regionL Try.cfgOk hS ?_
            refine aK 2 ?_
            refine aC 13 [.agg #[inlL kcells 2 x20.1, inlL scells 3 x20.2.1, inlL kcells 2 x20.2.2]] (.agg #[inlL kcells 2 x20.1, inlL scells 3 x20.2.1, inlL kcells 2 x20.2.2]) _ rfl (hC13 _ _ _ _ (con_copies_at x20.1 x20.2.1 x20.2.2 (by first | omega | (have q := g5 _ (List.mem_of_getElem? (by assumption)); omega) | (have q := s5 _ (List.mem_of_getElem? (by assumption)); omega) | (rw [g1]; omega) | (rw [hx.1]; omega) | exact ok_flat h0 | exact fun x hx => ⟨by have := s5 x hx; omega, by have := s5 x hx; omega, by have := s5 x hx; omega⟩ | (refine Nat.le_trans (kj_len _) ?_; rw [g1]; omega) | (refine Nat.le_trans (sj_len _) ?_; rw [g1]; omega) | exact Nat.le_trans (insAll_le _) (by omega) | exact Nat.le_trans (addAll_le (ok_flat h0)) (by omega) | (simp; done)) (by first | omega | (have q := g5 _ (List.mem_of_getElem? (by assumption)); omega) | (have q := s5 _ (List.mem_of_getElem? (by assumption)); omega) | (rw [g1]; omega) | (rw [hx.1]; omega) | exact ok_flat h0 | exact fun x hx => ⟨by have := s5 x hx; omega, by have := s5 x hx; omega, by have := s5 x hx; omega⟩ | (refine Nat.le_trans (kj_len _) ?_; rw [g1]; omega) | (refine Nat.le_trans (sj_len _) ?_; rw [g1]; omega) | exact Nat.le_trans (insAll_le _) (by omega) | exact Nat.le_trans (addAll_le (ok_flat h0)) (by omega) | (simp; done)) (by first | omega | (have q := g5 _ (List.mem_of_getElem? (by assumption)); omega) | (have q := s5 _ (List.mem_of_getElem? (by assumption)); omega) | (rw [g1]; omega) | (rw [hx.1]; omega) | exact ok_flat h0 | exact fun x hx => ⟨by have := s5 x hx; omega, by have := s5 x hx; omega, by have := s5 x hx; omega⟩ | (refine Nat.le_trans (kj_len _) ?_; rw [g1]; omega) | (refine Nat.le_trans (sj_len _) ?_; rw [g1]; omega) | exact Nat.le_trans (insAll_le _) (by omega) | exact Nat.le_trans (addAll_le (ok_flat h0)) (by omega) | (simp; done)) _)) ?_
            refine aK 1 ?_
            refine al_opF (v := slL 1 3 (fm ++ [(x20.1, x20.2.1, x20.2.2)]).length) (s1 := (((((St.empty 0).new (.cells [.int .i64 kt, .int .i64 kk])).new (rowL fcells fm)).new (.cells [inlL kcells 2 x20.1, inlL scells 3 x20.2.1, inlL kcells 2 x20.2.2])).new (.arr [inlL kcells 2 x20.1, inlL scells 3 x20.2.1, inlL kcells 2 x20.2.2] 0 false)).set 1 (rowL fcells (fm ++ [(x20.1, x20.2.1, x20.2.2)]))) (by kernel_rfl) (by kernel_rfl) (Eq.trans (b := appendV Try.cfg (((((St.empty 0).new (.cells [.int .i64 kt, .int .i64 kk])).new (rowL fcells fm)).new (.cells [inlL kcells 2 x20.1, inlL scells 3 x20.2.1, inlL kcells 2 x20.2.2])).new (.arr [inlL kcells 2 x20.1, inlL scells 3 x20.2.1, inlL kcells 2 x20.2.2] 0 false)) 35 (slL 1 3 fm.length) (.slice (some ⟨3, 0, some 3⟩) 1 3)) (by kernel_rfl) (app_rowL (l := fm) (l2 := [(x20.1, x20.2.1, x20.2.2)]) (bytes := 72) tokC (by kernel_rfl) fcells_len fcells_one (by kernel_rfl) (by kernel_rfl) (by kernel_rfl) (by (try simp only [List.length_cons, List.length_nil, List.length_append]); omega))) ?_
            refine aN ?_
            refine sk_seq ?_
            refine kK Try.cfgOk hS ?_
            refine sk_regionL Try.cfgOk hS ?_
            refine aK 4 ?_
            refine aB 15 [.agg #[inlL kcells 2 x20.1, inlL scells 3 x20.2.1, inlL kcells 2 x20.2.2], .agg #[.int .i64 kt, .int .i64 kk]] (decide (hasK x20.2.2 kt kk)) _ rfl (hC15 _ _ _ _ (con_writesR_at x20.1 x20.2.1 x20.2.2 kt kk (by first | omega | (have q := g5 _ (List.mem_of_getElem? (by assumption)); omega) | (have q := s5 _ (List.mem_of_getElem? (by assumption)); omega) | (rw [g1]; omega) | (rw [hx.1]; omega) | exact ok_flat h0 | exact fun x hx => ⟨by have := s5 x hx; omega, by have := s5 x hx; omega, by have := s5 x hx; omega⟩ | (refine Nat.le_trans (kj_len _) ?_; rw [g1]; omega) | (refine Nat.le_trans (sj_len _) ?_; rw [g1]; omega) | exact Nat.le_trans (insAll_le _) (by omega) | exact Nat.le_trans (addAll_le (ok_flat h0)) (by omega) | (simp; done)) _)) (fun h21 => ?_) (fun h21 => ?_)
            · have c22 : hasK x20.2.2 kt kk := of_decide_eq_true h21
              clear h21
              refine aN ?_
              refine sk_regionL Try.cfgOk hS ?_
              refine aE (v := .int .i64 (IntKind.wrap .i64 (((i : Nat) : Int) + 1))) (.int .i64 ((i + 1 : Nat) : Int)) (congrArg (Value.int .i64) (wrap_to (by omega) (by omega))) ?_
              refine aN ?_
              refine .inl ⟨(i + 1, (fm ++ [(x20.1, x20.2.1, x20.2.2)]), true, true), rfl, ⟨?_, ?_, ?_, ?_, ?_⟩, ?_, ⟨by kernel_rfl, ⟨by kernel_rfl, by kernel_rfl, by kernel_rfl, by kernel_rfl, by kernel_rfl, by kernel_rfl, by kernel_rfl, by kernel_rfl, trivial⟩, ⟨sub_clo rfl, .ptr ⟨by decide, rfl⟩, .slice ⟨by decide, rfl⟩, sub_clo rfl, sub_clo rfl, sub_clo rfl, sub_clo rfl, sub_clo rfl, trivial⟩, Nat.le_of_ble_eq_true (by kernel_rfl), ⟨by kernel_rfl, (((wf_empty 0).new _).new _), (selfs (all_cons (o := .cells [.int .i64 kt, .int .i64 kk]) (by kernel_rfl) (OSub.cells (.cons (sub_clo rfl) (.cons (sub_clo rfl) .nil))) (all_cons (o := rowL fcells (fm ++ [(x20.1, x20.2.1, x20.2.2)])) (by kernel_rfl) (OSub.arr (subs_clo (flatL_clo fcells_clo))) (all_none))))⟩, mem_all (by kernel_rfl)⟩⟩
              · (try dsimp only); omega
              · (try dsimp only); rw [take_snoc (by assumption), i1]
              · (try dsimp only); first | exact any_t (by assumption) | exact any_y (by assumption) (by assumption) | exact any_n (by assumption) (by assumption) (by assumption)
              · (try dsimp only); first | exact any_t (by assumption) | exact any_y (by assumption) (by assumption) | exact any_n (by assumption) (by assumption) (by assumption)
              · (try dsimp only); rw [List.length_append, i1, List.length_take]; simp only [List.length_cons, List.length_nil]; omega
              · dsimp only; omega
            · have c22 : ¬ (hasK x20.2.2 kt kk) := of_decide_eq_false h21
              clear h21
              refine aN ?_
              refine sk_regionL Try.cfgOk hS ?_
              refine aE (v := .int .i64 (IntKind.wrap .i64 (((i : Nat) : Int) + 1))) (.int .i64 ((i + 1 : Nat) : Int)) (congrArg (Value.int .i64) (wrap_to (by omega) (by omega))) ?_
              refine aN ?_
              refine .inl ⟨(i + 1, (fm ++ [(x20.1, x20.2.1, x20.2.2)]), true, false), rfl, ⟨?_, ?_, ?_, ?_, ?_⟩, ?_, ⟨by kernel_rfl, ⟨by kernel_rfl, by kernel_rfl, by kernel_rfl, by kernel_rfl, by kernel_rfl, by kernel_rfl, by kernel_rfl, by kernel_rfl, trivial⟩, ⟨sub_clo rfl, .ptr ⟨by decide, rfl⟩, .slice ⟨by decide, rfl⟩, sub_clo rfl, sub_clo rfl, sub_clo rfl, sub_clo rfl, sub_clo rfl, trivial⟩, Nat.le_of_ble_eq_true (by kernel_rfl), ⟨by kernel_rfl, (((wf_empty 0).new _).new _), (selfs (all_cons (o := .cells [.int .i64 kt, .int .i64 kk]) (by kernel_rfl) (OSub.cells (.cons (sub_clo rfl) (.cons (sub_clo rfl) .nil))) (all_cons (o := rowL fcells (fm ++ [(x20.1, x20.2.1, x20.2.2)])) (by kernel_rfl) (OSub.arr (subs_clo (flatL_clo fcells_clo))) (all_none))))⟩, mem_all (by kernel_rfl)⟩⟩
              · (try dsimp only); omega
              · (try dsimp only); rw [take_snoc (by assumption), i1]
              · (try dsimp only); first | exact any_t (by assumption) | exact any_y (by assumption) (by assumption) | exact any_n (by assumption) (by assumption) (by assumption)
              · (try dsimp only); first | exact any_t (by assumption) | exact any_y (by assumption) (by assumption) | exact any_n (by assumption) (by assumption) (by assumption)
              · (try dsimp only); rw [List.length_append, i1, List.length_take]; simp only [List.length_cons, List.length_nil]; omega
              · dsimp only; omega
          · have c19e : (decide ((((i : Nat) : Int) : Int) < ((l.length : Nat) : Int))) = false := Eq.trans (by kernel_rfl) h18
            clear h18
            have c19 : ¬ (((i : Nat) : Int) : Int) < ((l.length : Nat) : Int) := of_decide_eq_false c19e
            clear c19e
            refine al_nil ?_
            refine sk_seq ?_
            refine kF ?_
            refine sk_exit ?_
            dsimp only
            refine .inr ⟨_, _, (fun h => by cases h), ⟨rfl, ?_, rfl, rfl⟩, ⟨by kernel_rfl, ⟨by kernel_rfl, by kernel_rfl, by kernel_rfl, by kernel_rfl, by kernel_rfl, by kernel_rfl, by kernel_rfl, by kernel_rfl, trivial⟩, ⟨sub_clo rfl, .ptr ⟨by decide, rfl⟩, .slice ⟨by decide, rfl⟩, sub_clo rfl, sub_clo rfl, sub_clo rfl, sub_clo rfl, sub_clo rfl, trivial⟩, Nat.le_of_ble_eq_true (by kernel_rfl), ⟨by kernel_rfl, (((wf_empty 0).new _).new _), (selfs (all_cons (o := .cells [.int .i64 kt, .int .i64 kk]) (by kernel_rfl) (OSub.cells (.cons (sub_clo rfl) (.cons (sub_clo rfl) .nil))) (all_cons (o := rowL fcells fm) (by kernel_rfl) (OSub.arr (subs_clo (flatL_clo fcells_clo))) (all_none))))⟩, mem_all (by kernel_rfl)⟩⟩
            · exact ⟨by rw [i1, List.take_of_length_le (by omega)], any_end i2 (by omega), any_end i3 (by omega)⟩
        ·
          refine sk_seq ?_
          refine sk_regionL Try.cfgOk hS ?_
          refine aT (fun h23 => ?_) (fun h23 => ?_)
          · have c24e : (decide ((((i : Nat) : Int) : Int) < ((l.length : Nat) : Int))) = true := Eq.trans (by kernel_rfl) h23
            clear h23
            have c24 : (((i : Nat) : Int) : Int) < ((l.length : Nat) : Int) := of_decide_eq_true c24e
            clear c24e
            refine al_nil ?_
            refine sk_seq ?_
            refine kT ?_
            refine sk_skip (sk_seq (sk_block (sk_seq ?_)))
            refine sk_regionL Try.cfgOk hS ?_
            refine aM (indexAddrV Try.cfg 35 (inlL fcells 3 l) (.int .i64 ((i : Nat) : Int))) (elt (flatL fcells l) (i * 3)) (idx_inlL tokC (by kernel_rfl) (by first | omega | simp)) ?_
            have hx25l : i < l.length := by omega
            refine Exists.elim (get_ex hx25l) fun x25 hx25 => ?_
            clear hx25l
            refine aM (loadV Try.cfg (St.empty 0) 25 (elt (flatL fcells l) (i * 3))) (.agg #[inlL kcells 2 x25.1, inlL scells 3 x25.2.1, inlL kcells 2 x25.2.2]) (load_el tokC (by kernel_rfl) fcells_len hx25) ?_
            refine aN ?_
            refine sk_seq ?_
            refine sk_regionL Try.cfgOk hS ?_
            refine aK 2 ?_
            refine aC 13 [.agg #[inlL kcells 2 x25.1, inlL scells 3 x25.2.1, inlL kcells 2 x25.2.2]] (.agg #[inlL kcells 2 x25.1, inlL scells 3 x25.2.1, inlL kcells 2 x25.2.2]) _ rfl (hC13 _ _ _ _ (con_copies_at x25.1 x25.2.1 x25.2.2 (by first | omega | (have q := g5 _ (List.mem_of_getElem? (by assumption)); omega) | (have q := s5 _ (List.mem_of_getElem? (by assumption)); omega) | (rw [g1]; omega) | (rw [hx.1]; omega) | exact ok_flat h0 | exact fun x hx => ⟨by have := s5 x hx; omega, by have := s5 x hx; omega, by have := s5 x hx; omega⟩ | (refine Nat.le_trans (kj_len _) ?_; rw [g1]; omega) | (refine Nat.le_trans (sj_len _) ?_; rw [g1]; omega) | exact Nat.le_trans (insAll_le _) (by omega) | exact Nat.le_trans (addAll_le (ok_flat h0)) (by omega) | (simp; done)) (by first | omega | (have q := g5 _ (List.mem_of_getElem? (by assumption)); omega) | (have q := s5 _ (List.mem_of_getElem? (by assumption)); omega) | (rw [g1]; omega) | (rw [hx.1]; omega) | exact ok_flat h0 | exact fun x hx => ⟨by have := s5 x hx; omega, by have := s5 x hx; omega, by have := s5 x hx; omega⟩ | (refine Nat.le_trans (kj_len _) ?_; rw [g1]; omega) | (refine Nat.le_trans (sj_len _) ?_; rw [g1]; omega) | exact Nat.le_trans (insAll_le _) (by omega) | exact Nat.le_trans (addAll_le (ok_flat h0)) (by omega) | (simp; done)) (by first | omega | (have q := g5 _ (List.mem_of_getElem? (by assumption)); omega) | (have q := s5 _ (List.mem_of_getElem? (by assumption)); omega) | (rw [g1]; omega) | (rw [hx.1]; omega) | exact ok_flat h0 | exact fun x hx => ⟨by have := s5 x hx; omega, by have := s5 x hx; omega, by have := s5 x hx; omega⟩ | (refine Nat.le_trans (kj_len _) ?_; rw [g1]; omega) | (refine Nat.le_trans (sj_len _) ?_; rw [g1]; omega) | exact Nat.le_trans (insAll_le _) (by omega) | exact Nat.le_trans (addAll_le (ok_flat h0)) (by omega) | (simp; done)) _)) ?_
            refine aK 1 ?_
            refine al_opF (v := slL 1 3 (fm ++ [(x25.1, x25.2.1, x25.2.2)]).length) (s1 := (((((St.empty 0).new (.cells [.int .i64 kt, .int .i64 kk])).new (rowL fcells fm)).new (.cells [inlL kcells 2 x25.1, inlL scells 3 x25.2.1, inlL kcells 2 x25.2.2])).new (.arr [inlL kcells 2 x25.1, inlL scells 3 x25.2.1, inlL kcells 2 x25.2.2] 0 false)).set 1 (rowL fcells (fm ++ [(x25.1, x25.2.1, x25.2.2)]))) (by kernel_rfl) (by kernel_rfl) (Eq.trans (b := appendV Try.cfg (((((St.empty 0).new (.cells [.int .i64 kt, .int .i64 kk])).new (rowL fcells fm)).new (.cells [inlL kcells 2 x25.1, inlL scells 3 x25.2.1, inlL kcells 2 x25.2.2])).new (.arr [inlL kcells 2 x25.1, inlL scells 3 x25.2.1, inlL kcells 2 x25.2.2] 0 false)) 35 (slL 1 3 fm.length) (.slice (some ⟨3, 0, some 3⟩) 1 3)) (by kernel_rfl) (app_rowL (l := fm) (l2 := [(x25.1, x25.2.1, x25.2.2)]) (bytes := 72) tokC (by kernel_rfl) fcells_len fcells_one (by kernel_rfl) (by kernel_rfl) (by kernel_rfl) (by (try simp only [List.length_cons, List.length_nil, List.length_append]); omega))) ?_
            refine aN ?_
            refine sk_seq ?_
            refine kK Try.cfgOk hS ?_
            refine kK Try.cfgOk hS ?_
            refine sk_regionL Try.cfgOk hS ?_
            refine aE (v := .int .i64 (IntKind.wrap .i64 (((i : Nat) : Int) + 1))) (.int .i64 ((i + 1 : Nat) : Int)) (congrArg (Value.int .i64) (wrap_to (by omega) (by omega))) ?_
            refine aN ?_
            refine .inl ⟨(i + 1, (fm ++ [(x25.1, x25.2.1, x25.2.2)]), true, true), rfl, ⟨?_, ?_, ?_, ?_, ?_⟩, ?_, ⟨by kernel_rfl, ⟨by kernel_rfl, by kernel_rfl, by kernel_rfl, by kernel_rfl, by kernel_rfl, by kernel_rfl, by kernel_rfl, by kernel_rfl, trivial⟩, ⟨sub_clo rfl, .ptr ⟨by decide, rfl⟩, .slice ⟨by decide, rfl⟩, sub_clo rfl, sub_clo rfl, sub_clo rfl, sub_clo rfl, sub_clo rfl, trivial⟩, Nat.le_of_ble_eq_true (by kernel_rfl), ⟨by kernel_rfl, (((wf_empty 0).new _).new _), (selfs (all_cons (o := .cells [.int .i64 kt, .int .i64 kk]) (by kernel_rfl) (OSub.cells (.cons (sub_clo rfl) (.cons (sub_clo rfl) .nil))) (all_cons (o := rowL fcells (fm ++ [(x25.1, x25.2.1, x25.2.2)])) (by kernel_rfl) (OSub.arr (subs_clo (flatL_clo fcells_clo))) (all_none))))⟩, mem_all (by kernel_rfl)⟩⟩
            · (try dsimp only); omega
            · (try dsimp only); rw [take_snoc (by assumption), i1]
            · (try dsimp only); first | exact any_t (by assumption) | exact any_y (by assumption) (by assumption) | exact any_n (by assumption) (by assumption) (by assumption)
            · (try dsimp only); first | exact any_t (by assumption) | exact any_y (by assumption) (by assumption) | exact any_n (by assumption) (by assumption) (by assumption)
            · (try dsimp only); rw [List.length_append, i1, List.length_take]; simp only [List.length_cons, List.length_nil]; omega
            · dsimp only; omega
          · have c24e : (decide ((((i : Nat) : Int) : Int) < ((l.length : Nat) : Int))) = false := Eq.trans (by kernel_rfl) h23
            clear h23
            have c24 : ¬ (((i : Nat) : Int) : Int) < ((l.length : Nat) : Int) := of_decide_eq_false c24e
            clear c24e
            refine al_nil ?_
            refine sk_seq ?_
            refine kF ?_
            refine sk_exit ?_
            dsimp only
            refine .inr ⟨_, _, (fun h => by cases h), ⟨rfl, ?_, rfl, rfl⟩, ⟨by kernel_rfl, ⟨by kernel_rfl, by kernel_rfl, by kernel_rfl, by kernel_rfl, by kernel_rfl, by kernel_rfl, by kernel_rfl, by kernel_rfl, trivial⟩, ⟨sub_clo rfl, .ptr ⟨by decide, rfl⟩, .slice ⟨by decide, rfl⟩, sub_clo rfl, sub_clo rfl, sub_clo rfl, sub_clo rfl, sub_clo rfl, trivial⟩, Nat.le_of_ble_eq_true (by kernel_rfl), ⟨by kernel_rfl, (((wf_empty 0).new _).new _), (selfs (all_cons (o := .cells [.int .i64 kt, .int .i64 kk]) (by kernel_rfl) (OSub.cells (.cons (sub_clo rfl) (.cons (sub_clo rfl) .nil))) (all_cons (o := rowL fcells fm) (by kernel_rfl) (OSub.arr (subs_clo (flatL_clo fcells_clo))) (all_none))))⟩, mem_all (by kernel_rfl)⟩⟩
            · exact ⟨by rw [i1, List.take_of_length_le (by omega)], any_end i2 (by omega), any_end i3 (by omega)⟩
    · exact ⟨by ((try dsimp only); first | done | (omega)), by ((try dsimp only); first | done | (rfl)), by ((try dsimp only); first | done | (exact (tf_false (by simp)).symm)), by ((try dsimp only); first | done | (exact (tf_false (by simp)).symm)), by ((try dsimp only); first | done | (exact Nat.zero_le _))⟩
    rintro o e1 s1 ⟨a, lv1, M1, m3, ha, ⟨rfl, hx, rfl, rfl⟩, rfl, rfl⟩
    obtain ⟨i, fm, rd, wd⟩ := a
    obtain ⟨i0, i1, i2, i3, i4⟩ := ha
    dsimp only at hx i0 i1 i2 i3 i4
    dsimp only
    try rw [if_pos rfl]
    refine sk_seq ?_
    refine sk_regionL Try.cfgOk hS ?_
    refine aK 1 ?_
    refine aC 10 [slL 1 3 fm.length] (.agg #[inlL kcells 2 (kj (flatR fm)), inlL scells 3 (sj (flatS fm)), inlL kcells 2 (kj (flatW fm))]) _ rfl (hC10 _ _ _ _ (con_joinF_at fm 1 (by first | omega | (have q := g5 _ (List.mem_of_getElem? (by assumption)); omega) | (have q := s5 _ (List.mem_of_getElem? (by assumption)); omega) | (rw [g1]; omega) | (rw [hx.1]; omega) | exact ok_flat h0 | exact fun x hx => ⟨by have := s5 x hx; omega, by have := s5 x hx; omega, by have := s5 x hx; omega⟩ | (refine Nat.le_trans (kj_len _) ?_; rw [g1]; omega) | (refine Nat.le_trans (sj_len _) ?_; rw [g1]; omega) | exact Nat.le_trans (insAll_le _) (by omega) | exact Nat.le_trans (addAll_le (ok_flat h0)) (by omega) | (simp; done)) (by first | omega | (have q := g5 _ (List.mem_of_getElem? (by assumption)); omega) | (have q := s5 _ (List.mem_of_getElem? (by assumption)); omega) | (rw [g1]; omega) | (rw [hx.1]; omega) | exact ok_flat h0 | exact fun x hx => ⟨by have := s5 x hx; omega, by have := s5 x hx; omega, by have := s5 x hx; omega⟩ | (refine Nat.le_trans (kj_len _) ?_; rw [g1]; omega) | (refine Nat.le_trans (sj_len _) ?_; rw [g1]; omega) | exact Nat.le_trans (insAll_le _) (by omega) | exact Nat.le_trans (addAll_le (ok_flat h0)) (by omega) | (simp; done)) (by first | omega | (have q := g5 _ (List.mem_of_getElem? (by assumption)); omega) | (have q := s5 _ (List.mem_of_getElem? (by assumption)); omega) | (rw [g1]; omega) | (rw [hx.1]; omega) | exact ok_flat h0 | exact fun x hx => ⟨by have := s5 x hx; omega, by have := s5 x hx; omega, by have := s5 x hx; omega⟩ | (refine Nat.le_trans (kj_len _) ?_; rw [g1]; omega) | (refine Nat.le_trans (sj_len _) ?_; rw [g1]; omega) | exact Nat.le_trans (insAll_le _) (by omega) | exact Nat.le_trans (addAll_le (ok_flat h0)) (by omega) | (simp; done)) (by first | omega | (have q := g5 _ (List.mem_of_getElem? (by assumption)); omega) | (have q := s5 _ (List.mem_of_getElem? (by assumption)); omega) | (rw [g1]; omega) | (rw [hx.1]; omega) | exact ok_flat h0 | exact fun x hx => ⟨by have := s5 x hx; omega, by have := s5 x hx; omega, by have := s5 x hx; omega⟩ | (refine Nat.le_trans (kj_len _) ?_; rw [g1]; omega) | (refine Nat.le_trans (sj_len _) ?_; rw [g1]; omega) | exact Nat.le_trans (insAll_le _) (by omega) | exact Nat.le_trans (addAll_le (ok_flat h0)) (by omega) | (simp; done)) _ (by kernel_rfl) (by kernel_rfl) )) ?_
    refine aN ?_
    refine sk_seq (sk_seq ?_)
    refine sk_regionL Try.cfgOk hS ?_
    refine aK 1 ?_
    refine aM (lenB Try.cfg (St.empty 0) 35 (inlL fcells 3 l)) (.int .i64 ((l.length : Nat) : Int)) (len_inl tokC (by kernel_rfl)) ?_
    refine aN ?_
    refine sk_block ?_
    refine sk_live 77 ((fun a : Nat => [(0, inlL fcells 3 l), (3, .pointer (some ⟨0, 0, none⟩)), (5, slL 1 3 fm.length), (6, .bool rd), (7, .bool wd), (10, .pointer (some ⟨2, 0, none⟩)), (44, inlL fcells 3 l), (45, .int .i64 ((l.length : Nat) : Int)), (46, .int .i64 ((a : Nat) : Int))]) 0) (by kernel_rfl) ⟨by kernel_rfl, by kernel_rfl, by kernel_rfl, by kernel_rfl, by kernel_rfl, by kernel_rfl, by kernel_rfl, by kernel_rfl, by kernel_rfl, trivial⟩ fun m26 => ?_
    refine sk_st ((fun a : Nat => ((((St.empty 0).new (.cells [.int .i64 kt, .int .i64 kk])).new (rowL fcells fm)).new (.cells [inlL kcells 2 (kj (flatR fm)), inlL scells 3 (sj (flatS fm)), inlL kcells 2 (kj (flatW fm))]))) 0) (by kernel_rfl) ?_
    refine (sk_while (k := 3) (N := 400) (live := (fun a : Nat => [(0, inlL fcells 3 l), (3, .pointer (some ⟨0, 0, none⟩)), (5, slL 1 3 fm.length), (6, .bool rd), (7, .bool wd), (10, .pointer (some ⟨2, 0, none⟩)), (44, inlL fcells 3 l), (45, .int .i64 ((l.length : Nat) : Int)), (46, .int .i64 ((a : Nat) : Int))])) (M := (fun a : Nat => ((((St.empty 0).new (.cells [.int .i64 kt, .int .i64 kk])).new (rowL fcells fm)).new (.cells [inlL kcells 2 (kj (flatR fm)), inlL scells 3 (sj (flatS fm)), inlL kcells 2 (kj (flatW fm))])))) (fun a : Nat => (a ≤ l.length) ∧ (fm = l) ∧ (rd = tf (∃ x, x ∈ l ∧ readsR x.1 x.2.1 kt kk)) ∧ (wd = tf (∃ x, x ∈ l ∧ hasK x.2.2 kt kk)) ∧ (fm.length = l.length) ∧ (∀ x ∈ fm, x.1.length ≤ 60 ∧ x.2.1.length ≤ 60 ∧ x.2.2.length ≤ 60)) (fun a : Nat => l.length - a) (fun (a : Nat) (o : Out) (lv : List (Nat × Value)) (M : St) => (o = .exit 2 ∧ (True) ∧ lv = [(0, inlL fcells 3 l), (3, .pointer (some ⟨0, 0, none⟩)), (5, slL 1 3 fm.length), (6, .bool rd), (7, .bool wd), (10, .pointer (some ⟨2, 0, none⟩)), (44, inlL fcells 3 l), (45, .int .i64 ((l.length : Nat) : Int)), (46, .int .i64 ((a : Nat) : Int))] ∧ M = ((((St.empty 0).new (.cells [.int .i64 kt, .int .i64 kk])).new (rowL fcells fm)).new (.cells [inlL kcells 2 (kj (flatR fm)), inlL scells 3 (sj (flatS fm)), inlL kcells 2 (kj (flatW fm))]))) ∨ (o = .ret ∧ (False) ∧ lv = [(4, .bool false)] ∧ M = ((((St.empty 0).new (.cells [.int .i64 kt, .int .i64 kk])).new (rowL fcells fm)).new (.cells [inlL kcells 2 (kj (flatR fm)), inlL scells 3 (sj (flatS fm)), inlL kcells 2 (kj (flatW fm))])))) (Nat.zero_le _) (fun a ha => ?_) (fun a ha => ?_) (fun a m ha => ?_) (fun a m ha => ?_) 0 m26 ?_).up ?_
    · exact ⟨by kernel_rfl, ((((wf_empty 0).new _).new _).new _), (selfs (all_cons (o := .cells [.int .i64 kt, .int .i64 kk]) (by kernel_rfl) (OSub.cells (.cons (sub_clo rfl) (.cons (sub_clo rfl) .nil))) (all_cons (o := rowL fcells fm) (by kernel_rfl) (OSub.arr (subs_clo (flatL_clo fcells_clo))) (all_cons (o := .cells [inlL kcells 2 (kj (flatR fm)), inlL scells 3 (sj (flatS fm)), inlL kcells 2 (kj (flatW fm))]) (by kernel_rfl) (OSub.cells (.cons (sub_clo rfl) (.cons (sub_clo rfl) (.cons (sub_clo rfl) .nil)))) (all_none)))))⟩
    · exact ⟨sub_clo rfl, .ptr ⟨by decide, rfl⟩, .slice ⟨by decide, rfl⟩, sub_clo rfl, sub_clo rfl, .ptr ⟨by decide, rfl⟩, sub_clo rfl, sub_clo rfl, sub_clo rfl, trivial⟩
    · exact ⟨by kernel_rfl, by kernel_rfl, by kernel_rfl, by kernel_rfl, by kernel_rfl, by kernel_rfl, by kernel_rfl, by kernel_rfl, by kernel_rfl, trivial⟩
    · obtain ⟨i, ea⟩ : ∃ z, z = a := ⟨_, rfl⟩
      subst ea
      obtain ⟨g0, g1, g2, g3, g4, g5⟩ := ha
      refine sk_seq ?_
      refine sk_regionL Try.cfgOk hS ?_
      refine aT (fun h27 => ?_) (fun h27 => ?_)
      · have c28e : (decide ((((i : Nat) : Int) : Int) < ((l.length : Nat) : Int))) = true := Eq.trans (by kernel_rfl) h27
        clear h27
        have c28 : (((i : Nat) : Int) : Int) < ((l.length : Nat) : Int) := of_decide_eq_true c28e
        clear c28e
        refine al_nil ?_
        refine sk_seq ?_
        refine kT ?_
        refine sk_skip (sk_seq (sk_block (sk_seq ?_)))
        refine sk_regionL Try.cfgOk hS ?_
        refine aK 1 ?_
        refine aM (indexAddrV Try.cfg 35 (inlL fcells 3 l) (.int .i64 ((i : Nat) : Int))) (elt (flatL fcells l) (i * 3)) (idx_inlL tokC (by kernel_rfl) (by first | omega | simp)) ?_
        have hx29l : i < l.length := by omega
        refine Exists.elim (get_ex hx29l) fun x29 hx29 => ?_
        clear hx29l
        refine aM (loadV Try.cfg (St.empty 0) 25 (elt (flatL fcells l) (i * 3))) (.agg #[inlL kcells 2 x29.1, inlL scells 3 x29.2.1, inlL kcells 2 x29.2.2]) (load_el tokC (by kernel_rfl) fcells_len hx29) ?_
        refine aN ?_
        refine sk_seq ?_
        refine sk_drawL Try.cfgOk hS ?_
        refine dK 2 ?_
        refine dM (indexAddrV Try.cfg 35 (slL 1 3 fm.length) (.int .i64 ((i : Nat) : Int))) (.pointer (some ⟨1, i * 3, some (fm.length * 3)⟩)) (idx_rowL (by kernel_rfl) (by omega)) ?_
        have hx30l : i < fm.length := by omega
        refine Exists.elim (get_ex hx30l) fun x30 hx30 => ?_
        clear hx30l
        refine dM (loadV Try.cfg (((((St.empty 0).new (.cells [.int .i64 kt, .int .i64 kk])).new (rowL fcells fm)).new (.cells [inlL kcells 2 (kj (flatR fm)), inlL scells 3 (sj (flatS fm)), inlL kcells 2 (kj (flatW fm))])).new (.cells [inlL kcells 2 x29.1, inlL scells 3 x29.2.1, inlL kcells 2 x29.2.2])) 25 (.pointer (some ⟨1, i * 3, some (fm.length * 3)⟩))) (.agg #[inlL kcells 2 x30.1, inlL scells 3 x30.2.1, inlL kcells 2 x30.2.2]) (load_rowL (l := fm) (by kernel_rfl) fcells_len (by kernel_rfl) hx30) ?_
        refine dK 1 ?_
        refine dB 12 [.agg #[inlL kcells 2 x30.1, inlL scells 3 x30.2.1, inlL kcells 2 x30.2.2], .agg #[inlL kcells 2 x29.1, inlL scells 3 x29.2.1, inlL kcells 2 x29.2.2]] (decide (x30.1 = x29.1 ∧ x30.2.1 = x29.2.1 ∧ x30.2.2 = x29.2.2)) _ rfl (hC12 _ _ _ _ (con_nfeet_at x30.1 x30.2.1 x30.2.2 x29.1 x29.2.1 x29.2.2 (by first | omega | (have q := g5 _ (List.mem_of_getElem? (by assumption)); omega) | (have q := s5 _ (List.mem_of_getElem? (by assumption)); omega) | (rw [g1]; omega) | (rw [hx.1]; omega) | exact ok_flat h0 | exact fun x hx => ⟨by have := s5 x hx; omega, by have := s5 x hx; omega, by have := s5 x hx; omega⟩ | (refine Nat.le_trans (kj_len _) ?_; rw [g1]; omega) | (refine Nat.le_trans (sj_len _) ?_; rw [g1]; omega) | exact Nat.le_trans (insAll_le _) (by omega) | exact Nat.le_trans (addAll_le (ok_flat h0)) (by omega) | (simp; done)) (by first | omega | (have q := g5 _ (List.mem_of_getElem? (by assumption)); omega) | (have q := s5 _ (List.mem_of_getElem? (by assumption)); omega) | (rw [g1]; omega) | (rw [hx.1]; omega) | exact ok_flat h0 | exact fun x hx => ⟨by have := s5 x hx; omega, by have := s5 x hx; omega, by have := s5 x hx; omega⟩ | (refine Nat.le_trans (kj_len _) ?_; rw [g1]; omega) | (refine Nat.le_trans (sj_len _) ?_; rw [g1]; omega) | exact Nat.le_trans (insAll_le _) (by omega) | exact Nat.le_trans (addAll_le (ok_flat h0)) (by omega) | (simp; done)) (by first | omega | (have q := g5 _ (List.mem_of_getElem? (by assumption)); omega) | (have q := s5 _ (List.mem_of_getElem? (by assumption)); omega) | (rw [g1]; omega) | (rw [hx.1]; omega) | exact ok_flat h0 | exact fun x hx => ⟨by have := s5 x hx; omega, by have := s5 x hx; omega, by have := s5 x hx; omega⟩ | (refine Nat.le_trans (kj_len _) ?_; rw [g1]; omega) | (refine Nat.le_trans (sj_len _) ?_; rw [g1]; omega) | exact Nat.le_trans (insAll_le _) (by omega) | exact Nat.le_trans (addAll_le (ok_flat h0)) (by omega) | (simp; done)) (by first | omega | (have q := g5 _ (List.mem_of_getElem? (by assumption)); omega) | (have q := s5 _ (List.mem_of_getElem? (by assumption)); omega) | (rw [g1]; omega) | (rw [hx.1]; omega) | exact ok_flat h0 | exact fun x hx => ⟨by have := s5 x hx; omega, by have := s5 x hx; omega, by have := s5 x hx; omega⟩ | (refine Nat.le_trans (kj_len _) ?_; rw [g1]; omega) | (refine Nat.le_trans (sj_len _) ?_; rw [g1]; omega) | exact Nat.le_trans (insAll_le _) (by omega) | exact Nat.le_trans (addAll_le (ok_flat h0)) (by omega) | (simp; done)) (by first | omega | (have q := g5 _ (List.mem_of_getElem? (by assumption)); omega) | (have q := s5 _ (List.mem_of_getElem? (by assumption)); omega) | (rw [g1]; omega) | (rw [hx.1]; omega) | exact ok_flat h0 | exact fun x hx => ⟨by have := s5 x hx; omega, by have := s5 x hx; omega, by have := s5 x hx; omega⟩ | (refine Nat.le_trans (kj_len _) ?_; rw [g1]; omega) | (refine Nat.le_trans (sj_len _) ?_; rw [g1]; omega) | exact Nat.le_trans (insAll_le _) (by omega) | exact Nat.le_trans (addAll_le (ok_flat h0)) (by omega) | (simp; done)) (by first | omega | (have q := g5 _ (List.mem_of_getElem? (by assumption)); omega) | (have q := s5 _ (List.mem_of_getElem? (by assumption)); omega) | (rw [g1]; omega) | (rw [hx.1]; omega) | exact ok_flat h0 | exact fun x hx => ⟨by have := s5 x hx; omega, by have := s5 x hx; omega, by have := s5 x hx; omega⟩ | (refine Nat.le_trans (kj_len _) ?_; rw [g1]; omega) | (refine Nat.le_trans (sj_len _) ?_; rw [g1]; omega) | exact Nat.le_trans (insAll_le _) (by omega) | exact Nat.le_trans (addAll_le (ok_flat h0)) (by omega) | (simp; done)) _)) (fun h31 => ?_) (fun h31 => ?_)
        · have c32 : x30.1 = x29.1 ∧ x30.2.1 = x29.2.1 ∧ x30.2.2 = x29.2.2 := of_decide_eq_true h31
          clear h31
          refine dK 1 ?_
          refine ald_nil ?_
          refine kF ?_
          refine sk_skip ?_
          refine sk_regionL Try.cfgOk hS ?_
          refine aE (v := .int .i64 (IntKind.wrap .i64 (((i : Nat) : Int) + 1))) (.int .i64 ((i + 1 : Nat) : Int)) (congrArg (Value.int .i64) (wrap_to (by omega) (by omega))) ?_
          refine aN ?_
          refine .inl ⟨i + 1, rfl, ⟨?_, ?_, ?_, ?_, ?_, ?_⟩, ?_, ⟨by kernel_rfl, ⟨by kernel_rfl, by kernel_rfl, by kernel_rfl, by kernel_rfl, by kernel_rfl, by kernel_rfl, by kernel_rfl, by kernel_rfl, by kernel_rfl, trivial⟩, ⟨sub_clo rfl, .ptr ⟨by decide, rfl⟩, .slice ⟨by decide, rfl⟩, sub_clo rfl, sub_clo rfl, .ptr ⟨by decide, rfl⟩, sub_clo rfl, sub_clo rfl, sub_clo rfl, trivial⟩, Nat.le_of_ble_eq_true (by kernel_rfl), ⟨by kernel_rfl, ((((wf_empty 0).new _).new _).new _), (selfs (all_cons (o := .cells [.int .i64 kt, .int .i64 kk]) (by kernel_rfl) (OSub.cells (.cons (sub_clo rfl) (.cons (sub_clo rfl) .nil))) (all_cons (o := rowL fcells fm) (by kernel_rfl) (OSub.arr (subs_clo (flatL_clo fcells_clo))) (all_cons (o := .cells [inlL kcells 2 (kj (flatR fm)), inlL scells 3 (sj (flatS fm)), inlL kcells 2 (kj (flatW fm))]) (by kernel_rfl) (OSub.cells (.cons (sub_clo rfl) (.cons (sub_clo rfl) (.cons (sub_clo rfl) .nil)))) (all_none)))))⟩, mem_all (by kernel_rfl)⟩⟩
          · (try dsimp only); omega
          · (try dsimp only); assumption
          · (try dsimp only); assumption
          · (try dsimp only); assumption
          · (try dsimp only); assumption
          · (try dsimp only); assumption
          · omega
        · have c32 : ¬ (x30.1 = x29.1 ∧ x30.2.1 = x29.2.1 ∧ x30.2.2 = x29.2.2) := of_decide_eq_false h31
          clear h31
          refine dK 1 ?_
          refine ald_nil ?_
          refine kT ?_
          refine sk_seq ?_
          refine kK Try.cfgOk hS ?_
          refine sk_ret ?_
          refine .inr ⟨_, _, (fun h => by cases h), .inr ⟨rfl, ?_, rfl, rfl⟩, ⟨by kernel_rfl, ⟨by kernel_rfl, trivial⟩, ⟨sub_clo rfl, trivial⟩, Nat.le_of_ble_eq_true (by kernel_rfl), ⟨by kernel_rfl, ((((wf_empty 0).new _).new _).new _), (selfs (all_cons (o := .cells [.int .i64 kt, .int .i64 kk]) (by kernel_rfl) (OSub.cells (.cons (sub_clo rfl) (.cons (sub_clo rfl) .nil))) (all_cons (o := rowL fcells fm) (by kernel_rfl) (OSub.arr (subs_clo (flatL_clo fcells_clo))) (all_cons (o := .cells [inlL kcells 2 (kj (flatR fm)), inlL scells 3 (sj (flatS fm)), inlL kcells 2 (kj (flatW fm))]) (by kernel_rfl) (OSub.cells (.cons (sub_clo rfl) (.cons (sub_clo rfl) (.cons (sub_clo rfl) .nil)))) (all_none)))))⟩, mem_all (by kernel_rfl)⟩⟩
          · exact absurd (same_at g1 (by assumption) (by assumption)) (by assumption)
      · have c28e : (decide ((((i : Nat) : Int) : Int) < ((l.length : Nat) : Int))) = false := Eq.trans (by kernel_rfl) h27
        clear h27
        have c28 : ¬ (((i : Nat) : Int) : Int) < ((l.length : Nat) : Int) := of_decide_eq_false c28e
        clear c28e
        refine al_nil ?_
        refine sk_seq ?_
        refine kF ?_
        refine sk_exit ?_
        dsimp only
        refine .inr ⟨_, _, (fun h => by cases h), .inl ⟨rfl, ?_, rfl, rfl⟩, ⟨by kernel_rfl, ⟨by kernel_rfl, by kernel_rfl, by kernel_rfl, by kernel_rfl, by kernel_rfl, by kernel_rfl, by kernel_rfl, by kernel_rfl, by kernel_rfl, trivial⟩, ⟨sub_clo rfl, .ptr ⟨by decide, rfl⟩, .slice ⟨by decide, rfl⟩, sub_clo rfl, sub_clo rfl, .ptr ⟨by decide, rfl⟩, sub_clo rfl, sub_clo rfl, sub_clo rfl, trivial⟩, Nat.le_of_ble_eq_true (by kernel_rfl), ⟨by kernel_rfl, ((((wf_empty 0).new _).new _).new _), (selfs (all_cons (o := .cells [.int .i64 kt, .int .i64 kk]) (by kernel_rfl) (OSub.cells (.cons (sub_clo rfl) (.cons (sub_clo rfl) .nil))) (all_cons (o := rowL fcells fm) (by kernel_rfl) (OSub.arr (subs_clo (flatL_clo fcells_clo))) (all_cons (o := .cells [inlL kcells 2 (kj (flatR fm)), inlL scells 3 (sj (flatS fm)), inlL kcells 2 (kj (flatW fm))]) (by kernel_rfl) (OSub.cells (.cons (sub_clo rfl) (.cons (sub_clo rfl) (.cons (sub_clo rfl) .nil)))) (all_none)))))⟩, mem_all (by kernel_rfl)⟩⟩
        · trivial
    · exact ⟨by ((try dsimp only); first | done | (omega)), by ((try dsimp only); first | done | (exact hx.1)), by ((try dsimp only); first | done | (exact hx.2.1)), by ((try dsimp only); first | done | (exact hx.2.2)), by ((try dsimp only); first | done | (rw [hx.1])), by ((try dsimp only); first | done | (rw [hx.1]; exact s5))⟩
    rintro o e1 s1 ⟨a, lv1, M1, m26, ha, (⟨rfl, hx, rfl, rfl⟩ | ⟨rfl, hx, rfl, rfl⟩), rfl, rfl⟩
    ·
      obtain ⟨i, ea⟩ : ∃ z, z = a := ⟨_, rfl⟩
      subst ea
      obtain ⟨g0, g1, g2, g3, g4, g5⟩ := ha
      dsimp only
      try rw [if_pos rfl]
      refine sk_seq ?_
      refine sk_drawL Try.cfgOk hS ?_
      refine dK 2 ?_
      refine ald_callE (d := rd0) 16 [inlL fcells 3 l] (.agg #[inlL kcells 2 (insAll (flatR l)), inlL scells 3 (addAll (flatS l)), inlL kcells 2 (insAll (flatW l))]) _ rfl (fun b h => by cases h) (by kernel_rfl) (by kernel_rfl) (hC16 _ _ _ _ (con_joinR_at l (by first | omega | (have q := g5 _ (List.mem_of_getElem? (by assumption)); omega) | (have q := s5 _ (List.mem_of_getElem? (by assumption)); omega) | (rw [g1]; omega) | (rw [hx.1]; omega) | exact ok_flat h0 | exact fun x hx => ⟨by have := s5 x hx; omega, by have := s5 x hx; omega, by have := s5 x hx; omega⟩ | (refine Nat.le_trans (kj_len _) ?_; rw [g1]; omega) | (refine Nat.le_trans (sj_len _) ?_; rw [g1]; omega) | exact Nat.le_trans (insAll_le _) (by omega) | exact Nat.le_trans (addAll_le (ok_flat h0)) (by omega) | (simp; done)) (by first | omega | (have q := g5 _ (List.mem_of_getElem? (by assumption)); omega) | (have q := s5 _ (List.mem_of_getElem? (by assumption)); omega) | (rw [g1]; omega) | (rw [hx.1]; omega) | exact ok_flat h0 | exact fun x hx => ⟨by have := s5 x hx; omega, by have := s5 x hx; omega, by have := s5 x hx; omega⟩ | (refine Nat.le_trans (kj_len _) ?_; rw [g1]; omega) | (refine Nat.le_trans (sj_len _) ?_; rw [g1]; omega) | exact Nat.le_trans (insAll_le _) (by omega) | exact Nat.le_trans (addAll_le (ok_flat h0)) (by omega) | (simp; done)) (by first | omega | (have q := g5 _ (List.mem_of_getElem? (by assumption)); omega) | (have q := s5 _ (List.mem_of_getElem? (by assumption)); omega) | (rw [g1]; omega) | (rw [hx.1]; omega) | exact ok_flat h0 | exact fun x hx => ⟨by have := s5 x hx; omega, by have := s5 x hx; omega, by have := s5 x hx; omega⟩ | (refine Nat.le_trans (kj_len _) ?_; rw [g1]; omega) | (refine Nat.le_trans (sj_len _) ?_; rw [g1]; omega) | exact Nat.le_trans (insAll_le _) (by omega) | exact Nat.le_trans (addAll_le (ok_flat h0)) (by omega) | (simp; done)) (by first | omega | (have q := g5 _ (List.mem_of_getElem? (by assumption)); omega) | (have q := s5 _ (List.mem_of_getElem? (by assumption)); omega) | (rw [g1]; omega) | (rw [hx.1]; omega) | exact ok_flat h0 | exact fun x hx => ⟨by have := s5 x hx; omega, by have := s5 x hx; omega, by have := s5 x hx; omega⟩ | (refine Nat.le_trans (kj_len _) ?_; rw [g1]; omega) | (refine Nat.le_trans (sj_len _) ?_; rw [g1]; omega) | exact Nat.le_trans (insAll_le _) (by omega) | exact Nat.le_trans (addAll_le (ok_flat h0)) (by omega) | (simp; done)) (by first | omega | (have q := g5 _ (List.mem_of_getElem? (by assumption)); omega) | (have q := s5 _ (List.mem_of_getElem? (by assumption)); omega) | (rw [g1]; omega) | (rw [hx.1]; omega) | exact ok_flat h0 | exact fun x hx => ⟨by have := s5 x hx; omega, by have := s5 x hx; omega, by have := s5 x hx; omega⟩ | (refine Nat.le_trans (kj_len _) ?_; rw [g1]; omega) | (refine Nat.le_trans (sj_len _) ?_; rw [g1]; omega) | exact Nat.le_trans (insAll_le _) (by omega) | exact Nat.le_trans (addAll_le (ok_flat h0)) (by omega) | (simp; done)) (by first | omega | (have q := g5 _ (List.mem_of_getElem? (by assumption)); omega) | (have q := s5 _ (List.mem_of_getElem? (by assumption)); omega) | (rw [g1]; omega) | (rw [hx.1]; omega) | exact ok_flat h0 | exact fun x hx => ⟨by have := s5 x hx; omega, by have := s5 x hx; omega, by have := s5 x hx; omega⟩ | (refine Nat.le_trans (kj_len _) ?_; rw [g1]; omega) | (refine Nat.le_trans (sj_len _) ?_; rw [g1]; omega) | exact Nat.le_trans (insAll_le _) (by omega) | exact Nat.le_trans (addAll_le (ok_flat h0)) (by omega) | (simp; done)) _)) (by kernel_rfl) (by kernel_rfl) (below_len (k := 1) (by kernel_rfl) (all1 (.inr (read_again (by kernel_rfl) (Eq.trans (b := .agg #[inlL kcells 2 (kj (flatR fm)), inlL scells 3 (sj (flatS fm)), inlL kcells 2 (kj (flatW fm))]) (by kernel_rfl) (by kernel_rfl)))))) ?_
      refine dB 12 [.agg #[inlL kcells 2 (kj (flatR fm)), inlL scells 3 (sj (flatS fm)), inlL kcells 2 (kj (flatW fm))], .agg #[inlL kcells 2 (insAll (flatR l)), inlL scells 3 (addAll (flatS l)), inlL kcells 2 (insAll (flatW l))]] (decide ((kj (flatR fm)) = (insAll (flatR l)) ∧ (sj (flatS fm)) = (addAll (flatS l)) ∧ (kj (flatW fm)) = (insAll (flatW l)))) _ rfl (hC12 _ _ _ _ (con_nfeet_at (kj (flatR fm)) (sj (flatS fm)) (kj (flatW fm)) (insAll (flatR l)) (addAll (flatS l)) (insAll (flatW l)) (by first | omega | (have q := g5 _ (List.mem_of_getElem? (by assumption)); omega) | (have q := s5 _ (List.mem_of_getElem? (by assumption)); omega) | (rw [g1]; omega) | (rw [hx.1]; omega) | exact ok_flat h0 | exact fun x hx => ⟨by have := s5 x hx; omega, by have := s5 x hx; omega, by have := s5 x hx; omega⟩ | (refine Nat.le_trans (kj_len _) ?_; rw [g1]; omega) | (refine Nat.le_trans (sj_len _) ?_; rw [g1]; omega) | exact Nat.le_trans (insAll_le _) (by omega) | exact Nat.le_trans (addAll_le (ok_flat h0)) (by omega) | (simp; done)) (by first | omega | (have q := g5 _ (List.mem_of_getElem? (by assumption)); omega) | (have q := s5 _ (List.mem_of_getElem? (by assumption)); omega) | (rw [g1]; omega) | (rw [hx.1]; omega) | exact ok_flat h0 | exact fun x hx => ⟨by have := s5 x hx; omega, by have := s5 x hx; omega, by have := s5 x hx; omega⟩ | (refine Nat.le_trans (kj_len _) ?_; rw [g1]; omega) | (refine Nat.le_trans (sj_len _) ?_; rw [g1]; omega) | exact Nat.le_trans (insAll_le _) (by omega) | exact Nat.le_trans (addAll_le (ok_flat h0)) (by omega) | (simp; done)) (by first | omega | (have q := g5 _ (List.mem_of_getElem? (by assumption)); omega) | (have q := s5 _ (List.mem_of_getElem? (by assumption)); omega) | (rw [g1]; omega) | (rw [hx.1]; omega) | exact ok_flat h0 | exact fun x hx => ⟨by have := s5 x hx; omega, by have := s5 x hx; omega, by have := s5 x hx; omega⟩ | (refine Nat.le_trans (kj_len _) ?_; rw [g1]; omega) | (refine Nat.le_trans (sj_len _) ?_; rw [g1]; omega) | exact Nat.le_trans (insAll_le _) (by omega) | exact Nat.le_trans (addAll_le (ok_flat h0)) (by omega) | (simp; done)) (by first | omega | (have q := g5 _ (List.mem_of_getElem? (by assumption)); omega) | (have q := s5 _ (List.mem_of_getElem? (by assumption)); omega) | (rw [g1]; omega) | (rw [hx.1]; omega) | exact ok_flat h0 | exact fun x hx => ⟨by have := s5 x hx; omega, by have := s5 x hx; omega, by have := s5 x hx; omega⟩ | (refine Nat.le_trans (kj_len _) ?_; rw [g1]; omega) | (refine Nat.le_trans (sj_len _) ?_; rw [g1]; omega) | exact Nat.le_trans (insAll_le _) (by omega) | exact Nat.le_trans (addAll_le (ok_flat h0)) (by omega) | (simp; done)) (by first | omega | (have q := g5 _ (List.mem_of_getElem? (by assumption)); omega) | (have q := s5 _ (List.mem_of_getElem? (by assumption)); omega) | (rw [g1]; omega) | (rw [hx.1]; omega) | exact ok_flat h0 | exact fun x hx => ⟨by have := s5 x hx; omega, by have := s5 x hx; omega, by have := s5 x hx; omega⟩ | (refine Nat.le_trans (kj_len _) ?_; rw [g1]; omega) | (refine Nat.le_trans (sj_len _) ?_; rw [g1]; omega) | exact Nat.le_trans (insAll_le _) (by omega) | exact Nat.le_trans (addAll_le (ok_flat h0)) (by omega) | (simp; done)) (by first | omega | (have q := g5 _ (List.mem_of_getElem? (by assumption)); omega) | (have q := s5 _ (List.mem_of_getElem? (by assumption)); omega) | (rw [g1]; omega) | (rw [hx.1]; omega) | exact ok_flat h0 | exact fun x hx => ⟨by have := s5 x hx; omega, by have := s5 x hx; omega, by have := s5 x hx; omega⟩ | (refine Nat.le_trans (kj_len _) ?_; rw [g1]; omega) | (refine Nat.le_trans (sj_len _) ?_; rw [g1]; omega) | exact Nat.le_trans (insAll_le _) (by omega) | exact Nat.le_trans (addAll_le (ok_flat h0)) (by omega) | (simp; done)) _)) (fun h33 => ?_) (fun h33 => ?_)
      · have c34 : (kj (flatR fm)) = (insAll (flatR l)) ∧ (sj (flatS fm)) = (addAll (flatS l)) ∧ (kj (flatW fm)) = (insAll (flatW l)) := of_decide_eq_true h33
        clear h33
        refine dK 3 ?_
        refine dC 17 [.agg #[inlL kcells 2 (kj (flatR fm)), inlL scells 3 (sj (flatS fm)), inlL kcells 2 (kj (flatW fm))], .agg #[.int .i64 kt, .int .i64 kk]] (.bool (decide (readsP (kj (flatR fm)) (sj (flatS fm)) kt kk))) _ rfl (hC17 _ _ _ _ (con_readsF_at (kj (flatR fm)) (sj (flatS fm)) (kj (flatW fm)) kt kk (by first | omega | (have q := g5 _ (List.mem_of_getElem? (by assumption)); omega) | (have q := s5 _ (List.mem_of_getElem? (by assumption)); omega) | (rw [g1]; omega) | (rw [hx.1]; omega) | exact ok_flat h0 | exact fun x hx => ⟨by have := s5 x hx; omega, by have := s5 x hx; omega, by have := s5 x hx; omega⟩ | (refine Nat.le_trans (kj_len _) ?_; rw [g1]; omega) | (refine Nat.le_trans (sj_len _) ?_; rw [g1]; omega) | exact Nat.le_trans (insAll_le _) (by omega) | exact Nat.le_trans (addAll_le (ok_flat h0)) (by omega) | (simp; done)) (by first | omega | (have q := g5 _ (List.mem_of_getElem? (by assumption)); omega) | (have q := s5 _ (List.mem_of_getElem? (by assumption)); omega) | (rw [g1]; omega) | (rw [hx.1]; omega) | exact ok_flat h0 | exact fun x hx => ⟨by have := s5 x hx; omega, by have := s5 x hx; omega, by have := s5 x hx; omega⟩ | (refine Nat.le_trans (kj_len _) ?_; rw [g1]; omega) | (refine Nat.le_trans (sj_len _) ?_; rw [g1]; omega) | exact Nat.le_trans (insAll_le _) (by omega) | exact Nat.le_trans (addAll_le (ok_flat h0)) (by omega) | (simp; done)) _)) ?_
        refine dK 1 ?_
        refine dE (v := .bool (((decide (readsP (kj (flatR fm)) (sj (flatS fm)) kt kk)) == rd))) (.bool true) (congrArg Value.bool (eql_of' (by first | exact reads_any g1 h0 g2 | exact writes_any g1 g3))) ?_
        refine dK 4 ?_
        refine dC 18 [.agg #[inlL kcells 2 (kj (flatR fm)), inlL scells 3 (sj (flatS fm)), inlL kcells 2 (kj (flatW fm))], .agg #[.int .i64 kt, .int .i64 kk]] (.bool (decide (hasK (kj (flatW fm)) kt kk))) _ rfl (hC18 _ _ _ _ (con_writesP_at (kj (flatR fm)) (sj (flatS fm)) (kj (flatW fm)) kt kk (by first | omega | (have q := g5 _ (List.mem_of_getElem? (by assumption)); omega) | (have q := s5 _ (List.mem_of_getElem? (by assumption)); omega) | (rw [g1]; omega) | (rw [hx.1]; omega) | exact ok_flat h0 | exact fun x hx => ⟨by have := s5 x hx; omega, by have := s5 x hx; omega, by have := s5 x hx; omega⟩ | (refine Nat.le_trans (kj_len _) ?_; rw [g1]; omega) | (refine Nat.le_trans (sj_len _) ?_; rw [g1]; omega) | exact Nat.le_trans (insAll_le _) (by omega) | exact Nat.le_trans (addAll_le (ok_flat h0)) (by omega) | (simp; done)) _)) ?_
        refine dK 1 ?_
        refine dE (v := .bool (((decide (hasK (kj (flatW fm)) kt kk)) == wd))) (.bool true) (congrArg Value.bool (eql_of' (by first | exact reads_any g1 h0 g2 | exact writes_any g1 g3))) ?_
        refine dK 2 ?_
        refine ald_nil ?_
        refine sk_ret ?_
        exact ⟨[.bool true], by kernel_rfl, .same (sub_clo rfl), Nat.le_of_ble_eq_true (by kernel_rfl)⟩
      · have c34 : ¬ ((kj (flatR fm)) = (insAll (flatR l)) ∧ (sj (flatS fm)) = (addAll (flatS l)) ∧ (kj (flatW fm)) = (insAll (flatW l))) := of_decide_eq_false h33
        clear h33
        refine dK 15 ?_
        refine ald_nil ?_
        refine sk_ret ?_
        exact ⟨[.bool false], by kernel_rfl, fs_to (fs_clo rfl) (congrArg Value.bool (by first | rfl | exact absurd (join_ref g1 h0) (by assumption) | exact hx.elim)), Nat.le_of_ble_eq_true (by kernel_rfl)⟩
    ·
      obtain ⟨i, ea⟩ : ∃ z, z = a := ⟨_, rfl⟩
      subst ea
      obtain ⟨g0, g1, g2, g3, g4, g5⟩ := ha
      dsimp only
      exact ⟨[.bool false], by kernel_rfl, fs_to (fs_clo rfl) (congrArg Value.bool (by first | rfl | exact absurd (join_ref g1 h0) (by assumption) | exact hx.elim)), Nat.le_of_ble_eq_true (by kernel_rfl)⟩
end Go.Proofs.Ytekeepgjegkedaa