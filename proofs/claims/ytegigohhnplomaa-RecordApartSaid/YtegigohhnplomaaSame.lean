/- Two lists, two feet, two programs: the same? -/
import Derived.Test.YtegigohhnplomaaBase
set_option linter.unusedVariables false
set_option linter.unusedSimpArgs false
set_option linter.unnecessarySimpa false
namespace Go.Proofs.Ytegigohhnplomaa
open Go.Ai
theorem nkeys_fn : Try.cfg.fn 42 = some Try.f42 := by kernel_rfl
set_option maxHeartbeats 4000000 in
set_option maxRecDepth 100000 in
theorem nkeys_sc (la : List Key) (lb : List Key) (h0 : la.length ≤ 1000000) (h1 : lb.length ≤ 1000000) : SC Try.prog 0 42 [inlL kcells 2 la, inlL kcells 2 lb] (St.empty 0) fun v s' => v = .bool (decide (la = lb)) ∧ s'.n ≤ 400 := by
  have hS := sound_run Try.cfgOk 300
  refine sc_ice0 (N := 400) (v2 := .bool (decide (la = lb))) (Q := fun v s' => FS 0 s' v (.bool (decide (la = lb))) ∧ s'.n ≤ 400) ?_ (fun _ _ h => h)
  refine sc_body Try.cfgOk nkeys_fn rfl ?_
  refine sk_seq ?_
  refine sk_regionK Try.cfgOk hS (by kernel_rfl) ?_
  refine sk_seq (sk_seq ?_)
  refine sk_regionL Try.cfgOk hS ?_
  refine al_chunk 1 (by kernel_rfl) ?_
  refine al_map (lenB Try.cfg (St.empty 0) 25 (inlL kcells 2 la)) (.int .i64 ((la.length : Nat) : Int)) (by kernel_rfl) (by kernel_rfl) (by kernel_rfl) (len_inl tokC (by kernel_rfl)) ?_
  refine al_chunk 1 (by kernel_rfl) ?_
  refine al_map (lenB Try.cfg (St.empty 0) 25 (inlL kcells 2 lb)) (.int .i64 ((lb.length : Nat) : Int)) (by kernel_rfl) (by kernel_rfl) (by kernel_rfl) (len_inl tokC (by kernel_rfl)) ?_
  refine al_test (by kernel_rfl) (by kernel_rfl) (by kernel_rfl) (fun h1 => ?_) (fun h1 => ?_)
  · have c2e : ((((la.length : Nat) : Int) : Int) != ((lb.length : Nat) : Int)) = true := Eq.trans (by kernel_rfl) h1
    clear h1
    have c2 : ¬ (((la.length : Nat) : Int) : Int) = ((lb.length : Nat) : Int) := bne_iff_ne.1 c2e
    clear c2e
    refine al_nil ?_
    refine sk_true (by kernel_rfl) ?_
    refine sk_seq ?_
    refine sk_regionK Try.cfgOk hS (by kernel_rfl) ?_
    refine sk_ret ?_
    exact ⟨[.bool false], by kernel_rfl, fs_to (fs_clo rfl) (congrArg Value.bool (by first | exact (decide_eq_false (by assumption)).symm | exact (decide_eq_true (take_all (by assumption) (by assumption) (by omega))).symm | exact (decide_eq_false (fun e => by subst e; omega)).symm)), Nat.le_of_ble_eq_true (by kernel_rfl)⟩
  · have c2e : ((((la.length : Nat) : Int) : Int) != ((lb.length : Nat) : Int)) = false := Eq.trans (by kernel_rfl) h1
    clear h1
    have c2 : (((la.length : Nat) : Int) : Int) = ((lb.length : Nat) : Int) := bne_eq_false_iff_eq.1 c2e
    clear c2e
    refine al_nil ?_
    refine sk_false (by kernel_rfl) ?_
    refine sk_skip (sk_seq (sk_seq ?_))
    refine sk_regionL Try.cfgOk hS ?_
    refine al_chunk 1 (by kernel_rfl) ?_
    refine al_map (lenB Try.cfg (St.empty 0) 25 (inlL kcells 2 la)) (.int .i64 ((la.length : Nat) : Int)) (by kernel_rfl) (by kernel_rfl) (by kernel_rfl) (len_inl tokC (by kernel_rfl)) ?_
    refine al_known (by kernel_rfl) ?_
    refine sk_block ?_
    refine sk_live 26 ((fun a : Nat => [(0, inlL kcells 2 la), (1, inlL kcells 2 lb), (12, .int .i64 ((la.length : Nat) : Int)), (13, .int .i64 ((a : Nat) : Int))]) 0) (by kernel_rfl) ⟨by kernel_rfl, by kernel_rfl, by kernel_rfl, by kernel_rfl, trivial⟩ fun m3 => ?_
    refine sk_st ((fun a : Nat => (St.empty 0)) 0) (by kernel_rfl) ?_
    refine (sk_while (k := 0) (N := 400) (live := (fun a : Nat => [(0, inlL kcells 2 la), (1, inlL kcells 2 lb), (12, .int .i64 ((la.length : Nat) : Int)), (13, .int .i64 ((a : Nat) : Int))])) (M := (fun a : Nat => (St.empty 0))) (fun a : Nat => (a ≤ la.length) ∧ (la.take a = lb.take a)) (fun a : Nat => la.length - a) (fun (a : Nat) (o : Out) (lv : List (Nat × Value)) (M : St) => (o = .exit 0 ∧ (¬ a < la.length) ∧ lv = [(0, inlL kcells 2 la), (1, inlL kcells 2 lb), (12, .int .i64 ((la.length : Nat) : Int)), (13, .int .i64 ((a : Nat) : Int))] ∧ M = (St.empty 0)) ∨ (o = .ret ∧ (¬ la = lb) ∧ lv = [(4, .bool false)] ∧ M = (St.empty 0))) (Nat.zero_le _) (fun a ha => ?_) (fun a ha => ?_) (fun a m ha => ?_) (fun a m ha => ?_) 0 m3 ?_).up ?_
    · exact ⟨by kernel_rfl, (wf_empty 0), (fun i hi => absurd hi (Nat.not_lt_zero i))⟩
    · exact ⟨sub_clo rfl, sub_clo rfl, sub_clo rfl, sub_clo rfl, trivial⟩
    · exact ⟨by kernel_rfl, by kernel_rfl, by kernel_rfl, by kernel_rfl, trivial⟩
    · obtain ⟨i, ea⟩ : ∃ z, z = a := ⟨_, rfl⟩
      subst ea
      obtain ⟨i0, i1⟩ := ha
      refine sk_seq ?_
      refine sk_regionL Try.cfgOk hS ?_
      refine al_test (by kernel_rfl) (by kernel_rfl) (by kernel_rfl) (fun h4 => ?_) (fun h4 => ?_)
      · have c5e : (decide ((((i : Nat) : Int) : Int) < ((la.length : Nat) : Int))) = true := Eq.trans (by kernel_rfl) h4
        clear h4
        have c5 : (((i : Nat) : Int) : Int) < ((la.length : Nat) : Int) := of_decide_eq_true c5e
        clear c5e
        refine al_nil ?_
        refine sk_seq ?_
        refine sk_true (by kernel_rfl) ?_
        refine sk_skip (sk_seq (sk_block (sk_seq ?_)))
        refine sk_regionK Try.cfgOk hS (by kernel_rfl) ?_
        refine sk_seq ?_
        refine sk_drawL Try.cfgOk hS ?_
        refine ald_chunk 2 (by kernel_rfl) ?_
        refine ald_mapL (indexAddrV Try.cfg 25 (inlL kcells 2 la) (.int .i64 ((i : Nat) : Int))) (elt (flatL kcells la) (i * 2)) (by kernel_rfl) (by kernel_rfl) (by kernel_rfl) (idx_inlL tokC (by kernel_rfl) (by first | omega | simp)) (by kernel_rfl) ?_
        have hx6l : i < la.length := by omega
        refine Exists.elim (get_ex hx6l) fun x6 hx6 => ?_
        clear hx6l
        refine ald_mapL (loadV Try.cfg (St.empty 0) 48 (elt (flatL kcells la) (i * 2))) (.agg #[.int .i64 x6.1, .int .i64 x6.2]) (by kernel_rfl) (by kernel_rfl) (by kernel_rfl) (load_el tokC (by kernel_rfl) kcells_len hx6) (by kernel_rfl) ?_
        refine ald_chunk 2 (by kernel_rfl) ?_
        refine ald_mapL (indexAddrV Try.cfg 25 (inlL kcells 2 lb) (.int .i64 ((i : Nat) : Int))) (elt (flatL kcells lb) (i * 2)) (by kernel_rfl) (by kernel_rfl) (by kernel_rfl) (idx_inlL tokC (by kernel_rfl) (by first | omega | simp)) (by kernel_rfl) ?_
        have hx7l : i < lb.length := by omega
        refine Exists.elim (get_ex hx7l) fun x7 hx7 => ?_
        clear hx7l
        refine ald_mapL (loadV Try.cfg (St.empty 0) 48 (elt (flatL kcells lb) (i * 2))) (.agg #[.int .i64 x7.1, .int .i64 x7.2]) (by kernel_rfl) (by kernel_rfl) (by kernel_rfl) (load_el tokC (by kernel_rfl) kcells_len hx7) (by kernel_rfl) ?_
        refine ald_test (by kernel_rfl) (by kernel_rfl) (by kernel_rfl) (fun b => by kernel_rfl) (fun h8 => ?_) (fun h8 => ?_)
        · have c9e : (!((x6.1 == x7.1) && ((x6.2 == x7.2) && true))) = true := Eq.trans (by kernel_rfl) h8
          clear h8
          have c9 : ¬ (x6.1 = x7.1 ∧ x6.2 = x7.2) := fun q => Bool.noConfusion (((not_t c9e)).symm.trans (and_i (beq_iff_eq.2 q.1) (and_i (beq_iff_eq.2 q.2) (rfl))))
          clear c9e
          refine ald_nil ?_
          refine sk_true (by kernel_rfl) ?_
          refine sk_seq ?_
          refine sk_regionK Try.cfgOk hS (by kernel_rfl) ?_
          refine sk_ret ?_
          refine .inr ⟨_, _, (fun h => by cases h), .inr ⟨rfl, ?_, rfl, rfl⟩, ⟨by kernel_rfl, ⟨by kernel_rfl, trivial⟩, ⟨sub_clo rfl, trivial⟩, Nat.le_of_ble_eq_true (by kernel_rfl), ⟨by kernel_rfl, (wf_empty 0), (fun i hi => absurd hi (Nat.not_lt_zero i))⟩, mem_all (by kernel_rfl)⟩⟩
          · refine ne_at (by assumption) (by assumption) (fun e => ?_); subst e; simp_all
        · have c9e : (!((x6.1 == x7.1) && ((x6.2 == x7.2) && true))) = false := Eq.trans (by kernel_rfl) h8
          clear h8
          have c9 : x6.1 = x7.1 ∧ x6.2 = x7.2 := ⟨eq_of_beq (and_l (not_f c9e)), eq_of_beq (and_l (and_r (not_f c9e)))⟩
          clear c9e
          refine ald_nil ?_
          refine sk_false (by kernel_rfl) ?_
          refine sk_skip ?_
          refine sk_regionL Try.cfgOk hS ?_
          refine al_eqv (v := .int .i64 (IntKind.wrap .i64 (((i : Nat) : Int) + 1))) (.int .i64 ((i + 1 : Nat) : Int)) (by kernel_rfl) (by kernel_rfl) (by kernel_rfl) (congrArg (Value.int .i64) (wrap_to (by omega) (by omega))) ?_
          refine al_known (by kernel_rfl) ?_
          refine .inl ⟨i + 1, rfl, ⟨?_, ?_⟩, ?_, ⟨by kernel_rfl, ⟨by kernel_rfl, by kernel_rfl, by kernel_rfl, by kernel_rfl, trivial⟩, ⟨sub_clo rfl, sub_clo rfl, sub_clo rfl, sub_clo rfl, trivial⟩, Nat.le_of_ble_eq_true (by kernel_rfl), ⟨by kernel_rfl, (wf_empty 0), (fun i hi => absurd hi (Nat.not_lt_zero i))⟩, mem_all (by kernel_rfl)⟩⟩
          · (try dsimp only); omega
          · (try dsimp only); exact take_eq_succ (by assumption) (by assumption) (by assumption) (by exact Prod.ext (by omega) (by omega))
          · omega
      · have c5e : (decide ((((i : Nat) : Int) : Int) < ((la.length : Nat) : Int))) = false := Eq.trans (by kernel_rfl) h4
        clear h4
        have c5 : ¬ (((i : Nat) : Int) : Int) < ((la.length : Nat) : Int) := of_decide_eq_false c5e
        clear c5e
        refine al_nil ?_
        refine sk_seq ?_
        refine sk_false (by kernel_rfl) ?_
        refine sk_exit ?_
        dsimp only
        refine .inr ⟨_, _, (fun h => by cases h), .inl ⟨rfl, ?_, rfl, rfl⟩, ⟨by kernel_rfl, ⟨by kernel_rfl, by kernel_rfl, by kernel_rfl, by kernel_rfl, trivial⟩, ⟨sub_clo rfl, sub_clo rfl, sub_clo rfl, sub_clo rfl, trivial⟩, Nat.le_of_ble_eq_true (by kernel_rfl), ⟨by kernel_rfl, (wf_empty 0), (fun i hi => absurd hi (Nat.not_lt_zero i))⟩, mem_all (by kernel_rfl)⟩⟩
        · omega
    · exact ⟨by ((try dsimp only); first | done | (omega)), by ((try dsimp only); first | done | (rfl))⟩
    rintro o e1 s1 ⟨a, lv1, M1, m3, ha, (⟨rfl, hx, rfl, rfl⟩ | ⟨rfl, hx, rfl, rfl⟩), rfl, rfl⟩
    ·
      obtain ⟨i, ea⟩ : ∃ z, z = a := ⟨_, rfl⟩
      subst ea
      obtain ⟨i0, i1⟩ := ha
      dsimp only
      try rw [if_pos rfl]
      refine sk_seq ?_
      refine sk_regionK Try.cfgOk hS (by kernel_rfl) ?_
      refine sk_ret ?_
      exact ⟨[.bool true], by kernel_rfl, fs_to (fs_clo rfl) (congrArg Value.bool (by first | exact (decide_eq_false (by assumption)).symm | exact (decide_eq_true (take_all (by assumption) (by assumption) (by omega))).symm | exact (decide_eq_false (fun e => by subst e; omega)).symm)), Nat.le_of_ble_eq_true (by kernel_rfl)⟩
    ·
      obtain ⟨i, ea⟩ : ∃ z, z = a := ⟨_, rfl⟩
      subst ea
      obtain ⟨i0, i1⟩ := ha
      dsimp only
      exact ⟨[.bool false], by kernel_rfl, fs_to (fs_clo rfl) (congrArg Value.bool (by first | exact (decide_eq_false (by assumption)).symm | exact (decide_eq_true (take_all (by assumption) (by assumption) (by omega))).symm | exact (decide_eq_false (fun e => by subst e; omega)).symm)), Nat.le_of_ble_eq_true (by kernel_rfl)⟩
noncomputable def con_nkeys : Con Try.prog 0 := Con.pure (α := (List Key) × (List Key)) 42 (fun z9 => [inlL kcells 2 z9.1, inlL kcells 2 z9.2]) (fun z9 => .bool (decide (z9.1 = z9.2))) (fun z9 => (z9.1.length ≤ 1000000) ∧ (z9.2.length ≤ 1000000)) (by
  rintro ⟨a0, a1⟩ ⟨b0, b1⟩ h
  simp only [List.cons.injEq, and_true, Int.natCast_inj, UInt8.toNat_inj, Value.int.injEq, Value.bool.injEq, Value.string.injEq, Value.agg.injEq, Array.mk.injEq, true_and, kcells_iff] at h
  first | exact h | (simp only [Prod.ext_iff, h, and_self, and_true, true_and]; done) | simp_all [Prod.ext_iff]) (fun _ => rfl) (fun _ => rfl) 400 (by
  rintro ⟨a0, a1⟩ ⟨p0, p1⟩
  exact nkeys_sc a0 a1 p0 p1)
theorem con_nkeys_at (la : List Key) (lb : List Key) (h0 : la.length ≤ 1000000) (h1 : lb.length ≤ 1000000) (s : St) : con_nkeys.rel [inlL kcells 2 la, inlL kcells 2 lb] s (.bool (decide (la = lb))) s := con_pure (la, lb) ⟨h0, h1⟩ s
theorem nwrites_fn : Try.cfg.fn 20 = some Try.f20 := by kernel_rfl
set_option maxHeartbeats 4000000 in
set_option maxRecDepth 100000 in
theorem nwrites_sc (la : List Wr) (lb : List Wr) (h0 : la.length ≤ 1000000) (h1 : lb.length ≤ 1000000) : SC Try.prog 0 20 [inlL wcells 4 la, inlL wcells 4 lb] (St.empty 0) fun v s' => v = .bool (decide (la = lb)) ∧ s'.n ≤ 400 := by
  have hS := sound_run Try.cfgOk 300
  refine sc_ice0 (N := 400) (v2 := .bool (decide (la = lb))) (Q := fun v s' => FS 0 s' v (.bool (decide (la = lb))) ∧ s'.n ≤ 400) ?_ (fun _ _ h => h)
  refine sc_body Try.cfgOk nwrites_fn rfl ?_
  refine sk_seq ?_
  refine sk_regionK Try.cfgOk hS (by kernel_rfl) ?_
  refine sk_seq (sk_seq ?_)
  refine sk_regionL Try.cfgOk hS ?_
  refine al_chunk 1 (by kernel_rfl) ?_
  refine al_map (lenB Try.cfg (St.empty 0) 29 (inlL wcells 4 la)) (.int .i64 ((la.length : Nat) : Int)) (by kernel_rfl) (by kernel_rfl) (by kernel_rfl) (len_inl tokC (by kernel_rfl)) ?_
  refine al_chunk 1 (by kernel_rfl) ?_
  refine al_map (lenB Try.cfg (St.empty 0) 29 (inlL wcells 4 lb)) (.int .i64 ((lb.length : Nat) : Int)) (by kernel_rfl) (by kernel_rfl) (by kernel_rfl) (len_inl tokC (by kernel_rfl)) ?_
  refine al_test (by kernel_rfl) (by kernel_rfl) (by kernel_rfl) (fun h1 => ?_) (fun h1 => ?_)
  · have c2e : ((((la.length : Nat) : Int) : Int) != ((lb.length : Nat) : Int)) = true := Eq.trans (by kernel_rfl) h1
    clear h1
    have c2 : ¬ (((la.length : Nat) : Int) : Int) = ((lb.length : Nat) : Int) := bne_iff_ne.1 c2e
    clear c2e
    refine al_nil ?_
    refine sk_true (by kernel_rfl) ?_
    refine sk_seq ?_
    refine sk_regionK Try.cfgOk hS (by kernel_rfl) ?_
    refine sk_ret ?_
    exact ⟨[.bool false], by kernel_rfl, fs_to (fs_clo rfl) (congrArg Value.bool (by first | exact (decide_eq_false (by assumption)).symm | exact (decide_eq_true (take_all (by assumption) (by assumption) (by omega))).symm | exact (decide_eq_false (fun e => by subst e; omega)).symm)), Nat.le_of_ble_eq_true (by kernel_rfl)⟩
  · have c2e : ((((la.length : Nat) : Int) : Int) != ((lb.length : Nat) : Int)) = false := Eq.trans (by kernel_rfl) h1
    clear h1
    have c2 : (((la.length : Nat) : Int) : Int) = ((lb.length : Nat) : Int) := bne_eq_false_iff_eq.1 c2e
    clear c2e
    refine al_nil ?_
    refine sk_false (by kernel_rfl) ?_
    refine sk_skip (sk_seq (sk_seq ?_))
    refine sk_regionL Try.cfgOk hS ?_
    refine al_chunk 1 (by kernel_rfl) ?_
    refine al_map (lenB Try.cfg (St.empty 0) 29 (inlL wcells 4 la)) (.int .i64 ((la.length : Nat) : Int)) (by kernel_rfl) (by kernel_rfl) (by kernel_rfl) (len_inl tokC (by kernel_rfl)) ?_
    refine al_known (by kernel_rfl) ?_
    refine sk_block ?_
    refine sk_live 26 ((fun a : Nat => [(0, inlL wcells 4 la), (1, inlL wcells 4 lb), (12, .int .i64 ((la.length : Nat) : Int)), (13, .int .i64 ((a : Nat) : Int))]) 0) (by kernel_rfl) ⟨by kernel_rfl, by kernel_rfl, by kernel_rfl, by kernel_rfl, trivial⟩ fun m3 => ?_
    refine sk_st ((fun a : Nat => (St.empty 0)) 0) (by kernel_rfl) ?_
    refine (sk_while (k := 0) (N := 400) (live := (fun a : Nat => [(0, inlL wcells 4 la), (1, inlL wcells 4 lb), (12, .int .i64 ((la.length : Nat) : Int)), (13, .int .i64 ((a : Nat) : Int))])) (M := (fun a : Nat => (St.empty 0))) (fun a : Nat => (a ≤ la.length) ∧ (la.take a = lb.take a)) (fun a : Nat => la.length - a) (fun (a : Nat) (o : Out) (lv : List (Nat × Value)) (M : St) => (o = .exit 0 ∧ (¬ a < la.length) ∧ lv = [(0, inlL wcells 4 la), (1, inlL wcells 4 lb), (12, .int .i64 ((la.length : Nat) : Int)), (13, .int .i64 ((a : Nat) : Int))] ∧ M = (St.empty 0)) ∨ (o = .ret ∧ (¬ la = lb) ∧ lv = [(4, .bool false)] ∧ M = (St.empty 0))) (Nat.zero_le _) (fun a ha => ?_) (fun a ha => ?_) (fun a m ha => ?_) (fun a m ha => ?_) 0 m3 ?_).up ?_
    · exact ⟨by kernel_rfl, (wf_empty 0), (fun i hi => absurd hi (Nat.not_lt_zero i))⟩
    · exact ⟨sub_clo rfl, sub_clo rfl, sub_clo rfl, sub_clo rfl, trivial⟩
    · exact ⟨by kernel_rfl, by kernel_rfl, by kernel_rfl, by kernel_rfl, trivial⟩
    · obtain ⟨i, ea⟩ : ∃ z, z = a := ⟨_, rfl⟩
      subst ea
      obtain ⟨i0, i1⟩ := ha
      refine sk_seq ?_
      refine sk_regionL Try.cfgOk hS ?_
      refine al_test (by kernel_rfl) (by kernel_rfl) (by kernel_rfl) (fun h4 => ?_) (fun h4 => ?_)
      · have c5e : (decide ((((i : Nat) : Int) : Int) < ((la.length : Nat) : Int))) = true := Eq.trans (by kernel_rfl) h4
        clear h4
        have c5 : (((i : Nat) : Int) : Int) < ((la.length : Nat) : Int) := of_decide_eq_true c5e
        clear c5e
        refine al_nil ?_
        refine sk_seq ?_
        refine sk_true (by kernel_rfl) ?_
        refine sk_skip (sk_seq (sk_block (sk_seq ?_)))
        refine sk_regionK Try.cfgOk hS (by kernel_rfl) ?_
        refine sk_seq ?_
        refine sk_drawL Try.cfgOk hS ?_
        refine ald_chunk 2 (by kernel_rfl) ?_
        refine ald_mapL (indexAddrV Try.cfg 29 (inlL wcells 4 la) (.int .i64 ((i : Nat) : Int))) (elt (flatL wcells la) (i * 4)) (by kernel_rfl) (by kernel_rfl) (by kernel_rfl) (idx_inlL tokC (by kernel_rfl) (by first | omega | simp)) (by kernel_rfl) ?_
        have hx6l : i < la.length := by omega
        refine Exists.elim (get_ex hx6l) fun x6 hx6 => ?_
        clear hx6l
        refine ald_mapL (loadV Try.cfg (St.empty 0) 50 (elt (flatL wcells la) (i * 4))) (.agg #[.int .i64 x6.1, .int .i64 x6.2.1, .int .i64 x6.2.2.1, .bool x6.2.2.2]) (by kernel_rfl) (by kernel_rfl) (by kernel_rfl) (load_el tokC (by kernel_rfl) wcells_len hx6) (by kernel_rfl) ?_
        refine ald_chunk 2 (by kernel_rfl) ?_
        refine ald_mapL (indexAddrV Try.cfg 29 (inlL wcells 4 lb) (.int .i64 ((i : Nat) : Int))) (elt (flatL wcells lb) (i * 4)) (by kernel_rfl) (by kernel_rfl) (by kernel_rfl) (idx_inlL tokC (by kernel_rfl) (by first | omega | simp)) (by kernel_rfl) ?_
        have hx7l : i < lb.length := by omega
        refine Exists.elim (get_ex hx7l) fun x7 hx7 => ?_
        clear hx7l
        refine ald_mapL (loadV Try.cfg (St.empty 0) 50 (elt (flatL wcells lb) (i * 4))) (.agg #[.int .i64 x7.1, .int .i64 x7.2.1, .int .i64 x7.2.2.1, .bool x7.2.2.2]) (by kernel_rfl) (by kernel_rfl) (by kernel_rfl) (load_el tokC (by kernel_rfl) wcells_len hx7) (by kernel_rfl) ?_
        refine ald_test (by kernel_rfl) (by kernel_rfl) (by kernel_rfl) (fun b => by kernel_rfl) (fun h8 => ?_) (fun h8 => ?_)
        · have c9e : (!((x6.1 == x7.1) && ((x6.2.1 == x7.2.1) && ((x6.2.2.1 == x7.2.2.1) && ((x6.2.2.2 == x7.2.2.2) && true))))) = true := Eq.trans (by kernel_rfl) h8
          clear h8
          have c9 : ¬ (x6.1 = x7.1 ∧ x6.2.1 = x7.2.1 ∧ x6.2.2.1 = x7.2.2.1 ∧ x6.2.2.2 = x7.2.2.2) := fun q => Bool.noConfusion (((not_t c9e)).symm.trans (and_i (beq_iff_eq.2 q.1) (and_i (beq_iff_eq.2 q.2.1) (and_i (beq_iff_eq.2 q.2.2.1) (and_i (beq_iff_eq.2 q.2.2.2) (rfl))))))
          clear c9e
          refine ald_nil ?_
          refine sk_true (by kernel_rfl) ?_
          refine sk_seq ?_
          refine sk_regionK Try.cfgOk hS (by kernel_rfl) ?_
          refine sk_ret ?_
          refine .inr ⟨_, _, (fun h => by cases h), .inr ⟨rfl, ?_, rfl, rfl⟩, ⟨by kernel_rfl, ⟨by kernel_rfl, trivial⟩, ⟨sub_clo rfl, trivial⟩, Nat.le_of_ble_eq_true (by kernel_rfl), ⟨by kernel_rfl, (wf_empty 0), (fun i hi => absurd hi (Nat.not_lt_zero i))⟩, mem_all (by kernel_rfl)⟩⟩
          · refine ne_at (by assumption) (by assumption) (fun e => ?_); subst e; simp_all
        · have c9e : (!((x6.1 == x7.1) && ((x6.2.1 == x7.2.1) && ((x6.2.2.1 == x7.2.2.1) && ((x6.2.2.2 == x7.2.2.2) && true))))) = false := Eq.trans (by kernel_rfl) h8
          clear h8
          have c9 : x6.1 = x7.1 ∧ x6.2.1 = x7.2.1 ∧ x6.2.2.1 = x7.2.2.1 ∧ x6.2.2.2 = x7.2.2.2 := ⟨eq_of_beq (and_l (not_f c9e)), eq_of_beq (and_l (and_r (not_f c9e))), eq_of_beq (and_l (and_r (and_r (not_f c9e)))), eq_of_beq (and_l (and_r (and_r (and_r (not_f c9e)))))⟩
          clear c9e
          refine ald_nil ?_
          refine sk_false (by kernel_rfl) ?_
          refine sk_skip ?_
          refine sk_regionL Try.cfgOk hS ?_
          refine al_eqv (v := .int .i64 (IntKind.wrap .i64 (((i : Nat) : Int) + 1))) (.int .i64 ((i + 1 : Nat) : Int)) (by kernel_rfl) (by kernel_rfl) (by kernel_rfl) (congrArg (Value.int .i64) (wrap_to (by omega) (by omega))) ?_
          refine al_known (by kernel_rfl) ?_
          refine .inl ⟨i + 1, rfl, ⟨?_, ?_⟩, ?_, ⟨by kernel_rfl, ⟨by kernel_rfl, by kernel_rfl, by kernel_rfl, by kernel_rfl, trivial⟩, ⟨sub_clo rfl, sub_clo rfl, sub_clo rfl, sub_clo rfl, trivial⟩, Nat.le_of_ble_eq_true (by kernel_rfl), ⟨by kernel_rfl, (wf_empty 0), (fun i hi => absurd hi (Nat.not_lt_zero i))⟩, mem_all (by kernel_rfl)⟩⟩
          · (try dsimp only); omega
          · (try dsimp only); exact take_eq_succ (by assumption) (by assumption) (by assumption) (by simp only [Prod.ext_iff]; assumption)
          · omega
      · have c5e : (decide ((((i : Nat) : Int) : Int) < ((la.length : Nat) : Int))) = false := Eq.trans (by kernel_rfl) h4
        clear h4
        have c5 : ¬ (((i : Nat) : Int) : Int) < ((la.length : Nat) : Int) := of_decide_eq_false c5e
        clear c5e
        refine al_nil ?_
        refine sk_seq ?_
        refine sk_false (by kernel_rfl) ?_
        refine sk_exit ?_
        dsimp only
        refine .inr ⟨_, _, (fun h => by cases h), .inl ⟨rfl, ?_, rfl, rfl⟩, ⟨by kernel_rfl, ⟨by kernel_rfl, by kernel_rfl, by kernel_rfl, by kernel_rfl, trivial⟩, ⟨sub_clo rfl, sub_clo rfl, sub_clo rfl, sub_clo rfl, trivial⟩, Nat.le_of_ble_eq_true (by kernel_rfl), ⟨by kernel_rfl, (wf_empty 0), (fun i hi => absurd hi (Nat.not_lt_zero i))⟩, mem_all (by kernel_rfl)⟩⟩
        · omega
    · exact ⟨by ((try dsimp only); first | done | (omega)), by ((try dsimp only); first | done | (rfl))⟩
    rintro o e1 s1 ⟨a, lv1, M1, m3, ha, (⟨rfl, hx, rfl, rfl⟩ | ⟨rfl, hx, rfl, rfl⟩), rfl, rfl⟩
    ·
      obtain ⟨i, ea⟩ : ∃ z, z = a := ⟨_, rfl⟩
      subst ea
      obtain ⟨i0, i1⟩ := ha
      dsimp only
      try rw [if_pos rfl]
      refine sk_seq ?_
      refine sk_regionK Try.cfgOk hS (by kernel_rfl) ?_
      refine sk_ret ?_
      exact ⟨[.bool true], by kernel_rfl, fs_to (fs_clo rfl) (congrArg Value.bool (by first | exact (decide_eq_false (by assumption)).symm | exact (decide_eq_true (take_all (by assumption) (by assumption) (by omega))).symm | exact (decide_eq_false (fun e => by subst e; omega)).symm)), Nat.le_of_ble_eq_true (by kernel_rfl)⟩
    ·
      obtain ⟨i, ea⟩ : ∃ z, z = a := ⟨_, rfl⟩
      subst ea
      obtain ⟨i0, i1⟩ := ha
      dsimp only
      exact ⟨[.bool false], by kernel_rfl, fs_to (fs_clo rfl) (congrArg Value.bool (by first | exact (decide_eq_false (by assumption)).symm | exact (decide_eq_true (take_all (by assumption) (by assumption) (by omega))).symm | exact (decide_eq_false (fun e => by subst e; omega)).symm)), Nat.le_of_ble_eq_true (by kernel_rfl)⟩
noncomputable def con_nwrites : Con Try.prog 0 := Con.pure (α := (List Wr) × (List Wr)) 20 (fun z9 => [inlL wcells 4 z9.1, inlL wcells 4 z9.2]) (fun z9 => .bool (decide (z9.1 = z9.2))) (fun z9 => (z9.1.length ≤ 1000000) ∧ (z9.2.length ≤ 1000000)) (by
  rintro ⟨a0, a1⟩ ⟨b0, b1⟩ h
  simp only [List.cons.injEq, and_true, Int.natCast_inj, UInt8.toNat_inj, Value.int.injEq, Value.bool.injEq, Value.string.injEq, Value.agg.injEq, Array.mk.injEq, true_and, wcells_iff] at h
  first | exact h | (simp only [Prod.ext_iff, h, and_self, and_true, true_and]; done) | simp_all [Prod.ext_iff]) (fun _ => rfl) (fun _ => rfl) 400 (by
  rintro ⟨a0, a1⟩ ⟨p0, p1⟩
  exact nwrites_sc a0 a1 p0 p1)
theorem con_nwrites_at (la : List Wr) (lb : List Wr) (h0 : la.length ≤ 1000000) (h1 : lb.length ≤ 1000000) (s : St) : con_nwrites.rel [inlL wcells 4 la, inlL wcells 4 lb] s (.bool (decide (la = lb))) s := con_pure (la, lb) ⟨h0, h1⟩ s
theorem nfeet_fn : Try.cfg.fn 19 = some Try.f19 := by kernel_rfl
set_option maxHeartbeats 4000000 in
set_option maxRecDepth 100000 in
theorem nfeet_sc (ar : List Key) (az : List Span) (aw : List Key) (br : List Key) (bz : List Span) (bw : List Key) (h0 : ar.length ≤ 1000000) (h1 : az.length ≤ 1000000) (h2 : aw.length ≤ 1000000) (h3 : br.length ≤ 1000000) (h4 : bz.length ≤ 1000000) (h5 : bw.length ≤ 1000000) : SC Try.prog 0 19 [.agg #[inlL kcells 2 ar, inlL scells 3 az, inlL kcells 2 aw], .agg #[inlL kcells 2 br, inlL scells 3 bz, inlL kcells 2 bw]] (St.empty 0) fun v s' => v = .bool (decide (ar = br ∧ az = bz ∧ aw = bw)) ∧ s'.n ≤ 400 := by
  obtain ⟨rc, hS, hC⟩ := rc_con (sound_run Try.cfgOk 300) [con_nkeys] (by kernel_rfl)
  have hC42 := hC con_nkeys (.head _)
  refine sc_ice0 (N := 400) (v2 := .bool (decide (ar = br ∧ az = bz ∧ aw = bw))) (Q := fun v s' => FS 0 s' v (.bool (decide (ar = br ∧ az = bz ∧ aw = bw))) ∧ s'.n ≤ 400) ?_ (fun _ _ h => h)
  refine sc_body Try.cfgOk nfeet_fn rfl ?_
  refine sk_seq ?_
  refine sk_regionK Try.cfgOk hS (by kernel_rfl) ?_
  refine sk_seq (sk_seq ?_)
  refine sk_regionL Try.cfgOk hS ?_
  refine al_chunk 2 (by kernel_rfl) ?_
  refine al_map (lenB Try.cfg (St.empty 0) 26 (inlL scells 3 az)) (.int .i64 ((az.length : Nat) : Int)) (by kernel_rfl) (by kernel_rfl) (by kernel_rfl) (len_inl tokC (by kernel_rfl)) ?_
  refine al_chunk 2 (by kernel_rfl) ?_
  refine al_map (lenB Try.cfg (St.empty 0) 26 (inlL scells 3 bz)) (.int .i64 ((bz.length : Nat) : Int)) (by kernel_rfl) (by kernel_rfl) (by kernel_rfl) (len_inl tokC (by kernel_rfl)) ?_
  refine al_test (by kernel_rfl) (by kernel_rfl) (by kernel_rfl) (fun h1 => ?_) (fun h1 => ?_)
  · have c2e : ((((az.length : Nat) : Int) : Int) != ((bz.length : Nat) : Int)) = true := Eq.trans (by kernel_rfl) h1
    clear h1
    have c2 : ¬ (((az.length : Nat) : Int) : Int) = ((bz.length : Nat) : Int) := bne_iff_ne.1 c2e
    clear c2e
    refine al_known (by kernel_rfl) ?_
    refine sk_true (by kernel_rfl) ?_
    refine sk_seq ?_
    refine sk_regionK Try.cfgOk hS (by kernel_rfl) ?_
    refine sk_ret ?_
    exact ⟨[.bool false], by kernel_rfl, fs_to (fs_clo rfl) (congrArg Value.bool (by first | exact (decide_eq_true ⟨by assumption, take_all (by assumption) (by assumption) (by omega), by assumption⟩).symm | exact (decide_eq_false (fun e => absurd e.2.1 (by assumption))).symm | exact (decide_eq_false (fun e => absurd e.1 (by assumption))).symm | exact (decide_eq_false (fun e => absurd e.2.2 (by assumption))).symm | exact (decide_eq_false (fun e => by have := congrArg List.length e.2.1; omega)).symm)), Nat.le_of_ble_eq_true (by kernel_rfl)⟩
  · have c2e : ((((az.length : Nat) : Int) : Int) != ((bz.length : Nat) : Int)) = false := Eq.trans (by kernel_rfl) h1
    clear h1
    have c2 : (((az.length : Nat) : Int) : Int) = ((bz.length : Nat) : Int) := bne_eq_false_iff_eq.1 c2e
    clear c2e
    refine al_chunk 5 (by kernel_rfl) ?_
    refine al_callB 42 [inlL kcells 2 ar, inlL kcells 2 br] (decide (ar = br)) _ rfl (fun b h => by cases h) (by kernel_rfl) (by kernel_rfl) (hC42 _ _ _ _ (con_nkeys_at ar br (by first | omega | (simp; done) | (simp; omega)) (by first | omega | (simp; done) | (simp; omega)) _)) (fun h3 => ?_) (fun h3 => ?_)
    · have c4 : ar = br := of_decide_eq_true h3
      clear h3
      refine al_chunk 7 (by kernel_rfl) ?_
      refine al_callB 42 [inlL kcells 2 aw, inlL kcells 2 bw] (decide (aw = bw)) _ rfl (fun b h => by cases h) (by kernel_rfl) (by kernel_rfl) (hC42 _ _ _ _ (con_nkeys_at aw bw (by first | omega | (simp; done) | (simp; omega)) (by first | omega | (simp; done) | (simp; omega)) _)) (fun h5 => ?_) (fun h5 => ?_)
      · have c6 : aw = bw := of_decide_eq_true h5
        clear h5
        refine al_known (by kernel_rfl) ?_
        refine sk_false (by kernel_rfl) ?_
        refine sk_skip (sk_seq (sk_seq ?_))
        refine sk_regionL Try.cfgOk hS ?_
        refine al_chunk 2 (by kernel_rfl) ?_
        refine al_map (lenB Try.cfg (St.empty 0) 26 (inlL scells 3 az)) (.int .i64 ((az.length : Nat) : Int)) (by kernel_rfl) (by kernel_rfl) (by kernel_rfl) (len_inl tokC (by kernel_rfl)) ?_
        refine al_known (by kernel_rfl) ?_
        refine sk_block ?_
        refine sk_live 47 ((fun a : Nat => [(2, .pointer (some ⟨0, 0, none⟩)), (3, .pointer (some ⟨1, 0, none⟩)), (31, .int .i64 ((az.length : Nat) : Int)), (32, .int .i64 ((a : Nat) : Int))]) 0) (by kernel_rfl) ⟨by kernel_rfl, by kernel_rfl, by kernel_rfl, by kernel_rfl, trivial⟩ fun m7 => ?_
        refine sk_st ((fun a : Nat => (((St.empty 0).new (.cells [inlL kcells 2 ar, inlL scells 3 az, inlL kcells 2 aw])).new (.cells [inlL kcells 2 br, inlL scells 3 bz, inlL kcells 2 bw]))) 0) (by kernel_rfl) ?_
        refine (sk_while (k := 2) (N := 400) (live := (fun a : Nat => [(2, .pointer (some ⟨0, 0, none⟩)), (3, .pointer (some ⟨1, 0, none⟩)), (31, .int .i64 ((az.length : Nat) : Int)), (32, .int .i64 ((a : Nat) : Int))])) (M := (fun a : Nat => (((St.empty 0).new (.cells [inlL kcells 2 ar, inlL scells 3 az, inlL kcells 2 aw])).new (.cells [inlL kcells 2 br, inlL scells 3 bz, inlL kcells 2 bw])))) (fun a : Nat => (a ≤ az.length) ∧ (az.take a = bz.take a)) (fun a : Nat => az.length - a) (fun (a : Nat) (o : Out) (lv : List (Nat × Value)) (M : St) => (o = .exit 0 ∧ (¬ a < az.length) ∧ lv = [(2, .pointer (some ⟨0, 0, none⟩)), (3, .pointer (some ⟨1, 0, none⟩)), (31, .int .i64 ((az.length : Nat) : Int)), (32, .int .i64 ((a : Nat) : Int))] ∧ M = (((St.empty 0).new (.cells [inlL kcells 2 ar, inlL scells 3 az, inlL kcells 2 aw])).new (.cells [inlL kcells 2 br, inlL scells 3 bz, inlL kcells 2 bw]))) ∨ (o = .ret ∧ (¬ az = bz) ∧ lv = [(4, .bool false)] ∧ M = (((St.empty 0).new (.cells [inlL kcells 2 ar, inlL scells 3 az, inlL kcells 2 aw])).new (.cells [inlL kcells 2 br, inlL scells 3 bz, inlL kcells 2 bw])))) (Nat.zero_le _) (fun a ha => ?_) (fun a ha => ?_) (fun a m ha => ?_) (fun a m ha => ?_) 0 m7 ?_).up ?_
        · exact ⟨by kernel_rfl, (((wf_empty 0).new _).new _), (selfs (all_cons (o := .cells [inlL kcells 2 ar, inlL scells 3 az, inlL kcells 2 aw]) (by kernel_rfl) (OSub.cells (.cons (sub_clo rfl) (.cons (sub_clo rfl) (.cons (sub_clo rfl) .nil)))) (all_cons (o := .cells [inlL kcells 2 br, inlL scells 3 bz, inlL kcells 2 bw]) (by kernel_rfl) (OSub.cells (.cons (sub_clo rfl) (.cons (sub_clo rfl) (.cons (sub_clo rfl) .nil)))) (all_none))))⟩
        · exact ⟨.ptr ⟨by decide, rfl⟩, .ptr ⟨by decide, rfl⟩, sub_clo rfl, sub_clo rfl, trivial⟩
        · exact ⟨by kernel_rfl, by kernel_rfl, by kernel_rfl, by kernel_rfl, trivial⟩
        · obtain ⟨i, ea⟩ : ∃ z, z = a := ⟨_, rfl⟩
          subst ea
          obtain ⟨i0, i1⟩ := ha
          refine sk_seq ?_
          refine sk_regionL Try.cfgOk hS ?_
          refine al_test (by kernel_rfl) (by kernel_rfl) (by kernel_rfl) (fun h8 => ?_) (fun h8 => ?_)
          · have c9e : (decide ((((i : Nat) : Int) : Int) < ((az.length : Nat) : Int))) = true := Eq.trans (by kernel_rfl) h8
            clear h8
            have c9 : (((i : Nat) : Int) : Int) < ((az.length : Nat) : Int) := of_decide_eq_true c9e
            clear c9e
            refine al_nil ?_
            refine sk_seq ?_
            refine sk_true (by kernel_rfl) ?_
            refine sk_skip (sk_seq (sk_block (sk_seq ?_)))
            refine sk_regionK Try.cfgOk hS (by kernel_rfl) ?_
            refine sk_seq ?_
            refine sk_drawL Try.cfgOk hS ?_
            refine ald_chunk 3 (by kernel_rfl) ?_
            refine ald_mapL (indexAddrV Try.cfg 26 (inlL scells 3 az) (.int .i64 ((i : Nat) : Int))) (elt (flatL scells az) (i * 3)) (by kernel_rfl) (by kernel_rfl) (by kernel_rfl) (idx_inlL tokC (by kernel_rfl) (by first | omega | simp)) (by kernel_rfl) ?_
            have hx10l : i < az.length := by omega
            refine Exists.elim (get_ex hx10l) fun x10 hx10 => ?_
            clear hx10l
            refine ald_mapL (loadV Try.cfg (St.empty 0) 71 (elt (flatL scells az) (i * 3))) (.agg #[.int .i64 x10.1, .int .i64 x10.2.1, .int .i64 x10.2.2]) (by kernel_rfl) (by kernel_rfl) (by kernel_rfl) (load_el tokC (by kernel_rfl) scells_len hx10) (by kernel_rfl) ?_
            refine ald_chunk 3 (by kernel_rfl) ?_
            refine ald_mapL (indexAddrV Try.cfg 26 (inlL scells 3 bz) (.int .i64 ((i : Nat) : Int))) (elt (flatL scells bz) (i * 3)) (by kernel_rfl) (by kernel_rfl) (by kernel_rfl) (idx_inlL tokC (by kernel_rfl) (by first | omega | simp)) (by kernel_rfl) ?_
            have hx11l : i < bz.length := by omega
            refine Exists.elim (get_ex hx11l) fun x11 hx11 => ?_
            clear hx11l
            refine ald_mapL (loadV Try.cfg (St.empty 0) 71 (elt (flatL scells bz) (i * 3))) (.agg #[.int .i64 x11.1, .int .i64 x11.2.1, .int .i64 x11.2.2]) (by kernel_rfl) (by kernel_rfl) (by kernel_rfl) (load_el tokC (by kernel_rfl) scells_len hx11) (by kernel_rfl) ?_
            refine ald_test (by kernel_rfl) (by kernel_rfl) (by kernel_rfl) (fun b => by kernel_rfl) (fun h12 => ?_) (fun h12 => ?_)
            · have c13e : (!((x10.1 == x11.1) && ((x10.2.1 == x11.2.1) && ((x10.2.2 == x11.2.2) && true)))) = true := Eq.trans (by kernel_rfl) h12
              clear h12
              have c13 : ¬ (x10.1 = x11.1 ∧ x10.2.1 = x11.2.1 ∧ x10.2.2 = x11.2.2) := fun q => Bool.noConfusion (((not_t c13e)).symm.trans (and_i (beq_iff_eq.2 q.1) (and_i (beq_iff_eq.2 q.2.1) (and_i (beq_iff_eq.2 q.2.2) (rfl)))))
              clear c13e
              refine ald_nil ?_
              refine sk_true (by kernel_rfl) ?_
              refine sk_seq ?_
              refine sk_regionK Try.cfgOk hS (by kernel_rfl) ?_
              refine sk_ret ?_
              refine .inr ⟨_, _, (fun h => by cases h), .inr ⟨rfl, ?_, rfl, rfl⟩, ⟨by kernel_rfl, ⟨by kernel_rfl, trivial⟩, ⟨sub_clo rfl, trivial⟩, Nat.le_of_ble_eq_true (by kernel_rfl), ⟨by kernel_rfl, (((wf_empty 0).new _).new _), (selfs (all_cons (o := .cells [inlL kcells 2 ar, inlL scells 3 az, inlL kcells 2 aw]) (by kernel_rfl) (OSub.cells (.cons (sub_clo rfl) (.cons (sub_clo rfl) (.cons (sub_clo rfl) .nil)))) (all_cons (o := .cells [inlL kcells 2 br, inlL scells 3 bz, inlL kcells 2 bw]) (by kernel_rfl) (OSub.cells (.cons (sub_clo rfl) (.cons (sub_clo rfl) (.cons (sub_clo rfl) .nil)))) (all_none))))⟩, mem_all (by kernel_rfl)⟩⟩
              · exact ne_at (by assumption) (by assumption) (fun e => by subst e; omega)
            · have c13e : (!((x10.1 == x11.1) && ((x10.2.1 == x11.2.1) && ((x10.2.2 == x11.2.2) && true)))) = false := Eq.trans (by kernel_rfl) h12
              clear h12
              have c13 : x10.1 = x11.1 ∧ x10.2.1 = x11.2.1 ∧ x10.2.2 = x11.2.2 := ⟨eq_of_beq (and_l (not_f c13e)), eq_of_beq (and_l (and_r (not_f c13e))), eq_of_beq (and_l (and_r (and_r (not_f c13e))))⟩
              clear c13e
              refine ald_nil ?_
              refine sk_false (by kernel_rfl) ?_
              refine sk_skip ?_
              refine sk_regionL Try.cfgOk hS ?_
              refine al_eqv (v := .int .i64 (IntKind.wrap .i64 (((i : Nat) : Int) + 1))) (.int .i64 ((i + 1 : Nat) : Int)) (by kernel_rfl) (by kernel_rfl) (by kernel_rfl) (congrArg (Value.int .i64) (wrap_to (by omega) (by omega))) ?_
              refine al_known (by kernel_rfl) ?_
              refine .inl ⟨i + 1, rfl, ⟨?_, ?_⟩, ?_, ⟨by kernel_rfl, ⟨by kernel_rfl, by kernel_rfl, by kernel_rfl, by kernel_rfl, trivial⟩, ⟨.ptr ⟨by decide, rfl⟩, .ptr ⟨by decide, rfl⟩, sub_clo rfl, sub_clo rfl, trivial⟩, Nat.le_of_ble_eq_true (by kernel_rfl), ⟨by kernel_rfl, (((wf_empty 0).new _).new _), (selfs (all_cons (o := .cells [inlL kcells 2 ar, inlL scells 3 az, inlL kcells 2 aw]) (by kernel_rfl) (OSub.cells (.cons (sub_clo rfl) (.cons (sub_clo rfl) (.cons (sub_clo rfl) .nil)))) (all_cons (o := .cells [inlL kcells 2 br, inlL scells 3 bz, inlL kcells 2 bw]) (by kernel_rfl) (OSub.cells (.cons (sub_clo rfl) (.cons (sub_clo rfl) (.cons (sub_clo rfl) .nil)))) (all_none))))⟩, mem_all (by kernel_rfl)⟩⟩
              · (try dsimp only); omega
              · (try dsimp only); exact take_eq_succ (by assumption) (by assumption) (by assumption) (Prod.ext (by omega) (Prod.ext (by omega) (by omega)))
              · omega
          · have c9e : (decide ((((i : Nat) : Int) : Int) < ((az.length : Nat) : Int))) = false := Eq.trans (by kernel_rfl) h8
            clear h8
            have c9 : ¬ (((i : Nat) : Int) : Int) < ((az.length : Nat) : Int) := of_decide_eq_false c9e
            clear c9e
            refine al_nil ?_
            refine sk_seq ?_
            refine sk_false (by kernel_rfl) ?_
            refine sk_exit ?_
            dsimp only
            refine .inr ⟨_, _, (fun h => by cases h), .inl ⟨rfl, ?_, rfl, rfl⟩, ⟨by kernel_rfl, ⟨by kernel_rfl, by kernel_rfl, by kernel_rfl, by kernel_rfl, trivial⟩, ⟨.ptr ⟨by decide, rfl⟩, .ptr ⟨by decide, rfl⟩, sub_clo rfl, sub_clo rfl, trivial⟩, Nat.le_of_ble_eq_true (by kernel_rfl), ⟨by kernel_rfl, (((wf_empty 0).new _).new _), (selfs (all_cons (o := .cells [inlL kcells 2 ar, inlL scells 3 az, inlL kcells 2 aw]) (by kernel_rfl) (OSub.cells (.cons (sub_clo rfl) (.cons (sub_clo rfl) (.cons (sub_clo rfl) .nil)))) (all_cons (o := .cells [inlL kcells 2 br, inlL scells 3 bz, inlL kcells 2 bw]) (by kernel_rfl) (OSub.cells (.cons (sub_clo rfl) (.cons (sub_clo rfl) (.cons (sub_clo rfl) .nil)))) (all_none))))⟩, mem_all (by kernel_rfl)⟩⟩
            · omega
        · exact ⟨by ((try dsimp only); first | done | (omega)), by ((try dsimp only); first | done | (rfl))⟩
        rintro o e1 s1 ⟨a, lv1, M1, m7, ha, (⟨rfl, hx, rfl, rfl⟩ | ⟨rfl, hx, rfl, rfl⟩), rfl, rfl⟩
        ·
          obtain ⟨i, ea⟩ : ∃ z, z = a := ⟨_, rfl⟩
          subst ea
          obtain ⟨i0, i1⟩ := ha
          dsimp only
          try rw [if_pos rfl]
          refine sk_seq ?_
          refine sk_regionK Try.cfgOk hS (by kernel_rfl) ?_
          refine sk_ret ?_
          exact ⟨[.bool true], by kernel_rfl, fs_to (fs_clo rfl) (congrArg Value.bool (by first | exact (decide_eq_true ⟨by assumption, take_all (by assumption) (by assumption) (by omega), by assumption⟩).symm | exact (decide_eq_false (fun e => absurd e.2.1 (by assumption))).symm | exact (decide_eq_false (fun e => absurd e.1 (by assumption))).symm | exact (decide_eq_false (fun e => absurd e.2.2 (by assumption))).symm | exact (decide_eq_false (fun e => by have := congrArg List.length e.2.1; omega)).symm)), Nat.le_of_ble_eq_true (by kernel_rfl)⟩
        ·
          obtain ⟨i, ea⟩ : ∃ z, z = a := ⟨_, rfl⟩
          subst ea
          obtain ⟨i0, i1⟩ := ha
          dsimp only
          exact ⟨[.bool false], by kernel_rfl, fs_to (fs_clo rfl) (congrArg Value.bool (by first | exact (decide_eq_true ⟨by assumption, take_all (by assumption) (by assumption) (by omega), by assumption⟩).symm | exact (decide_eq_false (fun e => absurd e.2.1 (by assumption))).symm | exact (decide_eq_false (fun e => absurd e.1 (by assumption))).symm | exact (decide_eq_false (fun e => absurd e.2.2 (by assumption))).symm | exact (decide_eq_false (fun e => by have := congrArg List.length e.2.1; omega)).symm)), Nat.le_of_ble_eq_true (by kernel_rfl)⟩
      · have c6 : ¬ (aw = bw) := of_decide_eq_false h5
        clear h5
        refine al_known (by kernel_rfl) ?_
        refine sk_true (by kernel_rfl) ?_
        refine sk_seq ?_
        refine sk_regionK Try.cfgOk hS (by kernel_rfl) ?_
        refine sk_ret ?_
        exact ⟨[.bool false], by kernel_rfl, fs_to (fs_clo rfl) (congrArg Value.bool (by first | exact (decide_eq_true ⟨by assumption, take_all (by assumption) (by assumption) (by omega), by assumption⟩).symm | exact (decide_eq_false (fun e => absurd e.2.1 (by assumption))).symm | exact (decide_eq_false (fun e => absurd e.1 (by assumption))).symm | exact (decide_eq_false (fun e => absurd e.2.2 (by assumption))).symm | exact (decide_eq_false (fun e => by have := congrArg List.length e.2.1; omega)).symm)), Nat.le_of_ble_eq_true (by kernel_rfl)⟩
    · have c4 : ¬ (ar = br) := of_decide_eq_false h3
      clear h3
      refine al_known (by kernel_rfl) ?_
      refine sk_true (by kernel_rfl) ?_
      refine sk_seq ?_
      refine sk_regionK Try.cfgOk hS (by kernel_rfl) ?_
      refine sk_ret ?_
      exact ⟨[.bool false], by kernel_rfl, fs_to (fs_clo rfl) (congrArg Value.bool (by first | exact (decide_eq_true ⟨by assumption, take_all (by assumption) (by assumption) (by omega), by assumption⟩).symm | exact (decide_eq_false (fun e => absurd e.2.1 (by assumption))).symm | exact (decide_eq_false (fun e => absurd e.1 (by assumption))).symm | exact (decide_eq_false (fun e => absurd e.2.2 (by assumption))).symm | exact (decide_eq_false (fun e => by have := congrArg List.length e.2.1; omega)).symm)), Nat.le_of_ble_eq_true (by kernel_rfl)⟩
noncomputable def con_nfeet : Con Try.prog 0 := Con.pure (α := (List Key) × (List Span) × (List Key) × (List Key) × (List Span) × (List Key)) 19 (fun z9 => [.agg #[inlL kcells 2 z9.1, inlL scells 3 z9.2.1, inlL kcells 2 z9.2.2.1], .agg #[inlL kcells 2 z9.2.2.2.1, inlL scells 3 z9.2.2.2.2.1, inlL kcells 2 z9.2.2.2.2.2]]) (fun z9 => .bool (decide (z9.1 = z9.2.2.2.1 ∧ z9.2.1 = z9.2.2.2.2.1 ∧ z9.2.2.1 = z9.2.2.2.2.2))) (fun z9 => (z9.1.length ≤ 1000000) ∧ (z9.2.1.length ≤ 1000000) ∧ (z9.2.2.1.length ≤ 1000000) ∧ (z9.2.2.2.1.length ≤ 1000000) ∧ (z9.2.2.2.2.1.length ≤ 1000000) ∧ (z9.2.2.2.2.2.length ≤ 1000000)) (by
  rintro ⟨a0, a1, a2, a3, a4, a5⟩ ⟨b0, b1, b2, b3, b4, b5⟩ h
  simp only [List.cons.injEq, and_true, Int.natCast_inj, UInt8.toNat_inj, Value.int.injEq, Value.bool.injEq, Value.string.injEq, Value.agg.injEq, Array.mk.injEq, true_and, kcells_iff, scells_iff] at h
  first | exact h | (simp only [Prod.ext_iff, h, and_self, and_true, true_and]; done) | simp_all [Prod.ext_iff]) (fun _ => rfl) (fun _ => rfl) 400 (by
  rintro ⟨a0, a1, a2, a3, a4, a5⟩ ⟨p0, p1, p2, p3, p4, p5⟩
  exact nfeet_sc a0 a1 a2 a3 a4 a5 p0 p1 p2 p3 p4 p5)
theorem con_nfeet_at (ar : List Key) (az : List Span) (aw : List Key) (br : List Key) (bz : List Span) (bw : List Key) (h0 : ar.length ≤ 1000000) (h1 : az.length ≤ 1000000) (h2 : aw.length ≤ 1000000) (h3 : br.length ≤ 1000000) (h4 : bz.length ≤ 1000000) (h5 : bw.length ≤ 1000000) (s : St) : con_nfeet.rel [.agg #[inlL kcells 2 ar, inlL scells 3 az, inlL kcells 2 aw], .agg #[inlL kcells 2 br, inlL scells 3 bz, inlL kcells 2 bw]] s (.bool (decide (ar = br ∧ az = bz ∧ aw = bw))) s := con_pure (ar, az, aw, br, bz, bw) ⟨h0, h1, h2, h3, h4, h5⟩ s
theorem nprogs_fn : Try.cfg.fn 18 = some Try.f18 := by kernel_rfl
set_option maxHeartbeats 4000000 in
set_option maxRecDepth 100000 in
theorem nprogs_sc (fu : Int) (co : List Code) (fv : Int) (cp : List Code) (h0 : co.length ≤ 1000000) (h1 : cp.length ≤ 1000000) : SC Try.prog 0 18 [.agg #[.int .i64 fu, inlL ccells 6 co], .agg #[.int .i64 fv, inlL ccells 6 cp]] (St.empty 0) fun v s' => v = .bool (decide (fu = fv ∧ co = cp)) ∧ s'.n ≤ 400 := by
  have hS := sound_run Try.cfgOk 300
  refine sc_ice0 (N := 400) (v2 := .bool (decide (fu = fv ∧ co = cp))) (Q := fun v s' => FS 0 s' v (.bool (decide (fu = fv ∧ co = cp))) ∧ s'.n ≤ 400) ?_ (fun _ _ h => h)
  refine sc_body Try.cfgOk nprogs_fn rfl ?_
  refine sk_seq ?_
  refine sk_regionK Try.cfgOk hS (by kernel_rfl) ?_
  refine sk_seq (sk_seq ?_)
  refine sk_regionL Try.cfgOk hS ?_
  refine al_chunk 4 (by kernel_rfl) ?_
  refine al_test (by kernel_rfl) (by kernel_rfl) (by kernel_rfl) (fun h1 => ?_) (fun h1 => ?_)
  · have c2e : ((fu : Int) != fv) = true := Eq.trans (by kernel_rfl) h1
    clear h1
    have c2 : ¬ (fu : Int) = fv := bne_iff_ne.1 c2e
    clear c2e
    refine al_known (by kernel_rfl) ?_
    refine sk_true (by kernel_rfl) ?_
    refine sk_seq ?_
    refine sk_regionK Try.cfgOk hS (by kernel_rfl) ?_
    refine sk_ret ?_
    exact ⟨[.bool false], by kernel_rfl, fs_to (fs_clo rfl) (congrArg Value.bool (by first | exact (decide_eq_true ⟨by assumption, take_all (by assumption) (by assumption) (by omega)⟩).symm | exact (decide_eq_false (fun e => absurd e.2 (by assumption))).symm | exact (decide_eq_false (fun e => absurd e.1 (by assumption))).symm | exact (decide_eq_false (fun e => by have := congrArg List.length e.2; omega)).symm)), Nat.le_of_ble_eq_true (by kernel_rfl)⟩
  · have c2e : ((fu : Int) != fv) = false := Eq.trans (by kernel_rfl) h1
    clear h1
    have c2 : (fu : Int) = fv := bne_eq_false_iff_eq.1 c2e
    clear c2e
    refine al_chunk 3 (by kernel_rfl) ?_
    refine al_map (lenB Try.cfg (St.empty 0) 22 (inlL ccells 6 co)) (.int .i64 ((co.length : Nat) : Int)) (by kernel_rfl) (by kernel_rfl) (by kernel_rfl) (len_inl tokC (by kernel_rfl)) ?_
    refine al_chunk 2 (by kernel_rfl) ?_
    refine al_map (lenB Try.cfg (St.empty 0) 22 (inlL ccells 6 cp)) (.int .i64 ((cp.length : Nat) : Int)) (by kernel_rfl) (by kernel_rfl) (by kernel_rfl) (len_inl tokC (by kernel_rfl)) ?_
    refine al_test (by kernel_rfl) (by kernel_rfl) (by kernel_rfl) (fun h3 => ?_) (fun h3 => ?_)
    · have c4e : ((((co.length : Nat) : Int) : Int) != ((cp.length : Nat) : Int)) = true := Eq.trans (by kernel_rfl) h3
      clear h3
      have c4 : ¬ (((co.length : Nat) : Int) : Int) = ((cp.length : Nat) : Int) := bne_iff_ne.1 c4e
      clear c4e
      refine al_known (by kernel_rfl) ?_
      refine sk_true (by kernel_rfl) ?_
      refine sk_seq ?_
      refine sk_regionK Try.cfgOk hS (by kernel_rfl) ?_
      refine sk_ret ?_
      exact ⟨[.bool false], by kernel_rfl, fs_to (fs_clo rfl) (congrArg Value.bool (by first | exact (decide_eq_true ⟨by assumption, take_all (by assumption) (by assumption) (by omega)⟩).symm | exact (decide_eq_false (fun e => absurd e.2 (by assumption))).symm | exact (decide_eq_false (fun e => absurd e.1 (by assumption))).symm | exact (decide_eq_false (fun e => by have := congrArg List.length e.2; omega)).symm)), Nat.le_of_ble_eq_true (by kernel_rfl)⟩
    · have c4e : ((((co.length : Nat) : Int) : Int) != ((cp.length : Nat) : Int)) = false := Eq.trans (by kernel_rfl) h3
      clear h3
      have c4 : (((co.length : Nat) : Int) : Int) = ((cp.length : Nat) : Int) := bne_eq_false_iff_eq.1 c4e
      clear c4e
      refine al_known (by kernel_rfl) ?_
      refine sk_false (by kernel_rfl) ?_
      refine sk_skip (sk_seq (sk_seq ?_))
      refine sk_regionL Try.cfgOk hS ?_
      refine al_chunk 2 (by kernel_rfl) ?_
      refine al_map (lenB Try.cfg (St.empty 0) 22 (inlL ccells 6 co)) (.int .i64 ((co.length : Nat) : Int)) (by kernel_rfl) (by kernel_rfl) (by kernel_rfl) (len_inl tokC (by kernel_rfl)) ?_
      refine al_known (by kernel_rfl) ?_
      refine sk_block ?_
      refine sk_live 38 ((fun a : Nat => [(2, .pointer (some ⟨0, 0, none⟩)), (3, .pointer (some ⟨1, 0, none⟩)), (22, .int .i64 ((co.length : Nat) : Int)), (23, .int .i64 ((a : Nat) : Int))]) 0) (by kernel_rfl) ⟨by kernel_rfl, by kernel_rfl, by kernel_rfl, by kernel_rfl, trivial⟩ fun m5 => ?_
      refine sk_st ((fun a : Nat => (((St.empty 0).new (.cells [.int .i64 fu, inlL ccells 6 co])).new (.cells [.int .i64 fv, inlL ccells 6 cp]))) 0) (by kernel_rfl) ?_
      refine (sk_while (k := 2) (N := 400) (live := (fun a : Nat => [(2, .pointer (some ⟨0, 0, none⟩)), (3, .pointer (some ⟨1, 0, none⟩)), (22, .int .i64 ((co.length : Nat) : Int)), (23, .int .i64 ((a : Nat) : Int))])) (M := (fun a : Nat => (((St.empty 0).new (.cells [.int .i64 fu, inlL ccells 6 co])).new (.cells [.int .i64 fv, inlL ccells 6 cp])))) (fun a : Nat => (a ≤ co.length) ∧ (co.take a = cp.take a)) (fun a : Nat => co.length - a) (fun (a : Nat) (o : Out) (lv : List (Nat × Value)) (M : St) => (o = .exit 0 ∧ (¬ a < co.length) ∧ lv = [(2, .pointer (some ⟨0, 0, none⟩)), (3, .pointer (some ⟨1, 0, none⟩)), (22, .int .i64 ((co.length : Nat) : Int)), (23, .int .i64 ((a : Nat) : Int))] ∧ M = (((St.empty 0).new (.cells [.int .i64 fu, inlL ccells 6 co])).new (.cells [.int .i64 fv, inlL ccells 6 cp]))) ∨ (o = .ret ∧ (¬ co = cp) ∧ lv = [(4, .bool false)] ∧ M = (((St.empty 0).new (.cells [.int .i64 fu, inlL ccells 6 co])).new (.cells [.int .i64 fv, inlL ccells 6 cp])))) (Nat.zero_le _) (fun a ha => ?_) (fun a ha => ?_) (fun a m ha => ?_) (fun a m ha => ?_) 0 m5 ?_).up ?_
      · exact ⟨by kernel_rfl, (((wf_empty 0).new _).new _), (selfs (all_cons (o := .cells [.int .i64 fu, inlL ccells 6 co]) (by kernel_rfl) (OSub.cells (.cons (sub_clo rfl) (.cons (sub_clo rfl) .nil))) (all_cons (o := .cells [.int .i64 fv, inlL ccells 6 cp]) (by kernel_rfl) (OSub.cells (.cons (sub_clo rfl) (.cons (sub_clo rfl) .nil))) (all_none))))⟩
      · exact ⟨.ptr ⟨by decide, rfl⟩, .ptr ⟨by decide, rfl⟩, sub_clo rfl, sub_clo rfl, trivial⟩
      · exact ⟨by kernel_rfl, by kernel_rfl, by kernel_rfl, by kernel_rfl, trivial⟩
      · obtain ⟨i, ea⟩ : ∃ z, z = a := ⟨_, rfl⟩
        subst ea
        obtain ⟨i0, i1⟩ := ha
        refine sk_seq ?_
        refine sk_regionL Try.cfgOk hS ?_
        refine al_test (by kernel_rfl) (by kernel_rfl) (by kernel_rfl) (fun h6 => ?_) (fun h6 => ?_)
        · have c7e : (decide ((((i : Nat) : Int) : Int) < ((co.length : Nat) : Int))) = true := Eq.trans (by kernel_rfl) h6
          clear h6
          have c7 : (((i : Nat) : Int) : Int) < ((co.length : Nat) : Int) := of_decide_eq_true c7e
          clear c7e
          refine al_nil ?_
          refine sk_seq ?_
          refine sk_true (by kernel_rfl) ?_
          refine sk_skip (sk_seq (sk_block (sk_seq ?_)))
          refine sk_regionK Try.cfgOk hS (by kernel_rfl) ?_
          refine sk_seq ?_
          refine sk_drawL Try.cfgOk hS ?_
          refine ald_chunk 3 (by kernel_rfl) ?_
          refine ald_mapL (indexAddrV Try.cfg 22 (inlL ccells 6 co) (.int .i64 ((i : Nat) : Int))) (elt (flatL ccells co) (i * 6)) (by kernel_rfl) (by kernel_rfl) (by kernel_rfl) (idx_inlL tokC (by kernel_rfl) (by first | omega | simp)) (by kernel_rfl) ?_
          have hx8l : i < co.length := by omega
          refine Exists.elim (get_ex hx8l) fun x8 hx8 => ?_
          clear hx8l
          refine ald_mapL (loadV Try.cfg (St.empty 0) 52 (elt (flatL ccells co) (i * 6))) (.agg #[.int .i64 x8.1, .int .i64 x8.2.1, .int .i64 x8.2.2.1, .int .i64 x8.2.2.2.1, .int .i64 x8.2.2.2.2.1, .int .i64 x8.2.2.2.2.2]) (by kernel_rfl) (by kernel_rfl) (by kernel_rfl) (load_el tokC (by kernel_rfl) ccells_len hx8) (by kernel_rfl) ?_
          refine ald_chunk 3 (by kernel_rfl) ?_
          refine ald_mapL (indexAddrV Try.cfg 22 (inlL ccells 6 cp) (.int .i64 ((i : Nat) : Int))) (elt (flatL ccells cp) (i * 6)) (by kernel_rfl) (by kernel_rfl) (by kernel_rfl) (idx_inlL tokC (by kernel_rfl) (by first | omega | simp)) (by kernel_rfl) ?_
          have hx9l : i < cp.length := by omega
          refine Exists.elim (get_ex hx9l) fun x9 hx9 => ?_
          clear hx9l
          refine ald_mapL (loadV Try.cfg (St.empty 0) 52 (elt (flatL ccells cp) (i * 6))) (.agg #[.int .i64 x9.1, .int .i64 x9.2.1, .int .i64 x9.2.2.1, .int .i64 x9.2.2.2.1, .int .i64 x9.2.2.2.2.1, .int .i64 x9.2.2.2.2.2]) (by kernel_rfl) (by kernel_rfl) (by kernel_rfl) (load_el tokC (by kernel_rfl) ccells_len hx9) (by kernel_rfl) ?_
          refine ald_test (by kernel_rfl) (by kernel_rfl) (by kernel_rfl) (fun b => by kernel_rfl) (fun h10 => ?_) (fun h10 => ?_)
          · have c11e : (!((x8.1 == x9.1) && ((x8.2.1 == x9.2.1) && ((x8.2.2.1 == x9.2.2.1) && ((x8.2.2.2.1 == x9.2.2.2.1) && ((x8.2.2.2.2.1 == x9.2.2.2.2.1) && ((x8.2.2.2.2.2 == x9.2.2.2.2.2) && true))))))) = true := Eq.trans (by kernel_rfl) h10
            clear h10
            have c11 : ¬ (x8.1 = x9.1 ∧ x8.2.1 = x9.2.1 ∧ x8.2.2.1 = x9.2.2.1 ∧ x8.2.2.2.1 = x9.2.2.2.1 ∧ x8.2.2.2.2.1 = x9.2.2.2.2.1 ∧ x8.2.2.2.2.2 = x9.2.2.2.2.2) := fun q => Bool.noConfusion (((not_t c11e)).symm.trans (and_i (beq_iff_eq.2 q.1) (and_i (beq_iff_eq.2 q.2.1) (and_i (beq_iff_eq.2 q.2.2.1) (and_i (beq_iff_eq.2 q.2.2.2.1) (and_i (beq_iff_eq.2 q.2.2.2.2.1) (and_i (beq_iff_eq.2 q.2.2.2.2.2) (rfl))))))))
            clear c11e
            refine ald_nil ?_
            refine sk_true (by kernel_rfl) ?_
            refine sk_seq ?_
            refine sk_regionK Try.cfgOk hS (by kernel_rfl) ?_
            refine sk_ret ?_
            refine .inr ⟨_, _, (fun h => by cases h), .inr ⟨rfl, ?_, rfl, rfl⟩, ⟨by kernel_rfl, ⟨by kernel_rfl, trivial⟩, ⟨sub_clo rfl, trivial⟩, Nat.le_of_ble_eq_true (by kernel_rfl), ⟨by kernel_rfl, (((wf_empty 0).new _).new _), (selfs (all_cons (o := .cells [.int .i64 fu, inlL ccells 6 co]) (by kernel_rfl) (OSub.cells (.cons (sub_clo rfl) (.cons (sub_clo rfl) .nil))) (all_cons (o := .cells [.int .i64 fv, inlL ccells 6 cp]) (by kernel_rfl) (OSub.cells (.cons (sub_clo rfl) (.cons (sub_clo rfl) .nil))) (all_none))))⟩, mem_all (by kernel_rfl)⟩⟩
            · refine ne_at (by assumption) (by assumption) (fun e => ?_); subst e; simp_all
          · have c11e : (!((x8.1 == x9.1) && ((x8.2.1 == x9.2.1) && ((x8.2.2.1 == x9.2.2.1) && ((x8.2.2.2.1 == x9.2.2.2.1) && ((x8.2.2.2.2.1 == x9.2.2.2.2.1) && ((x8.2.2.2.2.2 == x9.2.2.2.2.2) && true))))))) = false := Eq.trans (by kernel_rfl) h10
            clear h10
            have c11 : x8.1 = x9.1 ∧ x8.2.1 = x9.2.1 ∧ x8.2.2.1 = x9.2.2.1 ∧ x8.2.2.2.1 = x9.2.2.2.1 ∧ x8.2.2.2.2.1 = x9.2.2.2.2.1 ∧ x8.2.2.2.2.2 = x9.2.2.2.2.2 := ⟨eq_of_beq (and_l (not_f c11e)), eq_of_beq (and_l (and_r (not_f c11e))), eq_of_beq (and_l (and_r (and_r (not_f c11e)))), eq_of_beq (and_l (and_r (and_r (and_r (not_f c11e))))), eq_of_beq (and_l (and_r (and_r (and_r (and_r (not_f c11e)))))), eq_of_beq (and_l (and_r (and_r (and_r (and_r (and_r (not_f c11e)))))))⟩
            clear c11e
            refine ald_nil ?_
            refine sk_false (by kernel_rfl) ?_
            refine sk_skip ?_
            refine sk_regionL Try.cfgOk hS ?_
            refine al_eqv (v := .int .i64 (IntKind.wrap .i64 (((i : Nat) : Int) + 1))) (.int .i64 ((i + 1 : Nat) : Int)) (by kernel_rfl) (by kernel_rfl) (by kernel_rfl) (congrArg (Value.int .i64) (wrap_to (by omega) (by omega))) ?_
            refine al_known (by kernel_rfl) ?_
            refine .inl ⟨i + 1, rfl, ⟨?_, ?_⟩, ?_, ⟨by kernel_rfl, ⟨by kernel_rfl, by kernel_rfl, by kernel_rfl, by kernel_rfl, trivial⟩, ⟨.ptr ⟨by decide, rfl⟩, .ptr ⟨by decide, rfl⟩, sub_clo rfl, sub_clo rfl, trivial⟩, Nat.le_of_ble_eq_true (by kernel_rfl), ⟨by kernel_rfl, (((wf_empty 0).new _).new _), (selfs (all_cons (o := .cells [.int .i64 fu, inlL ccells 6 co]) (by kernel_rfl) (OSub.cells (.cons (sub_clo rfl) (.cons (sub_clo rfl) .nil))) (all_cons (o := .cells [.int .i64 fv, inlL ccells 6 cp]) (by kernel_rfl) (OSub.cells (.cons (sub_clo rfl) (.cons (sub_clo rfl) .nil))) (all_none))))⟩, mem_all (by kernel_rfl)⟩⟩
            · (try dsimp only); omega
            · (try dsimp only); exact take_eq_succ (by assumption) (by assumption) (by assumption) (by simp only [Prod.ext_iff]; assumption)
            · omega
        · have c7e : (decide ((((i : Nat) : Int) : Int) < ((co.length : Nat) : Int))) = false := Eq.trans (by kernel_rfl) h6
          clear h6
          have c7 : ¬ (((i : Nat) : Int) : Int) < ((co.length : Nat) : Int) := of_decide_eq_false c7e
          clear c7e
          refine al_nil ?_
          refine sk_seq ?_
          refine sk_false (by kernel_rfl) ?_
          refine sk_exit ?_
          dsimp only
          refine .inr ⟨_, _, (fun h => by cases h), .inl ⟨rfl, ?_, rfl, rfl⟩, ⟨by kernel_rfl, ⟨by kernel_rfl, by kernel_rfl, by kernel_rfl, by kernel_rfl, trivial⟩, ⟨.ptr ⟨by decide, rfl⟩, .ptr ⟨by decide, rfl⟩, sub_clo rfl, sub_clo rfl, trivial⟩, Nat.le_of_ble_eq_true (by kernel_rfl), ⟨by kernel_rfl, (((wf_empty 0).new _).new _), (selfs (all_cons (o := .cells [.int .i64 fu, inlL ccells 6 co]) (by kernel_rfl) (OSub.cells (.cons (sub_clo rfl) (.cons (sub_clo rfl) .nil))) (all_cons (o := .cells [.int .i64 fv, inlL ccells 6 cp]) (by kernel_rfl) (OSub.cells (.cons (sub_clo rfl) (.cons (sub_clo rfl) .nil))) (all_none))))⟩, mem_all (by kernel_rfl)⟩⟩
          · omega
      · exact ⟨by ((try dsimp only); first | done | (omega)), by ((try dsimp only); first | done | (rfl))⟩
      rintro o e1 s1 ⟨a, lv1, M1, m5, ha, (⟨rfl, hx, rfl, rfl⟩ | ⟨rfl, hx, rfl, rfl⟩), rfl, rfl⟩
      ·
        obtain ⟨i, ea⟩ : ∃ z, z = a := ⟨_, rfl⟩
        subst ea
        obtain ⟨i0, i1⟩ := ha
        dsimp only
        try rw [if_pos rfl]
        refine sk_seq ?_
        refine sk_regionK Try.cfgOk hS (by kernel_rfl) ?_
        refine sk_ret ?_
        exact ⟨[.bool true], by kernel_rfl, fs_to (fs_clo rfl) (congrArg Value.bool (by first | exact (decide_eq_true ⟨by assumption, take_all (by assumption) (by assumption) (by omega)⟩).symm | exact (decide_eq_false (fun e => absurd e.2 (by assumption))).symm | exact (decide_eq_false (fun e => absurd e.1 (by assumption))).symm | exact (decide_eq_false (fun e => by have := congrArg List.length e.2; omega)).symm)), Nat.le_of_ble_eq_true (by kernel_rfl)⟩
      ·
        obtain ⟨i, ea⟩ : ∃ z, z = a := ⟨_, rfl⟩
        subst ea
        obtain ⟨i0, i1⟩ := ha
        dsimp only
        exact ⟨[.bool false], by kernel_rfl, fs_to (fs_clo rfl) (congrArg Value.bool (by first | exact (decide_eq_true ⟨by assumption, take_all (by assumption) (by assumption) (by omega)⟩).symm | exact (decide_eq_false (fun e => absurd e.2 (by assumption))).symm | exact (decide_eq_false (fun e => absurd e.1 (by assumption))).symm | exact (decide_eq_false (fun e => by have := congrArg List.length e.2; omega)).symm)), Nat.le_of_ble_eq_true (by kernel_rfl)⟩
noncomputable def con_nprogs : Con Try.prog 0 := Con.pure (α := Int × (List Code) × Int × (List Code)) 18 (fun z9 => [.agg #[.int .i64 z9.1, inlL ccells 6 z9.2.1], .agg #[.int .i64 z9.2.2.1, inlL ccells 6 z9.2.2.2]]) (fun z9 => .bool (decide (z9.1 = z9.2.2.1 ∧ z9.2.1 = z9.2.2.2))) (fun z9 => (z9.2.1.length ≤ 1000000) ∧ (z9.2.2.2.length ≤ 1000000)) (by
  rintro ⟨a0, a1, a2, a3⟩ ⟨b0, b1, b2, b3⟩ h
  simp only [List.cons.injEq, and_true, Int.natCast_inj, UInt8.toNat_inj, Value.int.injEq, Value.bool.injEq, Value.string.injEq, Value.agg.injEq, Array.mk.injEq, true_and, ccells_iff] at h
  first | exact h | (simp only [Prod.ext_iff, h, and_self, and_true, true_and]; done) | simp_all [Prod.ext_iff]) (fun _ => rfl) (fun _ => rfl) 400 (by
  rintro ⟨a0, a1, a2, a3⟩ ⟨p0, p1⟩
  exact nprogs_sc a0 a1 a2 a3 p0 p1)
theorem con_nprogs_at (fu : Int) (co : List Code) (fv : Int) (cp : List Code) (h0 : co.length ≤ 1000000) (h1 : cp.length ≤ 1000000) (s : St) : con_nprogs.rel [.agg #[.int .i64 fu, inlL ccells 6 co], .agg #[.int .i64 fv, inlL ccells 6 cp]] s (.bool (decide (fu = fv ∧ co = cp))) s := con_pure (fu, co, fv, cp) ⟨h0, h1⟩ s
theorem rsame_fn : Try.cfg.fn 11 = some Try.f11 := by kernel_rfl
set_option maxHeartbeats 4000000 in
set_option maxRecDepth 100000 in
theorem rsame_sc (sq : Int) (vl : Bool) (fu : Int) (co : List Code) (rs : List Key) (ss : List Span) (ws : List Key) (wr : List Wr) (zq : Int) (zl : Bool) (zu : Int) (zo : List Code) (zr : List Key) (zs : List Span) (zw : List Key) (ze : List Wr) (h0 : co.length ≤ 1000000) (h1 : rs.length ≤ 1000000) (h2 : ss.length ≤ 1000000) (h3 : ws.length ≤ 1000000) (h4 : wr.length ≤ 1000000) (h5 : zo.length ≤ 1000000) (h6 : zr.length ≤ 1000000) (h7 : zs.length ≤ 1000000) (h8 : zw.length ≤ 1000000) (h9 : ze.length ≤ 1000000) : SC Try.prog 0 11 [.agg #[.int .i64 sq, .bool vl, .int .i64 fu, inlL ccells 6 co, inlL kcells 2 rs, inlL scells 3 ss, inlL kcells 2 ws, inlL wcells 4 wr], .agg #[.int .i64 zq, .bool zl, .int .i64 zu, inlL ccells 6 zo, inlL kcells 2 zr, inlL scells 3 zs, inlL kcells 2 zw, inlL wcells 4 ze]] (St.empty 0) fun v s' => v = .bool (tf (sq = zq ∧ vl = zl ∧ ((fu : Int) = zu ∧ co = zo) ∧ (rs = zr ∧ ss = zs ∧ ws = zw) ∧ wr = ze)) ∧ s'.n ≤ 400 := by
  obtain ⟨rc, hS, hC⟩ := rc_con (sound_run Try.cfgOk 300) [con_nprogs, con_nfeet, con_nwrites] (by kernel_rfl)
  have hC18 := hC con_nprogs (.head _)
  have hC19 := hC con_nfeet (.tail _ (.head _))
  have hC20 := hC con_nwrites (.tail _ (.tail _ (.head _)))
  refine sc_ice0 (N := 400) (v2 := .bool (tf (sq = zq ∧ vl = zl ∧ ((fu : Int) = zu ∧ co = zo) ∧ (rs = zr ∧ ss = zs ∧ ws = zw) ∧ wr = ze))) (Q := fun v s' => FS 0 s' v (.bool (tf (sq = zq ∧ vl = zl ∧ ((fu : Int) = zu ∧ co = zo) ∧ (rs = zr ∧ ss = zs ∧ ws = zw) ∧ wr = ze))) ∧ s'.n ≤ 400) ?_ (fun _ _ h => h)
  refine sc_body Try.cfgOk rsame_fn rfl ?_
  refine sk_seq ?_
  refine sk_regionK Try.cfgOk hS (by kernel_rfl) ?_
  refine sk_seq ?_
  refine sk_regionL Try.cfgOk hS ?_
  refine al_chunk 4 (by kernel_rfl) ?_
  refine al_test (by kernel_rfl) (by kernel_rfl) (by kernel_rfl) (fun h1 => ?_) (fun h1 => ?_)
  · have c2e : ((sq : Int) == zq) = true := Eq.trans (by kernel_rfl) h1
    clear h1
    have c2 : (sq : Int) = zq := eq_of_beq c2e
    clear c2e
    refine al_chunk 5 (by kernel_rfl) ?_
    refine al_test (by kernel_rfl) (by kernel_rfl) (by kernel_rfl) (fun h3 => ?_) (fun h3 => ?_)
    · have c4e : ((vl == zl)) = true := Eq.trans (by kernel_rfl) h3
      clear h3
      have c4 : vl = zl := eq_of_beq c4e
      clear c4e
      refine al_chunk 6 (by kernel_rfl) ?_
      refine al_callB 18 [.agg #[.int .i64 fu, inlL ccells 6 co], .agg #[.int .i64 zu, inlL ccells 6 zo]] (decide (fu = zu ∧ co = zo)) _ rfl (fun b h => by cases h) (by kernel_rfl) (by kernel_rfl) (hC18 _ _ _ _ (con_nprogs_at fu co zu zo (by first | omega | (simp; done) | (simp; omega)) (by first | omega | (simp; done) | (simp; omega)) _)) (fun h5 => ?_) (fun h5 => ?_)
      · have c6 : fu = zu ∧ co = zo := of_decide_eq_true h5
        clear h5
        refine al_chunk 6 (by kernel_rfl) ?_
        refine al_callB 19 [.agg #[inlL kcells 2 rs, inlL scells 3 ss, inlL kcells 2 ws], .agg #[inlL kcells 2 zr, inlL scells 3 zs, inlL kcells 2 zw]] (decide (rs = zr ∧ ss = zs ∧ ws = zw)) _ rfl (fun b h => by cases h) (by kernel_rfl) (by kernel_rfl) (hC19 _ _ _ _ (con_nfeet_at rs ss ws zr zs zw (by first | omega | (simp; done) | (simp; omega)) (by first | omega | (simp; done) | (simp; omega)) (by first | omega | (simp; done) | (simp; omega)) (by first | omega | (simp; done) | (simp; omega)) (by first | omega | (simp; done) | (simp; omega)) (by first | omega | (simp; done) | (simp; omega)) _)) (fun h7 => ?_) (fun h7 => ?_)
        · have c8 : rs = zr ∧ ss = zs ∧ ws = zw := of_decide_eq_true h7
          clear h7
          refine al_chunk 6 (by kernel_rfl) ?_
          refine al_callB 20 [inlL wcells 4 wr, inlL wcells 4 ze] (decide (wr = ze)) _ rfl (fun b h => by cases h) (by kernel_rfl) (by kernel_rfl) (hC20 _ _ _ _ (con_nwrites_at wr ze (by first | omega | (simp; done) | (simp; omega)) (by first | omega | (simp; done) | (simp; omega)) _)) (fun h9 => ?_) (fun h9 => ?_)
          · have c10 : wr = ze := of_decide_eq_true h9
            clear h9
            refine al_known (by kernel_rfl) ?_
            refine sk_ret ?_
            exact ⟨[.bool true], by kernel_rfl, fs_to (fs_clo rfl) (congrArg Value.bool (by first | exact (tf_true ⟨by assumption, by assumption, by assumption, by assumption, by assumption⟩).symm | exact (tf_false (fun e => absurd e.1 (by assumption))).symm | exact (tf_false (fun e => absurd e.2.1 (by assumption))).symm | exact (tf_false (fun e => absurd e.2.2.1 (by assumption))).symm | exact (tf_false (fun e => absurd e.2.2.2.1 (by assumption))).symm | exact (tf_false (fun e => absurd e.2.2.2.2 (by assumption))).symm)), Nat.le_of_ble_eq_true (by kernel_rfl)⟩
          · have c10 : ¬ (wr = ze) := of_decide_eq_false h9
            clear h9
            refine al_known (by kernel_rfl) ?_
            refine sk_ret ?_
            exact ⟨[.bool false], by kernel_rfl, fs_to (fs_clo rfl) (congrArg Value.bool (by first | exact (tf_true ⟨by assumption, by assumption, by assumption, by assumption, by assumption⟩).symm | exact (tf_false (fun e => absurd e.1 (by assumption))).symm | exact (tf_false (fun e => absurd e.2.1 (by assumption))).symm | exact (tf_false (fun e => absurd e.2.2.1 (by assumption))).symm | exact (tf_false (fun e => absurd e.2.2.2.1 (by assumption))).symm | exact (tf_false (fun e => absurd e.2.2.2.2 (by assumption))).symm)), Nat.le_of_ble_eq_true (by kernel_rfl)⟩
        · have c8 : ¬ (rs = zr ∧ ss = zs ∧ ws = zw) := of_decide_eq_false h7
          clear h7
          refine al_known (by kernel_rfl) ?_
          refine sk_ret ?_
          exact ⟨[.bool false], by kernel_rfl, fs_to (fs_clo rfl) (congrArg Value.bool (by first | exact (tf_true ⟨by assumption, by assumption, by assumption, by assumption, by assumption⟩).symm | exact (tf_false (fun e => absurd e.1 (by assumption))).symm | exact (tf_false (fun e => absurd e.2.1 (by assumption))).symm | exact (tf_false (fun e => absurd e.2.2.1 (by assumption))).symm | exact (tf_false (fun e => absurd e.2.2.2.1 (by assumption))).symm | exact (tf_false (fun e => absurd e.2.2.2.2 (by assumption))).symm)), Nat.le_of_ble_eq_true (by kernel_rfl)⟩
      · have c6 : ¬ (fu = zu ∧ co = zo) := of_decide_eq_false h5
        clear h5
        refine al_known (by kernel_rfl) ?_
        refine sk_ret ?_
        exact ⟨[.bool false], by kernel_rfl, fs_to (fs_clo rfl) (congrArg Value.bool (by first | exact (tf_true ⟨by assumption, by assumption, by assumption, by assumption, by assumption⟩).symm | exact (tf_false (fun e => absurd e.1 (by assumption))).symm | exact (tf_false (fun e => absurd e.2.1 (by assumption))).symm | exact (tf_false (fun e => absurd e.2.2.1 (by assumption))).symm | exact (tf_false (fun e => absurd e.2.2.2.1 (by assumption))).symm | exact (tf_false (fun e => absurd e.2.2.2.2 (by assumption))).symm)), Nat.le_of_ble_eq_true (by kernel_rfl)⟩
    · have c4e : ((vl == zl)) = false := Eq.trans (by kernel_rfl) h3
      clear h3
      have c4 : ¬ vl = zl := ne_of_beq_false c4e
      clear c4e
      refine al_known (by kernel_rfl) ?_
      refine sk_ret ?_
      exact ⟨[.bool false], by kernel_rfl, fs_to (fs_clo rfl) (congrArg Value.bool (by first | exact (tf_true ⟨by assumption, by assumption, by assumption, by assumption, by assumption⟩).symm | exact (tf_false (fun e => absurd e.1 (by assumption))).symm | exact (tf_false (fun e => absurd e.2.1 (by assumption))).symm | exact (tf_false (fun e => absurd e.2.2.1 (by assumption))).symm | exact (tf_false (fun e => absurd e.2.2.2.1 (by assumption))).symm | exact (tf_false (fun e => absurd e.2.2.2.2 (by assumption))).symm)), Nat.le_of_ble_eq_true (by kernel_rfl)⟩
  · have c2e : ((sq : Int) == zq) = false := Eq.trans (by kernel_rfl) h1
    clear h1
    have c2 : ¬ (sq : Int) = zq := ne_of_beq_false c2e
    clear c2e
    refine al_known (by kernel_rfl) ?_
    refine sk_ret ?_
    exact ⟨[.bool false], by kernel_rfl, fs_to (fs_clo rfl) (congrArg Value.bool (by first | exact (tf_true ⟨by assumption, by assumption, by assumption, by assumption, by assumption⟩).symm | exact (tf_false (fun e => absurd e.1 (by assumption))).symm | exact (tf_false (fun e => absurd e.2.1 (by assumption))).symm | exact (tf_false (fun e => absurd e.2.2.1 (by assumption))).symm | exact (tf_false (fun e => absurd e.2.2.2.1 (by assumption))).symm | exact (tf_false (fun e => absurd e.2.2.2.2 (by assumption))).symm)), Nat.le_of_ble_eq_true (by kernel_rfl)⟩
noncomputable def con_rsame : Con Try.prog 0 := Con.pure (α := Int × Bool × Int × (List Code) × (List Key) × (List Span) × (List Key) × (List Wr) × Int × Bool × Int × (List Code) × (List Key) × (List Span) × (List Key) × (List Wr)) 11 (fun z9 => [.agg #[.int .i64 z9.1, .bool z9.2.1, .int .i64 z9.2.2.1, inlL ccells 6 z9.2.2.2.1, inlL kcells 2 z9.2.2.2.2.1, inlL scells 3 z9.2.2.2.2.2.1, inlL kcells 2 z9.2.2.2.2.2.2.1, inlL wcells 4 z9.2.2.2.2.2.2.2.1], .agg #[.int .i64 z9.2.2.2.2.2.2.2.2.1, .bool z9.2.2.2.2.2.2.2.2.2.1, .int .i64 z9.2.2.2.2.2.2.2.2.2.2.1, inlL ccells 6 z9.2.2.2.2.2.2.2.2.2.2.2.1, inlL kcells 2 z9.2.2.2.2.2.2.2.2.2.2.2.2.1, inlL scells 3 z9.2.2.2.2.2.2.2.2.2.2.2.2.2.1, inlL kcells 2 z9.2.2.2.2.2.2.2.2.2.2.2.2.2.2.1, inlL wcells 4 z9.2.2.2.2.2.2.2.2.2.2.2.2.2.2.2]]) (fun z9 => .bool (tf (z9.1 = z9.2.2.2.2.2.2.2.2.1 ∧ z9.2.1 = z9.2.2.2.2.2.2.2.2.2.1 ∧ ((z9.2.2.1 : Int) = z9.2.2.2.2.2.2.2.2.2.2.1 ∧ z9.2.2.2.1 = z9.2.2.2.2.2.2.2.2.2.2.2.1) ∧ (z9.2.2.2.2.1 = z9.2.2.2.2.2.2.2.2.2.2.2.2.1 ∧ z9.2.2.2.2.2.1 = z9.2.2.2.2.2.2.2.2.2.2.2.2.2.1 ∧ z9.2.2.2.2.2.2.1 = z9.2.2.2.2.2.2.2.2.2.2.2.2.2.2.1) ∧ z9.2.2.2.2.2.2.2.1 = z9.2.2.2.2.2.2.2.2.2.2.2.2.2.2.2))) (fun z9 => (z9.2.2.2.1.length ≤ 1000000) ∧ (z9.2.2.2.2.1.length ≤ 1000000) ∧ (z9.2.2.2.2.2.1.length ≤ 1000000) ∧ (z9.2.2.2.2.2.2.1.length ≤ 1000000) ∧ (z9.2.2.2.2.2.2.2.1.length ≤ 1000000) ∧ (z9.2.2.2.2.2.2.2.2.2.2.2.1.length ≤ 1000000) ∧ (z9.2.2.2.2.2.2.2.2.2.2.2.2.1.length ≤ 1000000) ∧ (z9.2.2.2.2.2.2.2.2.2.2.2.2.2.1.length ≤ 1000000) ∧ (z9.2.2.2.2.2.2.2.2.2.2.2.2.2.2.1.length ≤ 1000000) ∧ (z9.2.2.2.2.2.2.2.2.2.2.2.2.2.2.2.length ≤ 1000000)) (by
  rintro ⟨a0, a1, a2, a3, a4, a5, a6, a7, a8, a9, a10, a11, a12, a13, a14, a15⟩ ⟨b0, b1, b2, b3, b4, b5, b6, b7, b8, b9, b10, b11, b12, b13, b14, b15⟩ h
  simp only [List.cons.injEq, and_true, Int.natCast_inj, UInt8.toNat_inj, Value.int.injEq, Value.bool.injEq, Value.string.injEq, Value.agg.injEq, Array.mk.injEq, true_and, ccells_iff, kcells_iff, scells_iff, wcells_iff] at h
  first | exact h | (simp only [Prod.ext_iff, h, and_self, and_true, true_and]; done) | simp_all [Prod.ext_iff]) (fun _ => rfl) (fun _ => rfl) 400 (by
  rintro ⟨a0, a1, a2, a3, a4, a5, a6, a7, a8, a9, a10, a11, a12, a13, a14, a15⟩ ⟨p0, p1, p2, p3, p4, p5, p6, p7, p8, p9⟩
  exact rsame_sc a0 a1 a2 a3 a4 a5 a6 a7 a8 a9 a10 a11 a12 a13 a14 a15 p0 p1 p2 p3 p4 p5 p6 p7 p8 p9)
theorem con_rsame_at (sq : Int) (vl : Bool) (fu : Int) (co : List Code) (rs : List Key) (ss : List Span) (ws : List Key) (wr : List Wr) (zq : Int) (zl : Bool) (zu : Int) (zo : List Code) (zr : List Key) (zs : List Span) (zw : List Key) (ze : List Wr) (h0 : co.length ≤ 1000000) (h1 : rs.length ≤ 1000000) (h2 : ss.length ≤ 1000000) (h3 : ws.length ≤ 1000000) (h4 : wr.length ≤ 1000000) (h5 : zo.length ≤ 1000000) (h6 : zr.length ≤ 1000000) (h7 : zs.length ≤ 1000000) (h8 : zw.length ≤ 1000000) (h9 : ze.length ≤ 1000000) (s : St) : con_rsame.rel [.agg #[.int .i64 sq, .bool vl, .int .i64 fu, inlL ccells 6 co, inlL kcells 2 rs, inlL scells 3 ss, inlL kcells 2 ws, inlL wcells 4 wr], .agg #[.int .i64 zq, .bool zl, .int .i64 zu, inlL ccells 6 zo, inlL kcells 2 zr, inlL scells 3 zs, inlL kcells 2 zw, inlL wcells 4 ze]] s (.bool (tf (sq = zq ∧ vl = zl ∧ ((fu : Int) = zu ∧ co = zo) ∧ (rs = zr ∧ ss = zs ∧ ws = zw) ∧ wr = ze))) s := con_pure (sq, vl, fu, co, rs, ss, ws, wr, zq, zl, zu, zo, zr, zs, zw, ze) ⟨h0, h1, h2, h3, h4, h5, h6, h7, h8, h9⟩ s
theorem large_fn : Try.cfg.fn 7 = some Try.f7 := by kernel_rfl
set_option maxHeartbeats 4000000 in
set_option maxRecDepth 100000 in
theorem large_sc (sq : Int) (vl : Bool) (fu : Int) (co : List Code) (rs : List Key) (ss : List Span) (ws : List Key) (wr : List Wr)  : SC Try.prog 0 7 [.agg #[.int .i64 sq, .bool vl, .int .i64 fu, inlL ccells 6 co, inlL kcells 2 rs, inlL scells 3 ss, inlL kcells 2 ws, inlL wcells 4 wr]] (St.empty 0) fun v s' => v = .bool (decide (co.length > 60 ∨ rs.length > 40 ∨ ss.length > 40 ∨ ws.length > 40 ∨ wr.length > 60)) ∧ s'.n ≤ 400 := by
  have hS := sound_run Try.cfgOk 300
  refine sc_ice0 (N := 400) (v2 := .bool (decide (co.length > 60 ∨ rs.length > 40 ∨ ss.length > 40 ∨ ws.length > 40 ∨ wr.length > 60))) (Q := fun v s' => FS 0 s' v (.bool (decide (co.length > 60 ∨ rs.length > 40 ∨ ss.length > 40 ∨ ws.length > 40 ∨ wr.length > 60))) ∧ s'.n ≤ 400) ?_ (fun _ _ h => h)
  refine sc_body Try.cfgOk large_fn rfl ?_
  refine sk_seq ?_
  refine sk_regionK Try.cfgOk hS (by kernel_rfl) ?_
  refine sk_seq ?_
  refine sk_regionL Try.cfgOk hS ?_
  refine al_chunk 3 (by kernel_rfl) ?_
  refine al_map (lenB Try.cfg (St.empty 0) 22 (inlL ccells 6 co)) (.int .i64 ((co.length : Nat) : Int)) (by kernel_rfl) (by kernel_rfl) (by kernel_rfl) (len_inl tokC (by kernel_rfl)) ?_
  refine al_test (by kernel_rfl) (by kernel_rfl) (by kernel_rfl) (fun h1 => ?_) (fun h1 => ?_)
  · have c2e : (decide ((((co.length : Nat) : Int) : Int) > 60)) = true := Eq.trans (by kernel_rfl) h1
    clear h1
    have c2 : (((co.length : Nat) : Int) : Int) > 60 := of_decide_eq_true c2e
    clear c2e
    refine al_known (by kernel_rfl) ?_
    refine sk_ret ?_
    exact ⟨[.bool true], by kernel_rfl, fs_to (fs_clo rfl) (congrArg Value.bool (by first | exact (decide_eq_true (by omega)).symm | exact (decide_eq_false (by omega)).symm)), Nat.le_of_ble_eq_true (by kernel_rfl)⟩
  · have c2e : (decide ((((co.length : Nat) : Int) : Int) > 60)) = false := Eq.trans (by kernel_rfl) h1
    clear h1
    have c2 : ¬ (((co.length : Nat) : Int) : Int) > 60 := of_decide_eq_false c2e
    clear c2e
    refine al_chunk 4 (by kernel_rfl) ?_
    refine al_map (lenB Try.cfg (St.empty 0) 25 (inlL kcells 2 rs)) (.int .i64 ((rs.length : Nat) : Int)) (by kernel_rfl) (by kernel_rfl) (by kernel_rfl) (len_inl tokC (by kernel_rfl)) ?_
    refine al_test (by kernel_rfl) (by kernel_rfl) (by kernel_rfl) (fun h3 => ?_) (fun h3 => ?_)
    · have c4e : (decide ((((rs.length : Nat) : Int) : Int) > 40)) = true := Eq.trans (by kernel_rfl) h3
      clear h3
      have c4 : (((rs.length : Nat) : Int) : Int) > 40 := of_decide_eq_true c4e
      clear c4e
      refine al_known (by kernel_rfl) ?_
      refine sk_ret ?_
      exact ⟨[.bool true], by kernel_rfl, fs_to (fs_clo rfl) (congrArg Value.bool (by first | exact (decide_eq_true (by omega)).symm | exact (decide_eq_false (by omega)).symm)), Nat.le_of_ble_eq_true (by kernel_rfl)⟩
    · have c4e : (decide ((((rs.length : Nat) : Int) : Int) > 40)) = false := Eq.trans (by kernel_rfl) h3
      clear h3
      have c4 : ¬ (((rs.length : Nat) : Int) : Int) > 40 := of_decide_eq_false c4e
      clear c4e
      refine al_chunk 5 (by kernel_rfl) ?_
      refine al_map (lenB Try.cfg (St.empty 0) 26 (inlL scells 3 ss)) (.int .i64 ((ss.length : Nat) : Int)) (by kernel_rfl) (by kernel_rfl) (by kernel_rfl) (len_inl tokC (by kernel_rfl)) ?_
      refine al_test (by kernel_rfl) (by kernel_rfl) (by kernel_rfl) (fun h5 => ?_) (fun h5 => ?_)
      · have c6e : (decide ((((ss.length : Nat) : Int) : Int) > 40)) = true := Eq.trans (by kernel_rfl) h5
        clear h5
        have c6 : (((ss.length : Nat) : Int) : Int) > 40 := of_decide_eq_true c6e
        clear c6e
        refine al_known (by kernel_rfl) ?_
        refine sk_ret ?_
        exact ⟨[.bool true], by kernel_rfl, fs_to (fs_clo rfl) (congrArg Value.bool (by first | exact (decide_eq_true (by omega)).symm | exact (decide_eq_false (by omega)).symm)), Nat.le_of_ble_eq_true (by kernel_rfl)⟩
      · have c6e : (decide ((((ss.length : Nat) : Int) : Int) > 40)) = false := Eq.trans (by kernel_rfl) h5
        clear h5
        have c6 : ¬ (((ss.length : Nat) : Int) : Int) > 40 := of_decide_eq_false c6e
        clear c6e
        refine al_chunk 5 (by kernel_rfl) ?_
        refine al_map (lenB Try.cfg (St.empty 0) 25 (inlL kcells 2 ws)) (.int .i64 ((ws.length : Nat) : Int)) (by kernel_rfl) (by kernel_rfl) (by kernel_rfl) (len_inl tokC (by kernel_rfl)) ?_
        refine al_test (by kernel_rfl) (by kernel_rfl) (by kernel_rfl) (fun h7 => ?_) (fun h7 => ?_)
        · have c8e : (decide ((((ws.length : Nat) : Int) : Int) > 40)) = true := Eq.trans (by kernel_rfl) h7
          clear h7
          have c8 : (((ws.length : Nat) : Int) : Int) > 40 := of_decide_eq_true c8e
          clear c8e
          refine al_known (by kernel_rfl) ?_
          refine sk_ret ?_
          exact ⟨[.bool true], by kernel_rfl, fs_to (fs_clo rfl) (congrArg Value.bool (by first | exact (decide_eq_true (by omega)).symm | exact (decide_eq_false (by omega)).symm)), Nat.le_of_ble_eq_true (by kernel_rfl)⟩
        · have c8e : (decide ((((ws.length : Nat) : Int) : Int) > 40)) = false := Eq.trans (by kernel_rfl) h7
          clear h7
          have c8 : ¬ (((ws.length : Nat) : Int) : Int) > 40 := of_decide_eq_false c8e
          clear c8e
          refine al_chunk 4 (by kernel_rfl) ?_
          refine al_map (lenB Try.cfg (St.empty 0) 29 (inlL wcells 4 wr)) (.int .i64 ((wr.length : Nat) : Int)) (by kernel_rfl) (by kernel_rfl) (by kernel_rfl) (len_inl tokC (by kernel_rfl)) ?_
          refine al_test (by kernel_rfl) (by kernel_rfl) (by kernel_rfl) (fun h9 => ?_) (fun h9 => ?_)
          · have c10e : (decide ((((wr.length : Nat) : Int) : Int) > 60)) = true := Eq.trans (by kernel_rfl) h9
            clear h9
            have c10 : (((wr.length : Nat) : Int) : Int) > 60 := of_decide_eq_true c10e
            clear c10e
            refine al_known (by kernel_rfl) ?_
            refine sk_ret ?_
            exact ⟨[.bool true], by kernel_rfl, fs_to (fs_clo rfl) (congrArg Value.bool (by first | exact (decide_eq_true (by omega)).symm | exact (decide_eq_false (by omega)).symm)), Nat.le_of_ble_eq_true (by kernel_rfl)⟩
          · have c10e : (decide ((((wr.length : Nat) : Int) : Int) > 60)) = false := Eq.trans (by kernel_rfl) h9
            clear h9
            have c10 : ¬ (((wr.length : Nat) : Int) : Int) > 60 := of_decide_eq_false c10e
            clear c10e
            refine al_known (by kernel_rfl) ?_
            refine sk_ret ?_
            exact ⟨[.bool false], by kernel_rfl, fs_to (fs_clo rfl) (congrArg Value.bool (by first | exact (decide_eq_true (by omega)).symm | exact (decide_eq_false (by omega)).symm)), Nat.le_of_ble_eq_true (by kernel_rfl)⟩
noncomputable def con_large : Con Try.prog 0 := Con.pure (α := Int × Bool × Int × (List Code) × (List Key) × (List Span) × (List Key) × (List Wr)) 7 (fun z9 => [.agg #[.int .i64 z9.1, .bool z9.2.1, .int .i64 z9.2.2.1, inlL ccells 6 z9.2.2.2.1, inlL kcells 2 z9.2.2.2.2.1, inlL scells 3 z9.2.2.2.2.2.1, inlL kcells 2 z9.2.2.2.2.2.2.1, inlL wcells 4 z9.2.2.2.2.2.2.2]]) (fun z9 => .bool (decide (z9.2.2.2.1.length > 60 ∨ z9.2.2.2.2.1.length > 40 ∨ z9.2.2.2.2.2.1.length > 40 ∨ z9.2.2.2.2.2.2.1.length > 40 ∨ z9.2.2.2.2.2.2.2.length > 60))) (fun z9 => True) (by
  rintro ⟨a0, a1, a2, a3, a4, a5, a6, a7⟩ ⟨b0, b1, b2, b3, b4, b5, b6, b7⟩ h
  simp only [List.cons.injEq, and_true, Int.natCast_inj, UInt8.toNat_inj, Value.int.injEq, Value.bool.injEq, Value.string.injEq, Value.agg.injEq, Array.mk.injEq, true_and, ccells_iff, kcells_iff, scells_iff, wcells_iff] at h
  first | exact h | (simp only [Prod.ext_iff, h, and_self, and_true, true_and]; done) | simp_all [Prod.ext_iff]) (fun _ => rfl) (fun _ => rfl) 400 (by
  rintro ⟨a0, a1, a2, a3, a4, a5, a6, a7⟩ _
  exact large_sc a0 a1 a2 a3 a4 a5 a6 a7 )
theorem con_large_at (sq : Int) (vl : Bool) (fu : Int) (co : List Code) (rs : List Key) (ss : List Span) (ws : List Key) (wr : List Wr)  (s : St) : con_large.rel [.agg #[.int .i64 sq, .bool vl, .int .i64 fu, inlL ccells 6 co, inlL kcells 2 rs, inlL scells 3 ss, inlL kcells 2 ws, inlL wcells 4 wr]] s (.bool (decide (co.length > 60 ∨ rs.length > 40 ∨ ss.length > 40 ∨ ws.length > 40 ∨ wr.length > 60))) s := con_pure (sq, vl, fu, co, rs, ss, ws, wr) trivial s
end Go.Proofs.Ytegigohhnplomaa