/- Two feet: the same? -/
import Derived.Test.YtekeepgjegkedaaGood
import Derived.Test.YtekeepgjegkedaaJoin
import Derived.Test.YtekeepgjegkedaaLarge
set_option linter.unusedVariables false
set_option linter.unusedSimpArgs false
set_option linter.unnecessarySimpa false
namespace Go.Proofs.Ytekeepgjegkedaa
open Go.Ai
theorem nkeys_fn : Try.cfg.fn 38 = some Try.f38 := by kernel_rfl
set_option maxHeartbeats 4000000 in
set_option maxRecDepth 100000 in
theorem nkeys_sc (la : List Key) (lb : List Key) (h0 : la.length ≤ 1000000) (h1 : lb.length ≤ 1000000) : SC Try.prog 0 38 [inlL kcells 2 la, inlL kcells 2 lb] (St.empty 0) fun v s' => v = .bool (decide (la = lb)) ∧ s'.n ≤ 400 := by
  have hS := sound_run Try.cfgOk 300
  refine sc_ice0 (N := 400) (v2 := .bool (decide (la = lb))) (Q := fun v s' => FS 0 s' v (.bool (decide (la = lb))) ∧ s'.n ≤ 400) ?_ (fun _ _ h => h)
  refine sc_body Try.cfgOk nkeys_fn rfl ?_
  refine sk_seq ?_
  refine kK Try.cfgOk hS ?_
  refine sk_seq (sk_seq ?_)
  refine sk_regionL Try.cfgOk hS ?_
  refine aK 1 ?_
  refine aM (lenB Try.cfg (St.empty 0) 22 (inlL kcells 2 la)) (.int .i64 ((la.length : Nat) : Int)) (len_inl tokC (by kernel_rfl)) ?_
  refine aK 1 ?_
  refine aM (lenB Try.cfg (St.empty 0) 22 (inlL kcells 2 lb)) (.int .i64 ((lb.length : Nat) : Int)) (len_inl tokC (by kernel_rfl)) ?_
  refine aT (fun h1 => ?_) (fun h1 => ?_)
  · have c2e : ((((la.length : Nat) : Int) : Int) != ((lb.length : Nat) : Int)) = true := Eq.trans (by kernel_rfl) h1
    clear h1
    have c2 : ¬ (((la.length : Nat) : Int) : Int) = ((lb.length : Nat) : Int) := bne_iff_ne.1 c2e
    clear c2e
    refine al_nil ?_
    refine kT ?_
    refine sk_seq ?_
    refine kK Try.cfgOk hS ?_
    refine sk_ret ?_
    exact ⟨[.bool false], by kernel_rfl, fs_to (fs_clo rfl) (congrArg Value.bool (by first | exact (decide_eq_false (by assumption)).symm | exact (decide_eq_true (take_all (by assumption) (by assumption) (by omega))).symm | exact (decide_eq_false (fun e => by subst e; omega)).symm)), Nat.le_of_ble_eq_true (by kernel_rfl)⟩
  · have c2e : ((((la.length : Nat) : Int) : Int) != ((lb.length : Nat) : Int)) = false := Eq.trans (by kernel_rfl) h1
    clear h1
    have c2 : (((la.length : Nat) : Int) : Int) = ((lb.length : Nat) : Int) := bne_eq_false_iff_eq.1 c2e
    clear c2e
    refine al_nil ?_
    refine kF ?_
    refine sk_skip (sk_seq (sk_seq ?_))
    refine sk_regionL Try.cfgOk hS ?_
    refine aK 1 ?_
    refine aM (lenB Try.cfg (St.empty 0) 22 (inlL kcells 2 la)) (.int .i64 ((la.length : Nat) : Int)) (len_inl tokC (by kernel_rfl)) ?_
    refine aN ?_
    refine sk_block ?_
    refine sk_live 26 ((fun a : Nat => [(0, inlL kcells 2 la), (1, inlL kcells 2 lb), (12, .int .i64 ((la.length : Nat) : Int)), (13, .int .i64 ((a : Nat) : Int))]) 0) (by kernel_rfl) ⟨by kernel_rfl, by kernel_rfl, by kernel_rfl, by kernel_rfl, trivial⟩ fun m3 => ?_
    refine sk_st ((fun a : Nat => (St.empty 0)) 0) (by kernel_rfl) ?_
    refine (sk_while (k := 0) (N := 400) (live := (fun a : Nat => [(0, inlL kcells 2 la), (1, inlL kcells 2 lb), (12, .int .i64 ((la.length : Nat) : Int)), (13, .int .i64 ((a : Nat) : Int))])) (M := (fun a : Nat => (St.empty 0))) (fun a : Nat => (a ≤ la.length) ∧ (la.take a = lb.take a)) (fun a : Nat => la.length - a) (fun (a : Nat) (o : Out) (lv : List (Nat × Value)) (M : St) => (o = .exit 0 ∧ (¬ a < la.length) ∧ lv = [(0, inlL kcells 2 la), (1, inlL kcells 2 lb), (12, .int .i64 ((la.length : Nat) : Int)), (13, .int .i64 ((a : Nat) : Int))] ∧ M = (St.empty 0)) ∨ (o = .ret ∧ (¬ la = lb) ∧ lv = [(4, .bool false)] ∧ M = (St.empty 0))) (Nat.zero_le _) (fun a ha => ?_) (fun a ha => ?_) (fun a m ha => ?_) (fun a m ha => ?_) 0 m3 ?_).up ?_
    · exact ⟨by kernel_rfl, (wf_empty 0), (fun i hi => absurd hi (Nat.not_lt_zero i))⟩
    · exact ⟨sub_clo rfl, sub_clo rfl, sub_clo rfl, sub_clo rfl, trivial⟩
    · exact ⟨by kernel_rfl, by kernel_rfl, by kernel_rfl, by kernel_rfl, trivial⟩
    · obtain ⟨i, ea⟩ : ∃ z, z = a := ⟨_, rfl⟩
      subst ea
      obtain ⟨i0, i1⟩ := ha
      refine sk_seq ?_
      refine sk_regionL Try.cfgOk hS ?_
      refine aT (fun h4 => ?_) (fun h4 => ?_)
      · have c5e : (decide ((((i : Nat) : Int) : Int) < ((la.length : Nat) : Int))) = true := Eq.trans (by kernel_rfl) h4
        clear h4
        have c5 : (((i : Nat) : Int) : Int) < ((la.length : Nat) : Int) := of_decide_eq_true c5e
        clear c5e
        refine al_nil ?_
        refine sk_seq ?_
        refine kT ?_
        refine sk_skip (sk_seq (sk_block (sk_seq ?_)))
        refine kK Try.cfgOk hS ?_
        refine sk_seq ?_
        refine sk_drawL Try.cfgOk hS ?_
        refine dK 2 ?_
        refine dM (indexAddrV Try.cfg 22 (inlL kcells 2 la) (.int .i64 ((i : Nat) : Int))) (elt (flatL kcells la) (i * 2)) (idx_inlL tokC (by kernel_rfl) (by first | omega | simp)) ?_
        have hx6l : i < la.length := by omega
        refine Exists.elim (get_ex hx6l) fun x6 hx6 => ?_
        clear hx6l
        refine dM (loadV Try.cfg (St.empty 0) 30 (elt (flatL kcells la) (i * 2))) (.agg #[.int .i64 x6.1, .int .i64 x6.2]) (load_el tokC (by kernel_rfl) kcells_len hx6) ?_
        refine dK 2 ?_
        refine dM (indexAddrV Try.cfg 22 (inlL kcells 2 lb) (.int .i64 ((i : Nat) : Int))) (elt (flatL kcells lb) (i * 2)) (idx_inlL tokC (by kernel_rfl) (by first | omega | simp)) ?_
        have hx7l : i < lb.length := by omega
        refine Exists.elim (get_ex hx7l) fun x7 hx7 => ?_
        clear hx7l
        refine dM (loadV Try.cfg (St.empty 0) 30 (elt (flatL kcells lb) (i * 2))) (.agg #[.int .i64 x7.1, .int .i64 x7.2]) (load_el tokC (by kernel_rfl) kcells_len hx7) ?_
        refine dT (fun h8 => ?_) (fun h8 => ?_)
        · have c9e : (!((x6.1 == x7.1) && ((x6.2 == x7.2) && true))) = true := Eq.trans (by kernel_rfl) h8
          clear h8
          have c9 : ¬ (x6.1 = x7.1 ∧ x6.2 = x7.2) := fun q => Bool.noConfusion (((not_t c9e)).symm.trans (and_i (beq_iff_eq.2 q.1) (and_i (beq_iff_eq.2 q.2) (rfl))))
          clear c9e
          refine ald_nil ?_
          refine kT ?_
          refine sk_seq ?_
          refine kK Try.cfgOk hS ?_
          refine sk_ret ?_
          refine .inr ⟨_, _, (fun h => by cases h), .inr ⟨rfl, ?_, rfl, rfl⟩, ⟨by kernel_rfl, ⟨by kernel_rfl, trivial⟩, ⟨sub_clo rfl, trivial⟩, Nat.le_of_ble_eq_true (by kernel_rfl), ⟨by kernel_rfl, (wf_empty 0), (fun i hi => absurd hi (Nat.not_lt_zero i))⟩, mem_all (by kernel_rfl)⟩⟩
          · exact ne_at (by assumption) (by assumption) (fun e => by subst e; omega)
        · have c9e : (!((x6.1 == x7.1) && ((x6.2 == x7.2) && true))) = false := Eq.trans (by kernel_rfl) h8
          clear h8
          have c9 : x6.1 = x7.1 ∧ x6.2 = x7.2 := ⟨eq_of_beq (and_l (not_f c9e)), eq_of_beq (and_l (and_r (not_f c9e)))⟩
          clear c9e
          refine ald_nil ?_
          refine kF ?_
          refine sk_skip ?_
          refine sk_regionL Try.cfgOk hS ?_
          refine aE (v := .int .i64 (IntKind.wrap .i64 (((i : Nat) : Int) + 1))) (.int .i64 ((i + 1 : Nat) : Int)) (congrArg (Value.int .i64) (wrap_to (by omega) (by omega))) ?_
          refine aN ?_
          refine .inl ⟨i + 1, rfl, ⟨?_, ?_⟩, ?_, ⟨by kernel_rfl, ⟨by kernel_rfl, by kernel_rfl, by kernel_rfl, by kernel_rfl, trivial⟩, ⟨sub_clo rfl, sub_clo rfl, sub_clo rfl, sub_clo rfl, trivial⟩, Nat.le_of_ble_eq_true (by kernel_rfl), ⟨by kernel_rfl, (wf_empty 0), (fun i hi => absurd hi (Nat.not_lt_zero i))⟩, mem_all (by kernel_rfl)⟩⟩
          · (try dsimp only); omega
          · (try dsimp only); exact take_eq_succ (by assumption) (by assumption) (by assumption) (Prod.ext (by omega) (by omega))
          · omega
      · have c5e : (decide ((((i : Nat) : Int) : Int) < ((la.length : Nat) : Int))) = false := Eq.trans (by kernel_rfl) h4
        clear h4
        have c5 : ¬ (((i : Nat) : Int) : Int) < ((la.length : Nat) : Int) := of_decide_eq_false c5e
        clear c5e
        refine al_nil ?_
        refine sk_seq ?_
        refine kF ?_
        refine sk_exit ?_
        dsimp only
        refine .inr ⟨_, _, (fun h => by cases h), .inl ⟨rfl, ?_, rfl, rfl⟩, ⟨by kernel_rfl, ⟨by kernel_rfl, by kernel_rfl, by kernel_rfl, by kernel_rfl, trivial⟩, ⟨sub_clo rfl, sub_clo rfl, sub_clo rfl, sub_clo rfl, trivial⟩, Nat.le_of_ble_eq_true (by kernel_rfl), ⟨by kernel_rfl, (wf_empty 0), (fun i hi => absurd hi (Nat.not_lt_zero i))⟩, mem_all (by kernel_rfl)⟩⟩
        · omega
    · exact ⟨by ((try dsimp only); first | done | (omega)), by ((try dsimp only); first | done | (rfl))⟩
    rintro o e1 s1 ⟨a, lv1, M1, m3, ha, (⟨rfl, hx, rfl, rfl⟩ | ⟨rfl, hx, rfl, rfl⟩), rfl, rfl⟩
    ·
      obtain ⟨i, ea⟩ : ∃ z, z = a := ⟨_, rfl⟩
      subst ea
      obtain ⟨i0, i1⟩ := ha
      dsimp only
      try rw [if_pos rfl]
      refine sk_seq ?_
      refine kK Try.cfgOk hS ?_
      refine sk_ret ?_
      exact ⟨[.bool true], by kernel_rfl, fs_to (fs_clo rfl) (congrArg Value.bool (by first | exact (decide_eq_false (by assumption)).symm | exact (decide_eq_true (take_all (by assumption) (by assumption) (by omega))).symm | exact (decide_eq_false (fun e => by subst e; omega)).symm)), Nat.le_of_ble_eq_true (by kernel_rfl)⟩
    ·
      obtain ⟨i, ea⟩ : ∃ z, z = a := ⟨_, rfl⟩
      subst ea
      obtain ⟨i0, i1⟩ := ha
      dsimp only
      exact ⟨[.bool false], by kernel_rfl, fs_to (fs_clo rfl) (congrArg Value.bool (by first | exact (decide_eq_false (by assumption)).symm | exact (decide_eq_true (take_all (by assumption) (by assumption) (by omega))).symm | exact (decide_eq_false (fun e => by subst e; omega)).symm)), Nat.le_of_ble_eq_true (by kernel_rfl)⟩
noncomputable def con_nkeys : Con Try.prog 0 := Con.pure (α := (List Key) × (List Key)) 38 (fun z9 => [inlL kcells 2 z9.1, inlL kcells 2 z9.2]) (fun z9 => .bool (decide (z9.1 = z9.2))) (fun z9 => (z9.1.length ≤ 1000000) ∧ (z9.2.length ≤ 1000000)) (by
  rintro ⟨a0, a1⟩ ⟨b0, b1⟩ h
  simp only [List.cons.injEq, and_true, Int.natCast_inj, UInt8.toNat_inj, Value.int.injEq, Value.bool.injEq, Value.string.injEq, Value.agg.injEq, Array.mk.injEq, true_and, kcells_iff] at h
  first | exact h | (simp only [Prod.ext_iff, h, and_self, and_true, true_and]; done) | simp_all [Prod.ext_iff]) (fun _ => rfl) (fun _ => rfl) 400 (by
  rintro ⟨a0, a1⟩ ⟨p0, p1⟩
  exact nkeys_sc a0 a1 p0 p1)
theorem con_nkeys_at (la : List Key) (lb : List Key) (h0 : la.length ≤ 1000000) (h1 : lb.length ≤ 1000000) (s : St) : con_nkeys.rel [inlL kcells 2 la, inlL kcells 2 lb] s (.bool (decide (la = lb))) s := con_pure (la, lb) ⟨h0, h1⟩ s
theorem nfeet_fn : Try.cfg.fn 12 = some Try.f12 := by kernel_rfl
set_option maxHeartbeats 4000000 in
set_option maxRecDepth 100000 in
theorem nfeet_sc (ar : List Key) (az : List Span) (aw : List Key) (br : List Key) (bz : List Span) (bw : List Key) (h0 : ar.length ≤ 1000000) (h1 : az.length ≤ 1000000) (h2 : aw.length ≤ 1000000) (h3 : br.length ≤ 1000000) (h4 : bz.length ≤ 1000000) (h5 : bw.length ≤ 1000000) : SC Try.prog 0 12 [.agg #[inlL kcells 2 ar, inlL scells 3 az, inlL kcells 2 aw], .agg #[inlL kcells 2 br, inlL scells 3 bz, inlL kcells 2 bw]] (St.empty 0) fun v s' => v = .bool (decide (ar = br ∧ az = bz ∧ aw = bw)) ∧ s'.n ≤ 400 := by
  obtain ⟨rc, hS, hC⟩ := rc_con (sound_run Try.cfgOk 300) [con_nkeys] (by kernel_rfl)
  have hC38 := hC con_nkeys (.head _)
  refine sc_ice0 (N := 400) (v2 := .bool (decide (ar = br ∧ az = bz ∧ aw = bw))) (Q := fun v s' => FS 0 s' v (.bool (decide (ar = br ∧ az = bz ∧ aw = bw))) ∧ s'.n ≤ 400) ?_ (fun _ _ h => h)
  refine sc_body Try.cfgOk nfeet_fn rfl ?_
  refine sk_seq ?_
  refine kK Try.cfgOk hS ?_
  refine sk_seq (sk_seq ?_)
  refine sk_regionL Try.cfgOk hS ?_
  refine aK 2 ?_
  refine aM (lenB Try.cfg (St.empty 0) 23 (inlL scells 3 az)) (.int .i64 ((az.length : Nat) : Int)) (len_inl tokC (by kernel_rfl)) ?_
  refine aK 2 ?_
  refine aM (lenB Try.cfg (St.empty 0) 23 (inlL scells 3 bz)) (.int .i64 ((bz.length : Nat) : Int)) (len_inl tokC (by kernel_rfl)) ?_
  refine aT (fun h1 => ?_) (fun h1 => ?_)
  · have c2e : ((((az.length : Nat) : Int) : Int) != ((bz.length : Nat) : Int)) = true := Eq.trans (by kernel_rfl) h1
    clear h1
    have c2 : ¬ (((az.length : Nat) : Int) : Int) = ((bz.length : Nat) : Int) := bne_iff_ne.1 c2e
    clear c2e
    refine aN ?_
    refine kT ?_
    refine sk_seq ?_
    refine kK Try.cfgOk hS ?_
    refine sk_ret ?_
    exact ⟨[.bool false], by kernel_rfl, fs_to (fs_clo rfl) (congrArg Value.bool (by first | exact (decide_eq_true ⟨by assumption, take_all (by assumption) (by assumption) (by omega), by assumption⟩).symm | exact (decide_eq_false (fun e => absurd e.2.1 (by assumption))).symm | exact (decide_eq_false (fun e => absurd e.1 (by assumption))).symm | exact (decide_eq_false (fun e => absurd e.2.2 (by assumption))).symm | exact (decide_eq_false (fun e => by have := congrArg List.length e.2.1; omega)).symm)), Nat.le_of_ble_eq_true (by kernel_rfl)⟩
  · have c2e : ((((az.length : Nat) : Int) : Int) != ((bz.length : Nat) : Int)) = false := Eq.trans (by kernel_rfl) h1
    clear h1
    have c2 : (((az.length : Nat) : Int) : Int) = ((bz.length : Nat) : Int) := bne_eq_false_iff_eq.1 c2e
    clear c2e
    refine aK 5 ?_
    refine aB 38 [inlL kcells 2 ar, inlL kcells 2 br] (decide (ar = br)) _ rfl (hC38 _ _ _ _ (con_nkeys_at ar br (by first | omega | (simp; done) | (simp; omega)) (by first | omega | (simp; done) | (simp; omega)) _)) (fun h3 => ?_) (fun h3 => ?_)
    · have c4 : ar = br := of_decide_eq_true h3
      clear h3
      refine aK 7 ?_
      refine aB 38 [inlL kcells 2 aw, inlL kcells 2 bw] (decide (aw = bw)) _ rfl (hC38 _ _ _ _ (con_nkeys_at aw bw (by first | omega | (simp; done) | (simp; omega)) (by first | omega | (simp; done) | (simp; omega)) _)) (fun h5 => ?_) (fun h5 => ?_)
      · have c6 : aw = bw := of_decide_eq_true h5
        clear h5
        refine aN ?_
        refine kF ?_
        refine sk_skip (sk_seq (sk_seq ?_))
        refine sk_regionL Try.cfgOk hS ?_
        refine aK 2 ?_
        refine aM (lenB Try.cfg (St.empty 0) 23 (inlL scells 3 az)) (.int .i64 ((az.length : Nat) : Int)) (len_inl tokC (by kernel_rfl)) ?_
        refine aN ?_
        refine sk_block ?_
        refine sk_live 47 ((fun a : Nat => [(2, .pointer (some ⟨0, 0, none⟩)), (3, .pointer (some ⟨1, 0, none⟩)), (31, .int .i64 ((az.length : Nat) : Int)), (32, .int .i64 ((a : Nat) : Int))]) 0) (by kernel_rfl) ⟨by kernel_rfl, by kernel_rfl, by kernel_rfl, by kernel_rfl, trivial⟩ fun m7 => ?_
        refine sk_st ((fun a : Nat => (((St.empty 0).new (.cells [inlL kcells 2 ar, inlL scells 3 az, inlL kcells 2 aw])).new (.cells [inlL kcells 2 br, inlL scells 3 bz, inlL kcells 2 bw]))) 0) (by kernel_rfl) ?_
        refine (sk_while (k := 2) (N := 400) (live := (fun a : Nat => [(2, .pointer (some ⟨0, 0, none⟩)), (3, .pointer (some ⟨1, 0, none⟩)), (31, .int .i64 ((az.length : Nat) : Int)), (32, .int .i64 ((a : Nat) : Int))])) (M := (fun a : Nat => (((St.empty 0).new (.cells [inlL kcells 2 ar, inlL scells 3 az, inlL kcells 2 aw])).new (.cells [inlL kcells 2 br, inlL scells 3 bz, inlL kcells 2 bw])))) (fun a : Nat => (a ≤ az.length) ∧ (az.take a = bz.take a)) (fun a : Nat => az.length - a) (fun (a : Nat) (o : Out) (lv : List (Nat × Value)) (M : St) => (o = .exit 0 ∧ (¬ a < az.length) ∧ lv = [(2, .pointer (some ⟨0, 0, none⟩)), (3, .pointer (some ⟨1, 0, none⟩)), (31, .int .i64 ((az.length : Nat) : Int)), (32, .int .i64 ((a : Nat) : Int))] ∧ M = (((St.empty 0).new (.cells [inlL kcells 2 ar, inlL scells 3 az, inlL kcells 2 aw])).new (.cells [inlL kcells 2 br, inlL scells 3 bz, inlL kcells 2 bw]))) ∨ (o = .ret ∧ (¬ az = bz) ∧ lv = [(4, .bool false)] ∧ M = (((St.empty 0).new (.cells [inlL kcells 2 ar, inlL scells 3 az, inlL kcells 2 aw])).new (.cells [inlL kcells 2 br, inlL scells 3 bz, inlL kcells 2 bw])))) (Nat.zero_le _) (fun a ha => ?_) (fun a ha => ?_) (fun a m ha => ?_) (fun a m ha => ?_) 0 m7 ?_).up ?_
        · exact ⟨by kernel_rfl, (((wf_empty 0).new _).new _), (selfs (all_cons (o := .cells [inlL kcells 2 ar, inlL scells 3 az, inlL kcells 2 aw]) (by kernel_rfl) (OSub.cells (.cons (sub_clo rfl) (.cons (sub_clo rfl) (.cons (sub_clo rfl) .nil)))) (all_cons (o := .cells [inlL kcells 2 br, inlL scells 3 bz, inlL kcells 2 bw]) (by kernel_rfl) (OSub.cells (.cons (sub_clo rfl) (.cons (sub_clo rfl) (.cons (sub_clo rfl) .nil)))) (all_none))))⟩
        · exact ⟨.ptr ⟨by decide, rfl⟩, .ptr ⟨by decide, rfl⟩, sub_clo rfl, sub_clo rfl, trivial⟩
        · exact ⟨by kernel_rfl, by kernel_rfl, by kernel_rfl, by kernel_rfl, trivial⟩
        · obtain ⟨i, ea⟩ : ∃ z, z = a := ⟨_, rfl⟩
          subst ea
          obtain ⟨i0, i1⟩ := ha
          refine sk_seq ?_
          refine sk_regionL Try.cfgOk hS ?_
          refine aT (fun h8 => ?_) (fun h8 => ?_)
          · have c9e : (decide ((((i : Nat) : Int) : Int) < ((az.length : Nat) : Int))) = true := Eq.trans (by kernel_rfl) h8
            clear h8
            have c9 : (((i : Nat) : Int) : Int) < ((az.length : Nat) : Int) := of_decide_eq_true c9e
            clear c9e
            refine al_nil ?_
            refine sk_seq ?_
            refine kT ?_
            refine sk_skip (sk_seq (sk_block (sk_seq ?_)))
            refine kK Try.cfgOk hS ?_
            refine sk_seq ?_
            refine sk_drawL Try.cfgOk hS ?_
            refine dK 3 ?_
            refine dM (indexAddrV Try.cfg 23 (inlL scells 3 az) (.int .i64 ((i : Nat) : Int))) (elt (flatL scells az) (i * 3)) (idx_inlL tokC (by kernel_rfl) (by first | omega | simp)) ?_
            have hx10l : i < az.length := by omega
            refine Exists.elim (get_ex hx10l) fun x10 hx10 => ?_
            clear hx10l
            refine dM (loadV Try.cfg (St.empty 0) 32 (elt (flatL scells az) (i * 3))) (.agg #[.int .i64 x10.1, .int .i64 x10.2.1, .int .i64 x10.2.2]) (load_el tokC (by kernel_rfl) scells_len hx10) ?_
            refine dK 3 ?_
            refine dM (indexAddrV Try.cfg 23 (inlL scells 3 bz) (.int .i64 ((i : Nat) : Int))) (elt (flatL scells bz) (i * 3)) (idx_inlL tokC (by kernel_rfl) (by first | omega | simp)) ?_
            have hx11l : i < bz.length := by omega
            refine Exists.elim (get_ex hx11l) fun x11 hx11 => ?_
            clear hx11l
            refine dM (loadV Try.cfg (St.empty 0) 32 (elt (flatL scells bz) (i * 3))) (.agg #[.int .i64 x11.1, .int .i64 x11.2.1, .int .i64 x11.2.2]) (load_el tokC (by kernel_rfl) scells_len hx11) ?_
            refine dT (fun h12 => ?_) (fun h12 => ?_)
            · have c13e : (!((x10.1 == x11.1) && ((x10.2.1 == x11.2.1) && ((x10.2.2 == x11.2.2) && true)))) = true := Eq.trans (by kernel_rfl) h12
              clear h12
              have c13 : ¬ (x10.1 = x11.1 ∧ x10.2.1 = x11.2.1 ∧ x10.2.2 = x11.2.2) := fun q => Bool.noConfusion (((not_t c13e)).symm.trans (and_i (beq_iff_eq.2 q.1) (and_i (beq_iff_eq.2 q.2.1) (and_i (beq_iff_eq.2 q.2.2) (rfl)))))
              clear c13e
              refine ald_nil ?_
              refine kT ?_
              refine sk_seq ?_
              refine kK Try.cfgOk hS ?_
              refine sk_ret ?_
              refine .inr ⟨_, _, (fun h => by cases h), .inr ⟨rfl, ?_, rfl, rfl⟩, ⟨by kernel_rfl, ⟨by kernel_rfl, trivial⟩, ⟨sub_clo rfl, trivial⟩, Nat.le_of_ble_eq_true (by kernel_rfl), ⟨by kernel_rfl, (((wf_empty 0).new _).new _), (selfs (all_cons (o := .cells [inlL kcells 2 ar, inlL scells 3 az, inlL kcells 2 aw]) (by kernel_rfl) (OSub.cells (.cons (sub_clo rfl) (.cons (sub_clo rfl) (.cons (sub_clo rfl) .nil)))) (all_cons (o := .cells [inlL kcells 2 br, inlL scells 3 bz, inlL kcells 2 bw]) (by kernel_rfl) (OSub.cells (.cons (sub_clo rfl) (.cons (sub_clo rfl) (.cons (sub_clo rfl) .nil)))) (all_none))))⟩, mem_all (by kernel_rfl)⟩⟩
              · exact ne_at (by assumption) (by assumption) (fun e => by subst e; omega)
            · have c13e : (!((x10.1 == x11.1) && ((x10.2.1 == x11.2.1) && ((x10.2.2 == x11.2.2) && true)))) = false := Eq.trans (by kernel_rfl) h12
              clear h12
              have c13 : x10.1 = x11.1 ∧ x10.2.1 = x11.2.1 ∧ x10.2.2 = x11.2.2 := ⟨eq_of_beq (and_l (not_f c13e)), eq_of_beq (and_l (and_r (not_f c13e))), eq_of_beq (and_l (and_r (and_r (not_f c13e))))⟩
              clear c13e
              refine ald_nil ?_
              refine kF ?_
              refine sk_skip ?_
              refine sk_regionL Try.cfgOk hS ?_
              refine aE (v := .int .i64 (IntKind.wrap .i64 (((i : Nat) : Int) + 1))) (.int .i64 ((i + 1 : Nat) : Int)) (congrArg (Value.int .i64) (wrap_to (by omega) (by omega))) ?_
              refine aN ?_
              refine .inl ⟨i + 1, rfl, ⟨?_, ?_⟩, ?_, ⟨by kernel_rfl, ⟨by kernel_rfl, by kernel_rfl, by kernel_rfl, by kernel_rfl, trivial⟩, ⟨.ptr ⟨by decide, rfl⟩, .ptr ⟨by decide, rfl⟩, sub_clo rfl, sub_clo rfl, trivial⟩, Nat.le_of_ble_eq_true (by kernel_rfl), ⟨by kernel_rfl, (((wf_empty 0).new _).new _), (selfs (all_cons (o := .cells [inlL kcells 2 ar, inlL scells 3 az, inlL kcells 2 aw]) (by kernel_rfl) (OSub.cells (.cons (sub_clo rfl) (.cons (sub_clo rfl) (.cons (sub_clo rfl) .nil)))) (all_cons (o := .cells [inlL kcells 2 br, inlL scells 3 bz, inlL kcells 2 bw]) (by kernel_rfl) (OSub.cells (.cons (sub_clo rfl) (.cons (sub_clo rfl) (.cons (sub_clo rfl) .nil)))) (all_none))))⟩, mem_all (by kernel_rfl)⟩⟩
              · (try dsimp only); omega
              · (try dsimp only); exact take_eq_succ (by assumption) (by assumption) (by assumption) (Prod.ext (by omega) (Prod.ext (by omega) (by omega)))
              · omega
          · have c9e : (decide ((((i : Nat) : Int) : Int) < ((az.length : Nat) : Int))) = false := Eq.trans (by kernel_rfl) h8
            clear h8
            have c9 : ¬ (((i : Nat) : Int) : Int) < ((az.length : Nat) : Int) := of_decide_eq_false c9e
            clear c9e
            refine al_nil ?_
            refine sk_seq ?_
            refine kF ?_
            refine sk_exit ?_
            dsimp only
            refine .inr ⟨_, _, (fun h => by cases h), .inl ⟨rfl, ?_, rfl, rfl⟩, ⟨by kernel_rfl, ⟨by kernel_rfl, by kernel_rfl, by kernel_rfl, by kernel_rfl, trivial⟩, ⟨.ptr ⟨by decide, rfl⟩, .ptr ⟨by decide, rfl⟩, sub_clo rfl, sub_clo rfl, trivial⟩, Nat.le_of_ble_eq_true (by kernel_rfl), ⟨by kernel_rfl, (((wf_empty 0).new _).new _), (selfs (all_cons (o := .cells [inlL kcells 2 ar, inlL scells 3 az, inlL kcells 2 aw]) (by kernel_rfl) (OSub.cells (.cons (sub_clo rfl) (.cons (sub_clo rfl) (.cons (sub_clo rfl) .nil)))) (all_cons (o := .cells [inlL kcells 2 br, inlL scells 3 bz, inlL kcells 2 bw]) (by kernel_rfl) (OSub.cells (.cons (sub_clo rfl) (.cons (sub_clo rfl) (.cons (sub_clo rfl) .nil)))) (all_none))))⟩, mem_all (by kernel_rfl)⟩⟩
            · omega
        · exact ⟨by ((try dsimp only); first | done | (omega)), by ((try dsimp only); first | done | (rfl))⟩
        rintro o e1 s1 ⟨a, lv1, M1, m7, ha, (⟨rfl, hx, rfl, rfl⟩ | ⟨rfl, hx, rfl, rfl⟩), rfl, rfl⟩
        ·
          obtain ⟨i, ea⟩ : ∃ z, z = a := ⟨_, rfl⟩
          subst ea
          obtain ⟨i0, i1⟩ := ha
          dsimp only
          try rw [if_pos rfl]
          refine sk_seq ?_
          refine kK Try.cfgOk hS ?_
          refine sk_ret ?_
          exact ⟨[.bool true], by kernel_rfl, fs_to (fs_clo rfl) (congrArg Value.bool (by first | exact (decide_eq_true ⟨by assumption, take_all (by assumption) (by assumption) (by omega), by assumption⟩).symm | exact (decide_eq_false (fun e => absurd e.2.1 (by assumption))).symm | exact (decide_eq_false (fun e => absurd e.1 (by assumption))).symm | exact (decide_eq_false (fun e => absurd e.2.2 (by assumption))).symm | exact (decide_eq_false (fun e => by have := congrArg List.length e.2.1; omega)).symm)), Nat.le_of_ble_eq_true (by kernel_rfl)⟩
        ·
          obtain ⟨i, ea⟩ : ∃ z, z = a := ⟨_, rfl⟩
          subst ea
          obtain ⟨i0, i1⟩ := ha
          dsimp only
          exact ⟨[.bool false], by kernel_rfl, fs_to (fs_clo rfl) (congrArg Value.bool (by first | exact (decide_eq_true ⟨by assumption, take_all (by assumption) (by assumption) (by omega), by assumption⟩).symm | exact (decide_eq_false (fun e => absurd e.2.1 (by assumption))).symm | exact (decide_eq_false (fun e => absurd e.1 (by assumption))).symm | exact (decide_eq_false (fun e => absurd e.2.2 (by assumption))).symm | exact (decide_eq_false (fun e => by have := congrArg List.length e.2.1; omega)).symm)), Nat.le_of_ble_eq_true (by kernel_rfl)⟩
      · have c6 : ¬ (aw = bw) := of_decide_eq_false h5
        clear h5
        refine aN ?_
        refine kT ?_
        refine sk_seq ?_
        refine kK Try.cfgOk hS ?_
        refine sk_ret ?_
        exact ⟨[.bool false], by kernel_rfl, fs_to (fs_clo rfl) (congrArg Value.bool (by first | exact (decide_eq_true ⟨by assumption, take_all (by assumption) (by assumption) (by omega), by assumption⟩).symm | exact (decide_eq_false (fun e => absurd e.2.1 (by assumption))).symm | exact (decide_eq_false (fun e => absurd e.1 (by assumption))).symm | exact (decide_eq_false (fun e => absurd e.2.2 (by assumption))).symm | exact (decide_eq_false (fun e => by have := congrArg List.length e.2.1; omega)).symm)), Nat.le_of_ble_eq_true (by kernel_rfl)⟩
    · have c4 : ¬ (ar = br) := of_decide_eq_false h3
      clear h3
      refine aN ?_
      refine kT ?_
      refine sk_seq ?_
      refine kK Try.cfgOk hS ?_
      refine sk_ret ?_
      exact ⟨[.bool false], by kernel_rfl, fs_to (fs_clo rfl) (congrArg Value.bool (by first | exact (decide_eq_true ⟨by assumption, take_all (by assumption) (by assumption) (by omega), by assumption⟩).symm | exact (decide_eq_false (fun e => absurd e.2.1 (by assumption))).symm | exact (decide_eq_false (fun e => absurd e.1 (by assumption))).symm | exact (decide_eq_false (fun e => absurd e.2.2 (by assumption))).symm | exact (decide_eq_false (fun e => by have := congrArg List.length e.2.1; omega)).symm)), Nat.le_of_ble_eq_true (by kernel_rfl)⟩
noncomputable def con_nfeet : Con Try.prog 0 := Con.pure (α := (List Key) × (List Span) × (List Key) × (List Key) × (List Span) × (List Key)) 12 (fun z9 => [.agg #[inlL kcells 2 z9.1, inlL scells 3 z9.2.1, inlL kcells 2 z9.2.2.1], .agg #[inlL kcells 2 z9.2.2.2.1, inlL scells 3 z9.2.2.2.2.1, inlL kcells 2 z9.2.2.2.2.2]]) (fun z9 => .bool (decide (z9.1 = z9.2.2.2.1 ∧ z9.2.1 = z9.2.2.2.2.1 ∧ z9.2.2.1 = z9.2.2.2.2.2))) (fun z9 => (z9.1.length ≤ 1000000) ∧ (z9.2.1.length ≤ 1000000) ∧ (z9.2.2.1.length ≤ 1000000) ∧ (z9.2.2.2.1.length ≤ 1000000) ∧ (z9.2.2.2.2.1.length ≤ 1000000) ∧ (z9.2.2.2.2.2.length ≤ 1000000)) (by
  rintro ⟨a0, a1, a2, a3, a4, a5⟩ ⟨b0, b1, b2, b3, b4, b5⟩ h
  simp only [List.cons.injEq, and_true, Int.natCast_inj, UInt8.toNat_inj, Value.int.injEq, Value.bool.injEq, Value.string.injEq, Value.agg.injEq, Array.mk.injEq, true_and, kcells_iff, scells_iff] at h
  first | exact h | (simp only [Prod.ext_iff, h, and_self, and_true, true_and]; done) | simp_all [Prod.ext_iff]) (fun _ => rfl) (fun _ => rfl) 400 (by
  rintro ⟨a0, a1, a2, a3, a4, a5⟩ ⟨p0, p1, p2, p3, p4, p5⟩
  exact nfeet_sc a0 a1 a2 a3 a4 a5 p0 p1 p2 p3 p4 p5)
theorem con_nfeet_at (ar : List Key) (az : List Span) (aw : List Key) (br : List Key) (bz : List Span) (bw : List Key) (h0 : ar.length ≤ 1000000) (h1 : az.length ≤ 1000000) (h2 : aw.length ≤ 1000000) (h3 : br.length ≤ 1000000) (h4 : bz.length ≤ 1000000) (h5 : bw.length ≤ 1000000) (s : St) : con_nfeet.rel [.agg #[inlL kcells 2 ar, inlL scells 3 az, inlL kcells 2 aw], .agg #[inlL kcells 2 br, inlL scells 3 bz, inlL kcells 2 bw]] s (.bool (decide (ar = br ∧ az = bz ∧ aw = bw))) s := con_pure (ar, az, aw, br, bz, bw) ⟨h0, h1, h2, h3, h4, h5⟩ s
end Go.Proofs.Ytekeepgjegkedaa