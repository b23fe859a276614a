/- Feet are put together, by the document. -/
import Derived.Test.YtekeepgjegkedaaRef
import Derived.Test.YtekeepgjegkedaaLarge
set_option linter.unusedVariables false
set_option linter.unusedSimpArgs false
set_option linter.unnecessarySimpa false
namespace Go.Proofs.Ytekeepgjegkedaa
open Go.Ai
theorem insertR_fn : Try.cfg.fn 40 = some Try.f40 := by kernel_rfl
set_option maxHeartbeats 4000000 in
set_option maxRecDepth 100000 in
theorem insertR_sc (l : List Key) (kt : Int) (kk : Int) (h0 : l.length ≤ 1000000) : SC Try.prog 0 40 [inlL kcells 2 l, .agg #[.int .i64 kt, .int .i64 kk]] (St.empty 0) fun v s' => v = inlL kcells 2 (insK l (kt, kk)) ∧ s'.n ≤ 400 := by
  obtain ⟨rc, hS, hC⟩ := rc_con (sound_run Try.cfgOk 300) [con_lessR] (by kernel_rfl)
  have hC23 := hC con_lessR (.head _)
  refine sc_ice0 (N := 400) (v2 := inlL kcells 2 (insK l (kt, kk))) (Q := fun v s' => FS 0 s' v (inlL kcells 2 (insK l (kt, kk))) ∧ s'.n ≤ 400) ?_ (fun _ _ h => h)
  refine sc_body Try.cfgOk insertR_fn rfl ?_
  refine sk_seq ?_
  refine kK Try.cfgOk hS ?_
  refine sk_seq ?_
  refine kK Try.cfgOk hS ?_
  refine sk_seq ?_
  refine kK Try.cfgOk hS ?_
  refine sk_seq (sk_seq ?_)
  refine kK Try.cfgOk hS ?_
  refine sk_block ?_
  refine sk_live 49 [(0, inlL kcells 2 l), (3, .pointer (some ⟨0, 0, none⟩)), (5, .slice none 0 0), (6, .bool false), (7, .int .i64 0)] (by kernel_rfl) ⟨by kernel_rfl, by kernel_rfl, by kernel_rfl, by kernel_rfl, by kernel_rfl, trivial⟩ fun m1 => ?_
  refine sk_st ((St.empty 0).new (.cells [.int .i64 kt, .int .i64 kk])) (by kernel_rfl) ?_
  refine virt_at (n := 49) (t := 5) (sz := 2) [(0, inlL kcells 2 l), (3, .pointer (some ⟨0, 0, none⟩)), (5, slL 1 2 0), (6, .bool false), (7, .int .i64 0)] (by decide) ((wf_empty 0).new _) (by kernel_rfl) (by kernel_rfl) (by kernel_rfl) fun m1v => ?_
  refine sk_live 49 ((fun a : Nat × (List Key) × Bool => [(0, inlL kcells 2 l), (3, .pointer (some ⟨0, 0, none⟩)), (5, slL 1 2 a.2.1.length), (6, .bool a.2.2), (7, .int .i64 ((a.1 : Nat) : Int))]) (0, ([] : List Key), false)) (by kernel_rfl) ⟨by kernel_rfl, by kernel_rfl, by kernel_rfl, by kernel_rfl, by kernel_rfl, trivial⟩ fun m2 => ?_
  refine sk_st ((fun a : Nat × (List Key) × Bool => (((St.empty 0).new (.cells [.int .i64 kt, .int .i64 kk])).new (rowL kcells a.2.1))) (0, ([] : List Key), false)) (by kernel_rfl) ?_
  refine (sk_while (k := 2) (N := 400) (live := (fun a : Nat × (List Key) × Bool => [(0, inlL kcells 2 l), (3, .pointer (some ⟨0, 0, none⟩)), (5, slL 1 2 a.2.1.length), (6, .bool a.2.2), (7, .int .i64 ((a.1 : Nat) : Int))])) (M := (fun a : Nat × (List Key) × Bool => (((St.empty 0).new (.cells [.int .i64 kt, .int .i64 kk])).new (rowL kcells a.2.1)))) (fun a : Nat × (List Key) × Bool => (a.1 ≤ l.length) ∧ ((a.2.1, a.2.2) = insS (kt, kk) (l.take a.1)) ∧ (a.2.1.length ≤ 2 * a.1)) (fun a : Nat × (List Key) × Bool => l.length - a.1) (fun (a : Nat × (List Key) × Bool) (o : Out) (lv : List (Nat × Value)) (M : St) => (o = .exit 0 ∧ (¬ a.1 < l.length) ∧ lv = [(0, inlL kcells 2 l), (3, .pointer (some ⟨0, 0, none⟩)), (5, slL 1 2 a.2.1.length), (6, .bool a.2.2), (7, .int .i64 ((a.1 : Nat) : Int))] ∧ M = (((St.empty 0).new (.cells [.int .i64 kt, .int .i64 kk])).new (rowL kcells a.2.1)))) (Nat.zero_le _) (fun a ha => ?_) (fun a ha => ?_) (fun a m ha => ?_) (fun a m ha => ?_) (0, ([] : List Key), false) m2 ?_).up ?_
  · exact ⟨by kernel_rfl, (((wf_empty 0).new _).new _), (selfs (all_cons (o := .cells [.int .i64 kt, .int .i64 kk]) (by kernel_rfl) (OSub.cells (.cons (sub_clo rfl) (.cons (sub_clo rfl) .nil))) (all_cons (o := rowL kcells a.2.1) (by kernel_rfl) (OSub.arr (subs_clo (flatL_clo kcells_clo))) (all_none))))⟩
  · exact ⟨sub_clo rfl, .ptr ⟨by decide, rfl⟩, .slice ⟨by decide, rfl⟩, sub_clo rfl, sub_clo rfl, trivial⟩
  · exact ⟨by kernel_rfl, by kernel_rfl, by kernel_rfl, by kernel_rfl, by kernel_rfl, trivial⟩
  · obtain ⟨i, o, d⟩ := a
    obtain ⟨i0, i1, i2⟩ := ha
    dsimp only at i0 i1 i2
    rcases d with _ | _
    ·
      refine sk_seq (sk_seq ?_)
      refine sk_regionL Try.cfgOk hS ?_
      refine aK 2 ?_
      refine aM (lenB Try.cfg (St.empty 0) 22 (inlL kcells 2 l)) (.int .i64 ((l.length : Nat) : Int)) (len_inl tokC (by kernel_rfl)) ?_
      refine aT (fun h3 => ?_) (fun h3 => ?_)
      · have c4e : (decide ((((i : Nat) : Int) : Int) < ((l.length : Nat) : Int))) = true := Eq.trans (by kernel_rfl) h3
        clear h3
        have c4 : (((i : Nat) : Int) : Int) < ((l.length : Nat) : Int) := of_decide_eq_true c4e
        clear c4e
        refine al_nil ?_
        refine kT ?_
        refine sk_skip (sk_seq (sk_block (sk_seq (sk_seq ?_))))
        refine sk_drawL Try.cfgOk hS ?_
        refine dK 5 ?_
        refine dM (indexAddrV Try.cfg 22 (inlL kcells 2 l) (.int .i64 ((i : Nat) : Int))) (elt (flatL kcells l) (i * 2)) (idx_inlL tokC (by kernel_rfl) (by first | omega | simp)) ?_
        have hx5l : i < l.length := by omega
        refine Exists.elim (get_ex hx5l) fun x5 hx5 => ?_
        clear hx5l
        refine dM (loadV Try.cfg (St.empty 0) 30 (elt (flatL kcells l) (i * 2))) (.agg #[.int .i64 x5.1, .int .i64 x5.2]) (load_el tokC (by kernel_rfl) kcells_len hx5) ?_
        refine dK 1 ?_
        refine dB 23 [.agg #[.int .i64 x5.1, .int .i64 x5.2], .agg #[.int .i64 kt, .int .i64 kk]] (decide (x5.1 < kt ∨ x5.1 = kt ∧ x5.2 < kk)) _ rfl (hC23 _ _ _ _ (con_lessR_at x5.1 x5.2 kt kk  _)) (fun h6 => ?_) (fun h6 => ?_)
        · have c7 : x5.1 < kt ∨ x5.1 = kt ∧ x5.2 < kk := of_decide_eq_true h6
          clear h6
          refine dK 2 ?_
          refine ald_nil ?_
          refine kF ?_
          refine sk_skip (sk_seq ?_)
          refine sk_drawL Try.cfgOk hS ?_
          refine dK 2 ?_
          refine dM (indexAddrV Try.cfg 22 (inlL kcells 2 l) (.int .i64 ((i : Nat) : Int))) (elt (flatL kcells l) (i * 2)) (idx_inlL tokC (by kernel_rfl) (by first | omega | simp)) ?_
          refine dM (loadV Try.cfg (St.empty 0) 30 (elt (flatL kcells l) (i * 2))) (.agg #[.int .i64 x5.1, .int .i64 x5.2]) (load_el tokC (by kernel_rfl) kcells_len hx5) ?_
          refine dK 1 ?_
          refine dT (fun h8 => ?_) (fun h8 => ?_)
          · have c9e : (!((x5.1 == kt) && ((x5.2 == kk) && true))) = true := Eq.trans (by kernel_rfl) h8
            clear h8
            have c9 : ¬ (x5.1 = kt ∧ x5.2 = kk) := fun q => Bool.noConfusion (((not_t c9e)).symm.trans (and_i (beq_iff_eq.2 q.1) (and_i (beq_iff_eq.2 q.2) (rfl))))
            clear c9e
            refine ald_nil ?_
            refine kT ?_
            refine sk_regionL Try.cfgOk hS ?_
            refine aK 3 ?_
            refine aM (indexAddrV Try.cfg 22 (inlL kcells 2 l) (.int .i64 ((i : Nat) : Int))) (elt (flatL kcells l) (i * 2)) (idx_inlL tokC (by kernel_rfl) (by first | omega | simp)) ?_
            refine aM (loadV Try.cfg (St.empty 0) 30 (elt (flatL kcells l) (i * 2))) (.agg #[.int .i64 x5.1, .int .i64 x5.2]) (load_el tokC (by kernel_rfl) kcells_len hx5) ?_
            refine aK 1 ?_
            refine al_opF (v := slL 1 2 (o ++ [(x5.1, x5.2)]).length) (s1 := ((((St.empty 0).new (.cells [.int .i64 kt, .int .i64 kk])).new (rowL kcells o)).new (.arr [.int .i64 x5.1, .int .i64 x5.2] 0 false)).set 1 (rowL kcells (o ++ [(x5.1, x5.2)]))) (by kernel_rfl) (by kernel_rfl) (Eq.trans (b := appendV Try.cfg ((((St.empty 0).new (.cells [.int .i64 kt, .int .i64 kk])).new (rowL kcells o)).new (.arr [.int .i64 x5.1, .int .i64 x5.2] 0 false)) 22 (slL 1 2 o.length) (.slice (some ⟨2, 0, some 2⟩) 1 2)) (by kernel_rfl) (app_rowL (l := o) (l2 := [(x5.1, x5.2)]) (bytes := 16) tokC (by kernel_rfl) kcells_len kcells_one (by kernel_rfl) (by kernel_rfl) (by kernel_rfl) (by (try simp only [List.length_cons, List.length_nil, List.length_append]); omega))) ?_
            refine aN ?_
            refine sk_regionL Try.cfgOk hS ?_
            refine aK 1 ?_
            refine aE (v := .int .i64 (IntKind.wrap .i64 (((i : Nat) : Int) + 1))) (.int .i64 ((i + 1 : Nat) : Int)) (congrArg (Value.int .i64) (wrap_to (by omega) (by omega))) ?_
            refine aN ?_
            refine .inl ⟨(i + 1, (o ++ [(x5.1, x5.2)]), false), rfl, ⟨?_, ?_, ?_⟩, ?_, ⟨by kernel_rfl, ⟨by kernel_rfl, by kernel_rfl, by kernel_rfl, by kernel_rfl, by kernel_rfl, trivial⟩, ⟨sub_clo rfl, .ptr ⟨by decide, rfl⟩, .slice ⟨by decide, rfl⟩, sub_clo rfl, sub_clo rfl, trivial⟩, Nat.le_of_ble_eq_true (by kernel_rfl), ⟨by kernel_rfl, (((wf_empty 0).new _).new _), (selfs (all_cons (o := .cells [.int .i64 kt, .int .i64 kk]) (by kernel_rfl) (OSub.cells (.cons (sub_clo rfl) (.cons (sub_clo rfl) .nil))) (all_cons (o := rowL kcells (o ++ [(x5.1, x5.2)])) (by kernel_rfl) (OSub.arr (subs_clo (flatL_clo kcells_clo))) (all_none))))⟩, mem_all (by kernel_rfl)⟩⟩
            · (try dsimp only); omega
            · (try dsimp only); rw [insS_succ (by assumption), ← i1]; first | (exfalso; omega) | exact (stepI_1 (by assumption) (by assumption)).symm | exact (stepI_2 (by assumption) (by assumption)).symm | exact (stepI_3 (by assumption) (by assumption)).symm | exact (stepI_4 (by assumption)).symm | exact (stepI_5 (by assumption)).symm
            · (try dsimp only); (try simp only [List.length_append, List.length_set, List.length_cons, List.length_nil]); omega
            · dsimp only; omega
          · have c9e : (!((x5.1 == kt) && ((x5.2 == kk) && true))) = false := Eq.trans (by kernel_rfl) h8
            clear h8
            have c9 : x5.1 = kt ∧ x5.2 = kk := ⟨eq_of_beq (and_l (not_f c9e)), eq_of_beq (and_l (and_r (not_f c9e)))⟩
            clear c9e
            refine ald_nil ?_
            refine kF ?_
            refine sk_skip ?_
            refine sk_regionL Try.cfgOk hS ?_
            refine aK 1 ?_
            refine aE (v := .int .i64 (IntKind.wrap .i64 (((i : Nat) : Int) + 1))) (.int .i64 ((i + 1 : Nat) : Int)) (congrArg (Value.int .i64) (wrap_to (by omega) (by omega))) ?_
            refine aN ?_
            refine .inl ⟨(i + 1, o, false), rfl, ⟨?_, ?_, ?_⟩, ?_, ⟨by kernel_rfl, ⟨by kernel_rfl, by kernel_rfl, by kernel_rfl, by kernel_rfl, by kernel_rfl, trivial⟩, ⟨sub_clo rfl, .ptr ⟨by decide, rfl⟩, .slice ⟨by decide, rfl⟩, sub_clo rfl, sub_clo rfl, trivial⟩, Nat.le_of_ble_eq_true (by kernel_rfl), ⟨by kernel_rfl, (((wf_empty 0).new _).new _), (selfs (all_cons (o := .cells [.int .i64 kt, .int .i64 kk]) (by kernel_rfl) (OSub.cells (.cons (sub_clo rfl) (.cons (sub_clo rfl) .nil))) (all_cons (o := rowL kcells o) (by kernel_rfl) (OSub.arr (subs_clo (flatL_clo kcells_clo))) (all_none))))⟩, mem_all (by kernel_rfl)⟩⟩
            · (try dsimp only); omega
            · (try dsimp only); rw [insS_succ (by assumption), ← i1]; first | (exfalso; omega) | exact (stepI_1 (by assumption) (by assumption)).symm | exact (stepI_2 (by assumption) (by assumption)).symm | exact (stepI_3 (by assumption) (by assumption)).symm | exact (stepI_4 (by assumption)).symm | exact (stepI_5 (by assumption)).symm
            · (try dsimp only); (try simp only [List.length_append, List.length_set, List.length_cons, List.length_nil]); omega
            · dsimp only; omega
        · have c7 : ¬ (x5.1 < kt ∨ x5.1 = kt ∧ x5.2 < kk) := of_decide_eq_false h6
          clear h6
          refine dK 2 ?_
          refine ald_nil ?_
          refine kT ?_
          refine sk_seq ?_
          refine sk_regionL Try.cfgOk hS ?_
          refine aK 3 ?_
          refine al_opF (v := slL 1 2 (o ++ [(kt, kk)]).length) (s1 := ((((St.empty 0).new (.cells [.int .i64 kt, .int .i64 kk])).new (rowL kcells o)).new (.arr [.int .i64 kt, .int .i64 kk] 0 false)).set 1 (rowL kcells (o ++ [(kt, kk)]))) (by kernel_rfl) (by kernel_rfl) (Eq.trans (b := appendV Try.cfg ((((St.empty 0).new (.cells [.int .i64 kt, .int .i64 kk])).new (rowL kcells o)).new (.arr [.int .i64 kt, .int .i64 kk] 0 false)) 22 (slL 1 2 o.length) (.slice (some ⟨2, 0, some 2⟩) 1 2)) (by kernel_rfl) (app_rowL (l := o) (l2 := [(kt, kk)]) (bytes := 16) tokC (by kernel_rfl) kcells_len kcells_one (by kernel_rfl) (by kernel_rfl) (by kernel_rfl) (by (try simp only [List.length_cons, List.length_nil, List.length_append]); omega))) ?_
          refine aN ?_
          refine kK Try.cfgOk hS ?_
          refine sk_seq ?_
          refine sk_drawL Try.cfgOk hS ?_
          refine dK 2 ?_
          refine dM (indexAddrV Try.cfg 22 (inlL kcells 2 l) (.int .i64 ((i : Nat) : Int))) (elt (flatL kcells l) (i * 2)) (idx_inlL tokC (by kernel_rfl) (by first | omega | simp)) ?_
          refine dM (loadV Try.cfg (St.empty 0) 30 (elt (flatL kcells l) (i * 2))) (.agg #[.int .i64 x5.1, .int .i64 x5.2]) (load_el tokC (by kernel_rfl) kcells_len hx5) ?_
          refine dK 1 ?_
          refine dT (fun h10 => ?_) (fun h10 => ?_)
          · have c11e : (!((x5.1 == kt) && ((x5.2 == kk) && true))) = true := Eq.trans (by kernel_rfl) h10
            clear h10
            have c11 : ¬ (x5.1 = kt ∧ x5.2 = kk) := fun q => Bool.noConfusion (((not_t c11e)).symm.trans (and_i (beq_iff_eq.2 q.1) (and_i (beq_iff_eq.2 q.2) (rfl))))
            clear c11e
            refine ald_nil ?_
            refine kT ?_
            refine sk_regionL Try.cfgOk hS ?_
            refine aK 3 ?_
            refine aM (indexAddrV Try.cfg 22 (inlL kcells 2 l) (.int .i64 ((i : Nat) : Int))) (elt (flatL kcells l) (i * 2)) (idx_inlL tokC (by kernel_rfl) (by first | omega | simp)) ?_
            refine aM (loadV Try.cfg (St.empty 0) 30 (elt (flatL kcells l) (i * 2))) (.agg #[.int .i64 x5.1, .int .i64 x5.2]) (load_el tokC (by kernel_rfl) kcells_len hx5) ?_
            refine aK 1 ?_
            refine al_opF (v := slL 1 2 ((o ++ [(kt, kk)]) ++ [(x5.1, x5.2)]).length) (s1 := (((((St.empty 0).new (.cells [.int .i64 kt, .int .i64 kk])).new (rowL kcells (o ++ [(kt, kk)]))).new (.arr [.int .i64 kt, .int .i64 kk] 0 false)).new (.arr [.int .i64 x5.1, .int .i64 x5.2] 0 false)).set 1 (rowL kcells ((o ++ [(kt, kk)]) ++ [(x5.1, x5.2)]))) (by kernel_rfl) (by kernel_rfl) (Eq.trans (b := appendV Try.cfg (((((St.empty 0).new (.cells [.int .i64 kt, .int .i64 kk])).new (rowL kcells (o ++ [(kt, kk)]))).new (.arr [.int .i64 kt, .int .i64 kk] 0 false)).new (.arr [.int .i64 x5.1, .int .i64 x5.2] 0 false)) 22 (slL 1 2 ((o ++ [(kt, kk)]).length)) (.slice (some ⟨3, 0, some 2⟩) 1 2)) (by kernel_rfl) (app_rowL (l := (o ++ [(kt, kk)])) (l2 := [(x5.1, x5.2)]) (bytes := 16) tokC (by kernel_rfl) kcells_len kcells_one (by kernel_rfl) (by kernel_rfl) (by kernel_rfl) (by (try simp only [List.length_cons, List.length_nil, List.length_append]); omega))) ?_
            refine aN ?_
            refine sk_regionL Try.cfgOk hS ?_
            refine aK 1 ?_
            refine aE (v := .int .i64 (IntKind.wrap .i64 (((i : Nat) : Int) + 1))) (.int .i64 ((i + 1 : Nat) : Int)) (congrArg (Value.int .i64) (wrap_to (by omega) (by omega))) ?_
            refine aN ?_
            refine .inl ⟨(i + 1, ((o ++ [(kt, kk)]) ++ [(x5.1, x5.2)]), true), rfl, ⟨?_, ?_, ?_⟩, ?_, ⟨by kernel_rfl, ⟨by kernel_rfl, by kernel_rfl, by kernel_rfl, by kernel_rfl, by kernel_rfl, trivial⟩, ⟨sub_clo rfl, .ptr ⟨by decide, rfl⟩, .slice ⟨by decide, rfl⟩, sub_clo rfl, sub_clo rfl, trivial⟩, Nat.le_of_ble_eq_true (by kernel_rfl), ⟨by kernel_rfl, (((wf_empty 0).new _).new _), (selfs (all_cons (o := .cells [.int .i64 kt, .int .i64 kk]) (by kernel_rfl) (OSub.cells (.cons (sub_clo rfl) (.cons (sub_clo rfl) .nil))) (all_cons (o := rowL kcells ((o ++ [(kt, kk)]) ++ [(x5.1, x5.2)])) (by kernel_rfl) (OSub.arr (subs_clo (flatL_clo kcells_clo))) (all_none))))⟩, mem_all (by kernel_rfl)⟩⟩
            · (try dsimp only); omega
            · (try dsimp only); rw [insS_succ (by assumption), ← i1]; first | (exfalso; omega) | exact (stepI_1 (by assumption) (by assumption)).symm | exact (stepI_2 (by assumption) (by assumption)).symm | exact (stepI_3 (by assumption) (by assumption)).symm | exact (stepI_4 (by assumption)).symm | exact (stepI_5 (by assumption)).symm
            · (try dsimp only); (try simp only [List.length_append, List.length_set, List.length_cons, List.length_nil]); omega
            · dsimp only; omega
          · have c11e : (!((x5.1 == kt) && ((x5.2 == kk) && true))) = false := Eq.trans (by kernel_rfl) h10
            clear h10
            have c11 : x5.1 = kt ∧ x5.2 = kk := ⟨eq_of_beq (and_l (not_f c11e)), eq_of_beq (and_l (and_r (not_f c11e)))⟩
            clear c11e
            refine ald_nil ?_
            refine kF ?_
            refine sk_skip ?_
            refine sk_regionL Try.cfgOk hS ?_
            refine aK 1 ?_
            refine aE (v := .int .i64 (IntKind.wrap .i64 (((i : Nat) : Int) + 1))) (.int .i64 ((i + 1 : Nat) : Int)) (congrArg (Value.int .i64) (wrap_to (by omega) (by omega))) ?_
            refine aN ?_
            refine .inl ⟨(i + 1, (o ++ [(kt, kk)]), true), rfl, ⟨?_, ?_, ?_⟩, ?_, ⟨by kernel_rfl, ⟨by kernel_rfl, by kernel_rfl, by kernel_rfl, by kernel_rfl, by kernel_rfl, trivial⟩, ⟨sub_clo rfl, .ptr ⟨by decide, rfl⟩, .slice ⟨by decide, rfl⟩, sub_clo rfl, sub_clo rfl, trivial⟩, Nat.le_of_ble_eq_true (by kernel_rfl), ⟨by kernel_rfl, (((wf_empty 0).new _).new _), (selfs (all_cons (o := .cells [.int .i64 kt, .int .i64 kk]) (by kernel_rfl) (OSub.cells (.cons (sub_clo rfl) (.cons (sub_clo rfl) .nil))) (all_cons (o := rowL kcells (o ++ [(kt, kk)])) (by kernel_rfl) (OSub.arr (subs_clo (flatL_clo kcells_clo))) (all_none))))⟩, mem_all (by kernel_rfl)⟩⟩
            · (try dsimp only); omega
            · (try dsimp only); rw [insS_succ (by assumption), ← i1]; first | (exfalso; omega) | exact (stepI_1 (by assumption) (by assumption)).symm | exact (stepI_2 (by assumption) (by assumption)).symm | exact (stepI_3 (by assumption) (by assumption)).symm | exact (stepI_4 (by assumption)).symm | exact (stepI_5 (by assumption)).symm
            · (try dsimp only); (try simp only [List.length_append, List.length_set, List.length_cons, List.length_nil]); omega
            · dsimp only; omega
      · have c4e : (decide ((((i : Nat) : Int) : Int) < ((l.length : Nat) : Int))) = false := Eq.trans (by kernel_rfl) h3
        clear h3
        have c4 : ¬ (((i : Nat) : Int) : Int) < ((l.length : Nat) : Int) := of_decide_eq_false c4e
        clear c4e
        refine al_nil ?_
        refine kF ?_
        refine sk_exit ?_
        dsimp only
        refine .inr ⟨_, _, (fun h => by cases h), ⟨rfl, ?_, rfl, rfl⟩, ⟨by kernel_rfl, ⟨by kernel_rfl, by kernel_rfl, by kernel_rfl, by kernel_rfl, by kernel_rfl, trivial⟩, ⟨sub_clo rfl, .ptr ⟨by decide, rfl⟩, .slice ⟨by decide, rfl⟩, sub_clo rfl, sub_clo rfl, trivial⟩, Nat.le_of_ble_eq_true (by kernel_rfl), ⟨by kernel_rfl, (((wf_empty 0).new _).new _), (selfs (all_cons (o := .cells [.int .i64 kt, .int .i64 kk]) (by kernel_rfl) (OSub.cells (.cons (sub_clo rfl) (.cons (sub_clo rfl) .nil))) (all_cons (o := rowL kcells o) (by kernel_rfl) (OSub.arr (subs_clo (flatL_clo kcells_clo))) (all_none))))⟩, mem_all (by kernel_rfl)⟩⟩
        · omega
    ·
      refine sk_seq (sk_seq ?_)
      refine sk_regionL Try.cfgOk hS ?_
      refine aK 2 ?_
      refine aM (lenB Try.cfg (St.empty 0) 22 (inlL kcells 2 l)) (.int .i64 ((l.length : Nat) : Int)) (len_inl tokC (by kernel_rfl)) ?_
      refine aT (fun h12 => ?_) (fun h12 => ?_)
      · have c13e : (decide ((((i : Nat) : Int) : Int) < ((l.length : Nat) : Int))) = true := Eq.trans (by kernel_rfl) h12
        clear h12
        have c13 : (((i : Nat) : Int) : Int) < ((l.length : Nat) : Int) := of_decide_eq_true c13e
        clear c13e
        refine al_nil ?_
        refine kT ?_
        refine sk_skip (sk_seq (sk_block (sk_seq (sk_seq ?_))))
        refine sk_drawL Try.cfgOk hS ?_
        refine dK 11 ?_
        refine ald_nil ?_
        refine kF ?_
        refine sk_skip (sk_seq ?_)
        refine sk_drawL Try.cfgOk hS ?_
        refine dK 2 ?_
        refine dM (indexAddrV Try.cfg 22 (inlL kcells 2 l) (.int .i64 ((i : Nat) : Int))) (elt (flatL kcells l) (i * 2)) (idx_inlL tokC (by kernel_rfl) (by first | omega | simp)) ?_
        have hx14l : i < l.length := by omega
        refine Exists.elim (get_ex hx14l) fun x14 hx14 => ?_
        clear hx14l
        refine dM (loadV Try.cfg (St.empty 0) 30 (elt (flatL kcells l) (i * 2))) (.agg #[.int .i64 x14.1, .int .i64 x14.2]) (load_el tokC (by kernel_rfl) kcells_len hx14) ?_
        refine dK 1 ?_
        refine dT (fun h15 => ?_) (fun h15 => ?_)
        · have c16e : (!((x14.1 == kt) && ((x14.2 == kk) && true))) = true := Eq.trans (by kernel_rfl) h15
          clear h15
          have c16 : ¬ (x14.1 = kt ∧ x14.2 = kk) := fun q => Bool.noConfusion (((not_t c16e)).symm.trans (and_i (beq_iff_eq.2 q.1) (and_i (beq_iff_eq.2 q.2) (rfl))))
          clear c16e
          refine ald_nil ?_
          refine kT ?_
          refine sk_regionL Try.cfgOk hS ?_
          refine aK 3 ?_
          refine aM (indexAddrV Try.cfg 22 (inlL kcells 2 l) (.int .i64 ((i : Nat) : Int))) (elt (flatL kcells l) (i * 2)) (idx_inlL tokC (by kernel_rfl) (by first | omega | simp)) ?_
          refine aM (loadV Try.cfg (St.empty 0) 30 (elt (flatL kcells l) (i * 2))) (.agg #[.int .i64 x14.1, .int .i64 x14.2]) (load_el tokC (by kernel_rfl) kcells_len hx14) ?_
          refine aK 1 ?_
          refine al_opF (v := slL 1 2 (o ++ [(x14.1, x14.2)]).length) (s1 := ((((St.empty 0).new (.cells [.int .i64 kt, .int .i64 kk])).new (rowL kcells o)).new (.arr [.int .i64 x14.1, .int .i64 x14.2] 0 false)).set 1 (rowL kcells (o ++ [(x14.1, x14.2)]))) (by kernel_rfl) (by kernel_rfl) (Eq.trans (b := appendV Try.cfg ((((St.empty 0).new (.cells [.int .i64 kt, .int .i64 kk])).new (rowL kcells o)).new (.arr [.int .i64 x14.1, .int .i64 x14.2] 0 false)) 22 (slL 1 2 o.length) (.slice (some ⟨2, 0, some 2⟩) 1 2)) (by kernel_rfl) (app_rowL (l := o) (l2 := [(x14.1, x14.2)]) (bytes := 16) tokC (by kernel_rfl) kcells_len kcells_one (by kernel_rfl) (by kernel_rfl) (by kernel_rfl) (by (try simp only [List.length_cons, List.length_nil, List.length_append]); omega))) ?_
          refine aN ?_
          refine sk_regionL Try.cfgOk hS ?_
          refine aK 1 ?_
          refine aE (v := .int .i64 (IntKind.wrap .i64 (((i : Nat) : Int) + 1))) (.int .i64 ((i + 1 : Nat) : Int)) (congrArg (Value.int .i64) (wrap_to (by omega) (by omega))) ?_
          refine aN ?_
          refine .inl ⟨(i + 1, (o ++ [(x14.1, x14.2)]), true), rfl, ⟨?_, ?_, ?_⟩, ?_, ⟨by kernel_rfl, ⟨by kernel_rfl, by kernel_rfl, by kernel_rfl, by kernel_rfl, by kernel_rfl, trivial⟩, ⟨sub_clo rfl, .ptr ⟨by decide, rfl⟩, .slice ⟨by decide, rfl⟩, sub_clo rfl, sub_clo rfl, trivial⟩, Nat.le_of_ble_eq_true (by kernel_rfl), ⟨by kernel_rfl, (((wf_empty 0).new _).new _), (selfs (all_cons (o := .cells [.int .i64 kt, .int .i64 kk]) (by kernel_rfl) (OSub.cells (.cons (sub_clo rfl) (.cons (sub_clo rfl) .nil))) (all_cons (o := rowL kcells (o ++ [(x14.1, x14.2)])) (by kernel_rfl) (OSub.arr (subs_clo (flatL_clo kcells_clo))) (all_none))))⟩, mem_all (by kernel_rfl)⟩⟩
          · (try dsimp only); omega
          · (try dsimp only); rw [insS_succ (by assumption), ← i1]; first | (exfalso; omega) | exact (stepI_1 (by assumption) (by assumption)).symm | exact (stepI_2 (by assumption) (by assumption)).symm | exact (stepI_3 (by assumption) (by assumption)).symm | exact (stepI_4 (by assumption)).symm | exact (stepI_5 (by assumption)).symm
          · (try dsimp only); (try simp only [List.length_append, List.length_set, List.length_cons, List.length_nil]); omega
          · dsimp only; omega
        · have c16e : (!((x14.1 == kt) && ((x14.2 == kk) && true))) = false := Eq.trans (by kernel_rfl) h15
          clear h15
          have c16 : x14.1 = kt ∧ x14.2 = kk := ⟨eq_of_beq (and_l (not_f c16e)), eq_of_beq (and_l (and_r (not_f c16e)))⟩
          clear c16e
          refine ald_nil ?_
          refine kF ?_
          refine sk_skip ?_
          refine sk_regionL Try.cfgOk hS ?_
          refine aK 1 ?_
          refine aE (v := .int .i64 (IntKind.wrap .i64 (((i : Nat) : Int) + 1))) (.int .i64 ((i + 1 : Nat) : Int)) (congrArg (Value.int .i64) (wrap_to (by omega) (by omega))) ?_
          refine aN ?_
          refine .inl ⟨(i + 1, o, true), rfl, ⟨?_, ?_, ?_⟩, ?_, ⟨by kernel_rfl, ⟨by kernel_rfl, by kernel_rfl, by kernel_rfl, by kernel_rfl, by kernel_rfl, trivial⟩, ⟨sub_clo rfl, .ptr ⟨by decide, rfl⟩, .slice ⟨by decide, rfl⟩, sub_clo rfl, sub_clo rfl, trivial⟩, Nat.le_of_ble_eq_true (by kernel_rfl), ⟨by kernel_rfl, (((wf_empty 0).new _).new _), (selfs (all_cons (o := .cells [.int .i64 kt, .int .i64 kk]) (by kernel_rfl) (OSub.cells (.cons (sub_clo rfl) (.cons (sub_clo rfl) .nil))) (all_cons (o := rowL kcells o) (by kernel_rfl) (OSub.arr (subs_clo (flatL_clo kcells_clo))) (all_none))))⟩, mem_all (by kernel_rfl)⟩⟩
          · (try dsimp only); omega
          · (try dsimp only); rw [insS_succ (by assumption), ← i1]; first | (exfalso; omega) | exact (stepI_1 (by assumption) (by assumption)).symm | exact (stepI_2 (by assumption) (by assumption)).symm | exact (stepI_3 (by assumption) (by assumption)).symm | exact (stepI_4 (by assumption)).symm | exact (stepI_5 (by assumption)).symm
          · (try dsimp only); (try simp only [List.length_append, List.length_set, List.length_cons, List.length_nil]); omega
          · dsimp only; omega
      · have c13e : (decide ((((i : Nat) : Int) : Int) < ((l.length : Nat) : Int))) = false := Eq.trans (by kernel_rfl) h12
        clear h12
        have c13 : ¬ (((i : Nat) : Int) : Int) < ((l.length : Nat) : Int) := of_decide_eq_false c13e
        clear c13e
        refine al_nil ?_
        refine kF ?_
        refine sk_exit ?_
        dsimp only
        refine .inr ⟨_, _, (fun h => by cases h), ⟨rfl, ?_, rfl, rfl⟩, ⟨by kernel_rfl, ⟨by kernel_rfl, by kernel_rfl, by kernel_rfl, by kernel_rfl, by kernel_rfl, trivial⟩, ⟨sub_clo rfl, .ptr ⟨by decide, rfl⟩, .slice ⟨by decide, rfl⟩, sub_clo rfl, sub_clo rfl, trivial⟩, Nat.le_of_ble_eq_true (by kernel_rfl), ⟨by kernel_rfl, (((wf_empty 0).new _).new _), (selfs (all_cons (o := .cells [.int .i64 kt, .int .i64 kk]) (by kernel_rfl) (OSub.cells (.cons (sub_clo rfl) (.cons (sub_clo rfl) .nil))) (all_cons (o := rowL kcells o) (by kernel_rfl) (OSub.arr (subs_clo (flatL_clo kcells_clo))) (all_none))))⟩, mem_all (by kernel_rfl)⟩⟩
        · omega
  · exact ⟨by ((try dsimp only); first | done | (omega)), by ((try dsimp only); first | done | (rfl)), by ((try dsimp only); first | done | (exact Nat.zero_le _))⟩
  rintro o e1 s1 ⟨a, lv1, M1, m2, ha, ⟨rfl, hx, rfl, rfl⟩, rfl, rfl⟩
  obtain ⟨i, o, d⟩ := a
  obtain ⟨i0, i1, i2⟩ := ha
  dsimp only at hx i0 i1 i2
  dsimp only
  try rw [if_pos rfl]
  refine sk_seq (sk_seq ?_)
  refine kK Try.cfgOk hS ?_
  rcases d with _ | _
  ·
    refine kT ?_
    refine sk_regionL Try.cfgOk hS ?_
    refine aK 3 ?_
    refine al_opF (v := slL 1 2 (o ++ [(kt, kk)]).length) (s1 := ((((St.empty 0).new (.cells [.int .i64 kt, .int .i64 kk])).new (rowL kcells o)).new (.arr [.int .i64 kt, .int .i64 kk] 0 false)).set 1 (rowL kcells (o ++ [(kt, kk)]))) (by kernel_rfl) (by kernel_rfl) (Eq.trans (b := appendV Try.cfg ((((St.empty 0).new (.cells [.int .i64 kt, .int .i64 kk])).new (rowL kcells o)).new (.arr [.int .i64 kt, .int .i64 kk] 0 false)) 22 (slL 1 2 o.length) (.slice (some ⟨2, 0, some 2⟩) 1 2)) (by kernel_rfl) (app_rowL (l := o) (l2 := [(kt, kk)]) (bytes := 16) tokC (by kernel_rfl) kcells_len kcells_one (by kernel_rfl) (by kernel_rfl) (by kernel_rfl) (by (try simp only [List.length_cons, List.length_nil, List.length_append]); omega))) ?_
    refine aN ?_
    refine sk_seq ?_
    refine kK Try.cfgOk hS ?_
    refine sk_ret ?_
    exact ⟨[slL 1 2 ((o ++ [(kt, kk)]).length)], by kernel_rfl, fs_to (fs_rowL (by decide) kcells_len kcells_clo kcells_one (Nat.le_of_ble_eq_true (by kernel_rfl)) (by kernel_rfl)) (congrArg (inlL kcells 2) (by first | exact insK_t i1 hx rfl | exact insK_f i1 hx rfl)), Nat.le_of_ble_eq_true (by kernel_rfl)⟩
  ·
    refine kF ?_
    refine sk_skip (sk_seq ?_)
    refine kK Try.cfgOk hS ?_
    refine sk_ret ?_
    exact ⟨[slL 1 2 o.length], by kernel_rfl, fs_to (fs_rowL (by decide) kcells_len kcells_clo kcells_one (Nat.le_of_ble_eq_true (by kernel_rfl)) (by kernel_rfl)) (congrArg (inlL kcells 2) (by first | exact insK_t i1 hx rfl | exact insK_f i1 hx rfl)), Nat.le_of_ble_eq_true (by kernel_rfl)⟩
noncomputable def con_insertR : Con Try.prog 0 := Con.pure (α := (List Key) × Int × Int) 40 (fun z9 => [inlL kcells 2 z9.1, .agg #[.int .i64 z9.2.1, .int .i64 z9.2.2]]) (fun z9 => inlL kcells 2 (insK z9.1 (z9.2.1, z9.2.2))) (fun z9 => (z9.1.length ≤ 1000000)) (by
  rintro ⟨a0, a1, a2⟩ ⟨b0, b1, b2⟩ h
  simp only [List.cons.injEq, and_true, Int.natCast_inj, UInt8.toNat_inj, Value.int.injEq, Value.bool.injEq, Value.string.injEq, Value.agg.injEq, Array.mk.injEq, true_and, kcells_iff] at h
  first | exact h | (simp only [Prod.ext_iff, h, and_self, and_true, true_and]; done) | simp_all [Prod.ext_iff]) (fun _ => rfl) (fun _ => rfl) 400 (by
  rintro ⟨a0, a1, a2⟩ p0
  exact insertR_sc a0 a1 a2 p0)
theorem con_insertR_at (l : List Key) (kt : Int) (kk : Int) (h0 : l.length ≤ 1000000) (s : St) : con_insertR.rel [inlL kcells 2 l, .agg #[.int .i64 kt, .int .i64 kk]] s (inlL kcells 2 (insK l (kt, kk))) s := con_pure (l, kt, kk) h0 s
theorem addR__fn : Try.cfg.fn 41 = some Try.f41 := by kernel_rfl
set_option maxHeartbeats 4000000 in
set_option maxRecDepth 100000 in
theorem addR__sc (l : List Span) (xt : Int) (xl : Int) (xh : Int) (h0 : l.length ≤ 1000000) : SC Try.prog 0 41 [inlL scells 3 l, .agg #[.int .i64 xt, .int .i64 xl, .int .i64 xh]] (St.empty 0) fun v s' => v = inlL scells 3 (addK l (xt, xl, xh)) ∧ s'.n ≤ 400 := by
  obtain ⟨rc, hS, hC⟩ := rc_con (sound_run Try.cfgOk 300) [con_touch] (by kernel_rfl)
  have hC74 := hC con_touch (.head _)
  refine sc_ice0 (N := 400) (v2 := inlL scells 3 (addK l (xt, xl, xh))) (Q := fun v s' => FS 0 s' v (inlL scells 3 (addK l (xt, xl, xh))) ∧ s'.n ≤ 400) ?_ (fun _ _ h => h)
  refine sc_body Try.cfgOk addR__fn rfl ?_
  refine sk_seq ?_
  refine kK Try.cfgOk hS ?_
  refine sk_seq (sk_seq ?_)
  refine sk_regionL Try.cfgOk hS ?_
  refine aK 4 ?_
  refine aT (fun h1 => ?_) (fun h1 => ?_)
  · have c2e : (decide ((xl : Int) > xh)) = true := Eq.trans (by kernel_rfl) h1
    clear h1
    have c2 : (xl : Int) > xh := of_decide_eq_true c2e
    clear c2e
    refine al_nil ?_
    refine kT ?_
    refine sk_seq ?_
    refine kK Try.cfgOk hS ?_
    refine sk_ret ?_
    exact ⟨[inlL scells 3 l], by kernel_rfl, fs_to (fs_clo rfl) (congrArg (inlL scells 3) (by first | exact addK_e (by assumption) | exact addK_t (x := (xt, xl, xh)) (by assumption) i1 (by assumption) g1 hx rfl | exact addK_f (x := (xt, xl, xh)) (by assumption) i1 (by assumption) g1 hx rfl)), Nat.le_of_ble_eq_true (by kernel_rfl)⟩
  · have c2e : (decide ((xl : Int) > xh)) = false := Eq.trans (by kernel_rfl) h1
    clear h1
    have c2 : ¬ (xl : Int) > xh := of_decide_eq_false c2e
    clear c2e
    refine al_nil ?_
    refine kF ?_
    refine sk_skip (sk_seq ?_)
    refine kK Try.cfgOk hS ?_
    refine sk_seq (sk_seq ?_)
    refine kK Try.cfgOk hS ?_
    refine sk_block ?_
    refine sk_live 113 [(0, inlL scells 3 l), (3, .pointer (some ⟨0, 0, none⟩)), (5, .slice none 0 0), (6, .int .i64 0)] (by kernel_rfl) ⟨by kernel_rfl, by kernel_rfl, by kernel_rfl, by kernel_rfl, trivial⟩ fun m3 => ?_
    refine sk_st ((St.empty 0).new (.cells [.int .i64 xt, .int .i64 xl, .int .i64 xh])) (by kernel_rfl) ?_
    refine virt_at (n := 113) (t := 5) (sz := 3) [(0, inlL scells 3 l), (3, .pointer (some ⟨0, 0, none⟩)), (5, slL 1 3 0), (6, .int .i64 0)] (by decide) ((wf_empty 0).new _) (by kernel_rfl) (by kernel_rfl) (by kernel_rfl) fun m3v => ?_
    refine sk_live 113 ((fun a : Nat × (List Span) × Int × Int => [(0, inlL scells 3 l), (3, .pointer (some ⟨0, 0, none⟩)), (5, slL 1 3 a.2.1.length), (6, .int .i64 ((a.1 : Nat) : Int))]) (0, ([] : List Span), xl, xh)) (by kernel_rfl) ⟨by kernel_rfl, by kernel_rfl, by kernel_rfl, by kernel_rfl, trivial⟩ fun m4 => ?_
    refine sk_st ((fun a : Nat × (List Span) × Int × Int => (((St.empty 0).new (.cells [.int .i64 xt, .int .i64 a.2.2.1, .int .i64 a.2.2.2])).new (rowL scells a.2.1))) (0, ([] : List Span), xl, xh)) (by kernel_rfl) ?_
    refine (sk_while (k := 2) (N := 400) (live := (fun a : Nat × (List Span) × Int × Int => [(0, inlL scells 3 l), (3, .pointer (some ⟨0, 0, none⟩)), (5, slL 1 3 a.2.1.length), (6, .int .i64 ((a.1 : Nat) : Int))])) (M := (fun a : Nat × (List Span) × Int × Int => (((St.empty 0).new (.cells [.int .i64 xt, .int .i64 a.2.2.1, .int .i64 a.2.2.2])).new (rowL scells a.2.1)))) (fun a : Nat × (List Span) × Int × Int => (a.1 ≤ l.length) ∧ ((a.2.1, (xt, a.2.2.1, a.2.2.2)) = addA (xt, xl, xh) (l.take a.1)) ∧ (a.2.1.length ≤ a.1)) (fun a : Nat × (List Span) × Int × Int => l.length - a.1) (fun (a : Nat × (List Span) × Int × Int) (o : Out) (lv : List (Nat × Value)) (M : St) => (o = .exit 0 ∧ (¬ a.1 < l.length) ∧ lv = [(0, inlL scells 3 l), (3, .pointer (some ⟨0, 0, none⟩)), (5, slL 1 3 a.2.1.length), (6, .int .i64 ((a.1 : Nat) : Int))] ∧ M = (((St.empty 0).new (.cells [.int .i64 xt, .int .i64 a.2.2.1, .int .i64 a.2.2.2])).new (rowL scells a.2.1)))) (Nat.zero_le _) (fun a ha => ?_) (fun a ha => ?_) (fun a m ha => ?_) (fun a m ha => ?_) (0, ([] : List Span), xl, xh) m4 ?_).up ?_
    · exact ⟨by kernel_rfl, (((wf_empty 0).new _).new _), (selfs (all_cons (o := .cells [.int .i64 xt, .int .i64 a.2.2.1, .int .i64 a.2.2.2]) (by kernel_rfl) (OSub.cells (.cons (sub_clo rfl) (.cons (sub_clo rfl) (.cons (sub_clo rfl) .nil)))) (all_cons (o := rowL scells a.2.1) (by kernel_rfl) (OSub.arr (subs_clo (flatL_clo scells_clo))) (all_none))))⟩
    · exact ⟨sub_clo rfl, .ptr ⟨by decide, rfl⟩, .slice ⟨by decide, rfl⟩, sub_clo rfl, trivial⟩
    · exact ⟨by kernel_rfl, by kernel_rfl, by kernel_rfl, by kernel_rfl, trivial⟩
    · obtain ⟨i, ol, lo, hi⟩ := a
      obtain ⟨i0, i1, i2⟩ := ha
      dsimp only at i0 i1 i2
      refine sk_seq (sk_seq ?_)
      refine sk_regionL Try.cfgOk hS ?_
      refine aK 2 ?_
      refine aM (lenB Try.cfg (St.empty 0) 23 (inlL scells 3 l)) (.int .i64 ((l.length : Nat) : Int)) (len_inl tokC (by kernel_rfl)) ?_
      refine aT (fun h5 => ?_) (fun h5 => ?_)
      · have c6e : (decide ((((i : Nat) : Int) : Int) < ((l.length : Nat) : Int))) = true := Eq.trans (by kernel_rfl) h5
        clear h5
        have c6 : (((i : Nat) : Int) : Int) < ((l.length : Nat) : Int) := of_decide_eq_true c6e
        clear c6e
        refine al_nil ?_
        refine kT ?_
        refine sk_skip (sk_seq (sk_block (sk_seq (sk_seq ?_))))
        refine sk_drawL Try.cfgOk hS ?_
        refine dK 2 ?_
        refine dM (indexAddrV Try.cfg 23 (inlL scells 3 l) (.int .i64 ((i : Nat) : Int))) (elt (flatL scells l) (i * 3)) (idx_inlL tokC (by kernel_rfl) (by first | omega | simp)) ?_
        have hx7l : i < l.length := by omega
        refine Exists.elim (get_ex hx7l) fun x7 hx7 => ?_
        clear hx7l
        refine dM (loadV Try.cfg (St.empty 0) 32 (elt (flatL scells l) (i * 3))) (.agg #[.int .i64 x7.1, .int .i64 x7.2.1, .int .i64 x7.2.2]) (load_el tokC (by kernel_rfl) scells_len hx7) ?_
        refine dK 1 ?_
        refine dB 74 [.agg #[.int .i64 x7.1, .int .i64 x7.2.1, .int .i64 x7.2.2], .agg #[.int .i64 xt, .int .i64 lo, .int .i64 hi]] (decide (x7.1 = xt ∧ ¬ (x7.2.2 < lo ∧ ¬ IntKind.wrap .i64 (x7.2.2 + 1) = lo) ∧ ¬ (hi < x7.2.1 ∧ ¬ IntKind.wrap .i64 (hi + 1) = x7.2.1))) _ rfl (hC74 _ _ _ _ (con_touch_at x7.1 x7.2.1 x7.2.2 xt lo hi  _)) (fun h8 => ?_) (fun h8 => ?_)
        · have c9 : x7.1 = xt ∧ ¬ (x7.2.2 < lo ∧ ¬ IntKind.wrap .i64 (x7.2.2 + 1) = lo) ∧ ¬ (hi < x7.2.1 ∧ ¬ IntKind.wrap .i64 (hi + 1) = x7.2.1) := of_decide_eq_true h8
          clear h8
          refine dK 1 ?_
          refine ald_nil ?_
          refine kF ?_
          refine sk_skip (sk_seq (sk_seq ?_))
          refine sk_drawL Try.cfgOk hS ?_
          refine dK 2 ?_
          refine dM (indexAddrV Try.cfg 23 (inlL scells 3 l) (.int .i64 ((i : Nat) : Int))) (elt (flatL scells l) (i * 3)) (idx_inlL tokC (by kernel_rfl) (by first | omega | simp)) ?_
          refine dM (fieldAddrV Try.cfg 32 (elt (flatL scells l) (i * 3)) 1) (elt (flatL scells l) (i * 3 + 1)) (fld_elt (o := i * 3) (off := 1) tokC (by kernel_rfl)) ?_
          refine dM (loadV Try.cfg (St.empty 0) 3 (elt (flatL scells l) (i * 3 + 1))) (.int .i64 x7.2.1) (load_el1 (o := 1) tokC (by kernel_rfl) scells_len hx7 rfl) ?_
          refine dK 2 ?_
          refine dT (fun h10 => ?_) (fun h10 => ?_)
          · have c11e : (decide ((x7.2.1 : Int) < lo)) = true := Eq.trans (by kernel_rfl) h10
            clear h10
            have c11 : (x7.2.1 : Int) < lo := of_decide_eq_true c11e
            clear c11e
            refine ald_nil ?_
            refine kT ?_
            refine sk_regionL Try.cfgOk hS ?_
            refine aK 2 ?_
            refine aM (indexAddrV Try.cfg 23 (inlL scells 3 l) (.int .i64 ((i : Nat) : Int))) (elt (flatL scells l) (i * 3)) (idx_inlL tokC (by kernel_rfl) (by first | omega | simp)) ?_
            refine aM (fieldAddrV Try.cfg 32 (elt (flatL scells l) (i * 3)) 1) (elt (flatL scells l) (i * 3 + 1)) (fld_elt (o := i * 3) (off := 1) tokC (by kernel_rfl)) ?_
            refine aM (loadV Try.cfg (St.empty 0) 3 (elt (flatL scells l) (i * 3 + 1))) (.int .i64 x7.2.1) (load_el1 (o := 1) tokC (by kernel_rfl) scells_len hx7 rfl) ?_
            refine aN ?_
            refine sk_seq ?_
            refine sk_drawL Try.cfgOk hS ?_
            refine dK 2 ?_
            refine dM (indexAddrV Try.cfg 23 (inlL scells 3 l) (.int .i64 ((i : Nat) : Int))) (elt (flatL scells l) (i * 3)) (idx_inlL tokC (by kernel_rfl) (by first | omega | simp)) ?_
            refine dM (fieldAddrV Try.cfg 32 (elt (flatL scells l) (i * 3)) 2) (elt (flatL scells l) (i * 3 + 2)) (fld_elt (o := i * 3) (off := 2) tokC (by kernel_rfl)) ?_
            refine dM (loadV Try.cfg (St.empty 0) 3 (elt (flatL scells l) (i * 3 + 2))) (.int .i64 x7.2.2) (load_el1 (o := 2) tokC (by kernel_rfl) scells_len hx7 rfl) ?_
            refine dK 2 ?_
            refine dT (fun h12 => ?_) (fun h12 => ?_)
            · have c13e : (decide ((x7.2.2 : Int) > hi)) = true := Eq.trans (by kernel_rfl) h12
              clear h12
              have c13 : (x7.2.2 : Int) > hi := of_decide_eq_true c13e
              clear c13e
              refine ald_nil ?_
              refine kT ?_
              refine sk_regionL Try.cfgOk hS ?_
              refine aK 2 ?_
              refine aM (indexAddrV Try.cfg 23 (inlL scells 3 l) (.int .i64 ((i : Nat) : Int))) (elt (flatL scells l) (i * 3)) (idx_inlL tokC (by kernel_rfl) (by first | omega | simp)) ?_
              refine aM (fieldAddrV Try.cfg 32 (elt (flatL scells l) (i * 3)) 2) (elt (flatL scells l) (i * 3 + 2)) (fld_elt (o := i * 3) (off := 2) tokC (by kernel_rfl)) ?_
              refine aM (loadV Try.cfg (St.empty 0) 3 (elt (flatL scells l) (i * 3 + 2))) (.int .i64 x7.2.2) (load_el1 (o := 2) tokC (by kernel_rfl) scells_len hx7 rfl) ?_
              refine aN ?_
              refine sk_regionL Try.cfgOk hS ?_
              refine aK 1 ?_
              refine aE (v := .int .i64 (IntKind.wrap .i64 (((i : Nat) : Int) + 1))) (.int .i64 ((i + 1 : Nat) : Int)) (congrArg (Value.int .i64) (wrap_to (by omega) (by omega))) ?_
              refine aN ?_
              refine .inl ⟨(i + 1, ol, x7.2.1, x7.2.2), rfl, ⟨?_, ?_, ?_⟩, ?_, ⟨by kernel_rfl, ⟨by kernel_rfl, by kernel_rfl, by kernel_rfl, by kernel_rfl, trivial⟩, ⟨sub_clo rfl, .ptr ⟨by decide, rfl⟩, .slice ⟨by decide, rfl⟩, sub_clo rfl, trivial⟩, Nat.le_of_ble_eq_true (by kernel_rfl), ⟨by kernel_rfl, (((wf_empty 0).new _).new _), (selfs (all_cons (o := .cells [.int .i64 xt, .int .i64 x7.2.1, .int .i64 x7.2.2]) (by kernel_rfl) (OSub.cells (.cons (sub_clo rfl) (.cons (sub_clo rfl) (.cons (sub_clo rfl) .nil)))) (all_cons (o := rowL scells ol) (by kernel_rfl) (OSub.arr (subs_clo (flatL_clo scells_clo))) (all_none))))⟩, mem_all (by kernel_rfl)⟩⟩
              · (try dsimp only); omega
              · (try dsimp only); rw [addA_succ (by assumption), ← i1]; first | exact (stepA_n (by assumption)).symm | (refine Eq.symm ((stepA_y (by assumption)).trans (congrArg (Prod.mk _) (Prod.ext rfl (Prod.ext ?_ ?_)))) <;> (dsimp only [mrg]; split <;> first | rfl | omega))
              · (try dsimp only); (try simp only [List.length_append, List.length_set, List.length_cons, List.length_nil]); omega
              · dsimp only; omega
            · have c13e : (decide ((x7.2.2 : Int) > hi)) = false := Eq.trans (by kernel_rfl) h12
              clear h12
              have c13 : ¬ (x7.2.2 : Int) > hi := of_decide_eq_false c13e
              clear c13e
              refine ald_nil ?_
              refine kF ?_
              refine sk_skip ?_
              refine sk_regionL Try.cfgOk hS ?_
              refine aK 1 ?_
              refine aE (v := .int .i64 (IntKind.wrap .i64 (((i : Nat) : Int) + 1))) (.int .i64 ((i + 1 : Nat) : Int)) (congrArg (Value.int .i64) (wrap_to (by omega) (by omega))) ?_
              refine aN ?_
              refine .inl ⟨(i + 1, ol, x7.2.1, hi), rfl, ⟨?_, ?_, ?_⟩, ?_, ⟨by kernel_rfl, ⟨by kernel_rfl, by kernel_rfl, by kernel_rfl, by kernel_rfl, trivial⟩, ⟨sub_clo rfl, .ptr ⟨by decide, rfl⟩, .slice ⟨by decide, rfl⟩, sub_clo rfl, trivial⟩, Nat.le_of_ble_eq_true (by kernel_rfl), ⟨by kernel_rfl, (((wf_empty 0).new _).new _), (selfs (all_cons (o := .cells [.int .i64 xt, .int .i64 x7.2.1, .int .i64 hi]) (by kernel_rfl) (OSub.cells (.cons (sub_clo rfl) (.cons (sub_clo rfl) (.cons (sub_clo rfl) .nil)))) (all_cons (o := rowL scells ol) (by kernel_rfl) (OSub.arr (subs_clo (flatL_clo scells_clo))) (all_none))))⟩, mem_all (by kernel_rfl)⟩⟩
              · (try dsimp only); omega
              · (try dsimp only); rw [addA_succ (by assumption), ← i1]; first | exact (stepA_n (by assumption)).symm | (refine Eq.symm ((stepA_y (by assumption)).trans (congrArg (Prod.mk _) (Prod.ext rfl (Prod.ext ?_ ?_)))) <;> (dsimp only [mrg]; split <;> first | rfl | omega))
              · (try dsimp only); (try simp only [List.length_append, List.length_set, List.length_cons, List.length_nil]); omega
              · dsimp only; omega
          · have c11e : (decide ((x7.2.1 : Int) < lo)) = false := Eq.trans (by kernel_rfl) h10
            clear h10
            have c11 : ¬ (x7.2.1 : Int) < lo := of_decide_eq_false c11e
            clear c11e
            refine ald_nil ?_
            refine kF ?_
            refine sk_skip (sk_seq ?_)
            refine sk_drawL Try.cfgOk hS ?_
            refine dK 2 ?_
            refine dM (indexAddrV Try.cfg 23 (inlL scells 3 l) (.int .i64 ((i : Nat) : Int))) (elt (flatL scells l) (i * 3)) (idx_inlL tokC (by kernel_rfl) (by first | omega | simp)) ?_
            refine dM (fieldAddrV Try.cfg 32 (elt (flatL scells l) (i * 3)) 2) (elt (flatL scells l) (i * 3 + 2)) (fld_elt (o := i * 3) (off := 2) tokC (by kernel_rfl)) ?_
            refine dM (loadV Try.cfg (St.empty 0) 3 (elt (flatL scells l) (i * 3 + 2))) (.int .i64 x7.2.2) (load_el1 (o := 2) tokC (by kernel_rfl) scells_len hx7 rfl) ?_
            refine dK 2 ?_
            refine dT (fun h14 => ?_) (fun h14 => ?_)
            · have c15e : (decide ((x7.2.2 : Int) > hi)) = true := Eq.trans (by kernel_rfl) h14
              clear h14
              have c15 : (x7.2.2 : Int) > hi := of_decide_eq_true c15e
              clear c15e
              refine ald_nil ?_
              refine kT ?_
              refine sk_regionL Try.cfgOk hS ?_
              refine aK 2 ?_
              refine aM (indexAddrV Try.cfg 23 (inlL scells 3 l) (.int .i64 ((i : Nat) : Int))) (elt (flatL scells l) (i * 3)) (idx_inlL tokC (by kernel_rfl) (by first | omega | simp)) ?_
              refine aM (fieldAddrV Try.cfg 32 (elt (flatL scells l) (i * 3)) 2) (elt (flatL scells l) (i * 3 + 2)) (fld_elt (o := i * 3) (off := 2) tokC (by kernel_rfl)) ?_
              refine aM (loadV Try.cfg (St.empty 0) 3 (elt (flatL scells l) (i * 3 + 2))) (.int .i64 x7.2.2) (load_el1 (o := 2) tokC (by kernel_rfl) scells_len hx7 rfl) ?_
              refine aN ?_
              refine sk_regionL Try.cfgOk hS ?_
              refine aK 1 ?_
              refine aE (v := .int .i64 (IntKind.wrap .i64 (((i : Nat) : Int) + 1))) (.int .i64 ((i + 1 : Nat) : Int)) (congrArg (Value.int .i64) (wrap_to (by omega) (by omega))) ?_
              refine aN ?_
              refine .inl ⟨(i + 1, ol, lo, x7.2.2), rfl, ⟨?_, ?_, ?_⟩, ?_, ⟨by kernel_rfl, ⟨by kernel_rfl, by kernel_rfl, by kernel_rfl, by kernel_rfl, trivial⟩, ⟨sub_clo rfl, .ptr ⟨by decide, rfl⟩, .slice ⟨by decide, rfl⟩, sub_clo rfl, trivial⟩, Nat.le_of_ble_eq_true (by kernel_rfl), ⟨by kernel_rfl, (((wf_empty 0).new _).new _), (selfs (all_cons (o := .cells [.int .i64 xt, .int .i64 lo, .int .i64 x7.2.2]) (by kernel_rfl) (OSub.cells (.cons (sub_clo rfl) (.cons (sub_clo rfl) (.cons (sub_clo rfl) .nil)))) (all_cons (o := rowL scells ol) (by kernel_rfl) (OSub.arr (subs_clo (flatL_clo scells_clo))) (all_none))))⟩, mem_all (by kernel_rfl)⟩⟩
              · (try dsimp only); omega
              · (try dsimp only); rw [addA_succ (by assumption), ← i1]; first | exact (stepA_n (by assumption)).symm | (refine Eq.symm ((stepA_y (by assumption)).trans (congrArg (Prod.mk _) (Prod.ext rfl (Prod.ext ?_ ?_)))) <;> (dsimp only [mrg]; split <;> first | rfl | omega))
              · (try dsimp only); (try simp only [List.length_append, List.length_set, List.length_cons, List.length_nil]); omega
              · dsimp only; omega
            · have c15e : (decide ((x7.2.2 : Int) > hi)) = false := Eq.trans (by kernel_rfl) h14
              clear h14
              have c15 : ¬ (x7.2.2 : Int) > hi := of_decide_eq_false c15e
              clear c15e
              refine ald_nil ?_
              refine kF ?_
              refine sk_skip ?_
              refine sk_regionL Try.cfgOk hS ?_
              refine aK 1 ?_
              refine aE (v := .int .i64 (IntKind.wrap .i64 (((i : Nat) : Int) + 1))) (.int .i64 ((i + 1 : Nat) : Int)) (congrArg (Value.int .i64) (wrap_to (by omega) (by omega))) ?_
              refine aN ?_
              refine .inl ⟨(i + 1, ol, lo, hi), rfl, ⟨?_, ?_, ?_⟩, ?_, ⟨by kernel_rfl, ⟨by kernel_rfl, by kernel_rfl, by kernel_rfl, by kernel_rfl, trivial⟩, ⟨sub_clo rfl, .ptr ⟨by decide, rfl⟩, .slice ⟨by decide, rfl⟩, sub_clo rfl, trivial⟩, Nat.le_of_ble_eq_true (by kernel_rfl), ⟨by kernel_rfl, (((wf_empty 0).new _).new _), (selfs (all_cons (o := .cells [.int .i64 xt, .int .i64 lo, .int .i64 hi]) (by kernel_rfl) (OSub.cells (.cons (sub_clo rfl) (.cons (sub_clo rfl) (.cons (sub_clo rfl) .nil)))) (all_cons (o := rowL scells ol) (by kernel_rfl) (OSub.arr (subs_clo (flatL_clo scells_clo))) (all_none))))⟩, mem_all (by kernel_rfl)⟩⟩
              · (try dsimp only); omega
              · (try dsimp only); rw [addA_succ (by assumption), ← i1]; first | exact (stepA_n (by assumption)).symm | (refine Eq.symm ((stepA_y (by assumption)).trans (congrArg (Prod.mk _) (Prod.ext rfl (Prod.ext ?_ ?_)))) <;> (dsimp only [mrg]; split <;> first | rfl | omega))
              · (try dsimp only); (try simp only [List.length_append, List.length_set, List.length_cons, List.length_nil]); omega
              · dsimp only; omega
        · have c9 : ¬ (x7.1 = xt ∧ ¬ (x7.2.2 < lo ∧ ¬ IntKind.wrap .i64 (x7.2.2 + 1) = lo) ∧ ¬ (hi < x7.2.1 ∧ ¬ IntKind.wrap .i64 (hi + 1) = x7.2.1)) := of_decide_eq_false h8
          clear h8
          refine dK 1 ?_
          refine ald_nil ?_
          refine kT ?_
          refine sk_seq ?_
          refine sk_regionL Try.cfgOk hS ?_
          refine aK 3 ?_
          refine aM (indexAddrV Try.cfg 23 (inlL scells 3 l) (.int .i64 ((i : Nat) : Int))) (elt (flatL scells l) (i * 3)) (idx_inlL tokC (by kernel_rfl) (by first | omega | simp)) ?_
          refine aM (loadV Try.cfg (St.empty 0) 32 (elt (flatL scells l) (i * 3))) (.agg #[.int .i64 x7.1, .int .i64 x7.2.1, .int .i64 x7.2.2]) (load_el tokC (by kernel_rfl) scells_len hx7) ?_
          refine aK 1 ?_
          refine al_opF (v := slL 1 3 (ol ++ [(x7.1, x7.2.1, x7.2.2)]).length) (s1 := ((((St.empty 0).new (.cells [.int .i64 xt, .int .i64 lo, .int .i64 hi])).new (rowL scells ol)).new (.arr [.int .i64 x7.1, .int .i64 x7.2.1, .int .i64 x7.2.2] 0 false)).set 1 (rowL scells (ol ++ [(x7.1, x7.2.1, x7.2.2)]))) (by kernel_rfl) (by kernel_rfl) (Eq.trans (b := appendV Try.cfg ((((St.empty 0).new (.cells [.int .i64 xt, .int .i64 lo, .int .i64 hi])).new (rowL scells ol)).new (.arr [.int .i64 x7.1, .int .i64 x7.2.1, .int .i64 x7.2.2] 0 false)) 23 (slL 1 3 ol.length) (.slice (some ⟨2, 0, some 3⟩) 1 3)) (by kernel_rfl) (app_rowL (l := ol) (l2 := [(x7.1, x7.2.1, x7.2.2)]) (bytes := 24) tokC (by kernel_rfl) scells_len scells_one (by kernel_rfl) (by kernel_rfl) (by kernel_rfl) (by (try simp only [List.length_cons, List.length_nil, List.length_append]); omega))) ?_
          refine aN ?_
          refine sk_exit ?_
          dsimp only
          try rw [if_pos rfl]
          refine sk_regionL Try.cfgOk hS ?_
          refine aK 1 ?_
          refine aE (v := .int .i64 (IntKind.wrap .i64 (((i : Nat) : Int) + 1))) (.int .i64 ((i + 1 : Nat) : Int)) (congrArg (Value.int .i64) (wrap_to (by omega) (by omega))) ?_
          refine aN ?_
          refine .inl ⟨(i + 1, (ol ++ [(x7.1, x7.2.1, x7.2.2)]), lo, hi), rfl, ⟨?_, ?_, ?_⟩, ?_, ⟨by kernel_rfl, ⟨by kernel_rfl, by kernel_rfl, by kernel_rfl, by kernel_rfl, trivial⟩, ⟨sub_clo rfl, .ptr ⟨by decide, rfl⟩, .slice ⟨by decide, rfl⟩, sub_clo rfl, trivial⟩, Nat.le_of_ble_eq_true (by kernel_rfl), ⟨by kernel_rfl, (((wf_empty 0).new _).new _), (selfs (all_cons (o := .cells [.int .i64 xt, .int .i64 lo, .int .i64 hi]) (by kernel_rfl) (OSub.cells (.cons (sub_clo rfl) (.cons (sub_clo rfl) (.cons (sub_clo rfl) .nil)))) (all_cons (o := rowL scells (ol ++ [(x7.1, x7.2.1, x7.2.2)])) (by kernel_rfl) (OSub.arr (subs_clo (flatL_clo scells_clo))) (all_none))))⟩, mem_all (by kernel_rfl)⟩⟩
          · (try dsimp only); omega
          · (try dsimp only); rw [addA_succ (by assumption), ← i1]; first | exact (stepA_n (by assumption)).symm | (refine Eq.symm ((stepA_y (by assumption)).trans (congrArg (Prod.mk _) (Prod.ext rfl (Prod.ext ?_ ?_)))) <;> (dsimp only [mrg]; split <;> first | rfl | omega))
          · (try dsimp only); (try simp only [List.length_append, List.length_set, List.length_cons, List.length_nil]); omega
          · dsimp only; omega
      · have c6e : (decide ((((i : Nat) : Int) : Int) < ((l.length : Nat) : Int))) = false := Eq.trans (by kernel_rfl) h5
        clear h5
        have c6 : ¬ (((i : Nat) : Int) : Int) < ((l.length : Nat) : Int) := of_decide_eq_false c6e
        clear c6e
        refine al_nil ?_
        refine kF ?_
        refine sk_exit ?_
        dsimp only
        refine .inr ⟨_, _, (fun h => by cases h), ⟨rfl, ?_, rfl, rfl⟩, ⟨by kernel_rfl, ⟨by kernel_rfl, by kernel_rfl, by kernel_rfl, by kernel_rfl, trivial⟩, ⟨sub_clo rfl, .ptr ⟨by decide, rfl⟩, .slice ⟨by decide, rfl⟩, sub_clo rfl, trivial⟩, Nat.le_of_ble_eq_true (by kernel_rfl), ⟨by kernel_rfl, (((wf_empty 0).new _).new _), (selfs (all_cons (o := .cells [.int .i64 xt, .int .i64 lo, .int .i64 hi]) (by kernel_rfl) (OSub.cells (.cons (sub_clo rfl) (.cons (sub_clo rfl) (.cons (sub_clo rfl) .nil)))) (all_cons (o := rowL scells ol) (by kernel_rfl) (OSub.arr (subs_clo (flatL_clo scells_clo))) (all_none))))⟩, mem_all (by kernel_rfl)⟩⟩
        · omega
    · exact ⟨by ((try dsimp only); first | done | (omega)), by ((try dsimp only); first | done | (rfl)), by ((try dsimp only); first | done | (exact Nat.zero_le _))⟩
    rintro o e1 s1 ⟨a, lv1, M1, m4, ha, ⟨rfl, hx, rfl, rfl⟩, rfl, rfl⟩
    obtain ⟨i, ol, lo, hi⟩ := a
    obtain ⟨i0, i1, i2⟩ := ha
    dsimp only at hx i0 i1 i2
    dsimp only
    try rw [if_pos rfl]
    refine sk_seq ?_
    refine kK Try.cfgOk hS ?_
    refine sk_seq ?_
    refine kK Try.cfgOk hS ?_
    refine sk_seq (sk_seq ?_)
    refine kK Try.cfgOk hS ?_
    refine sk_block ?_
    refine sk_live 113 [(3, .pointer (some ⟨0, 0, none⟩)), (5, slL 1 3 ol.length), (7, .slice none 0 0), (8, .bool false), (9, .int .i64 0)] (by kernel_rfl) ⟨by kernel_rfl, by kernel_rfl, by kernel_rfl, by kernel_rfl, by kernel_rfl, trivial⟩ fun m16 => ?_
    refine sk_st (((St.empty 0).new (.cells [.int .i64 xt, .int .i64 lo, .int .i64 hi])).new (rowL scells ol)) (by kernel_rfl) ?_
    refine virt_at (n := 113) (t := 7) (sz := 3) [(3, .pointer (some ⟨0, 0, none⟩)), (5, slL 1 3 ol.length), (7, slL 2 3 0), (8, .bool false), (9, .int .i64 0)] (by decide) (((wf_empty 0).new _).new _) (by kernel_rfl) (by kernel_rfl) (by kernel_rfl) fun m16v => ?_
    refine sk_live 113 ((fun a : Nat × (List Span) × Bool => [(3, .pointer (some ⟨0, 0, none⟩)), (5, slL 1 3 ol.length), (7, slL 2 3 a.2.1.length), (8, .bool a.2.2), (9, .int .i64 ((a.1 : Nat) : Int))]) (0, ([] : List Span), false)) (by kernel_rfl) ⟨by kernel_rfl, by kernel_rfl, by kernel_rfl, by kernel_rfl, by kernel_rfl, trivial⟩ fun m17 => ?_
    refine sk_st ((fun a : Nat × (List Span) × Bool => ((((St.empty 0).new (.cells [.int .i64 xt, .int .i64 lo, .int .i64 hi])).new (rowL scells ol)).new (rowL scells a.2.1))) (0, ([] : List Span), false)) (by kernel_rfl) ?_
    refine (sk_while (k := 3) (N := 400) (live := (fun a : Nat × (List Span) × Bool => [(3, .pointer (some ⟨0, 0, none⟩)), (5, slL 1 3 ol.length), (7, slL 2 3 a.2.1.length), (8, .bool a.2.2), (9, .int .i64 ((a.1 : Nat) : Int))])) (M := (fun a : Nat × (List Span) × Bool => ((((St.empty 0).new (.cells [.int .i64 xt, .int .i64 lo, .int .i64 hi])).new (rowL scells ol)).new (rowL scells a.2.1)))) (fun a : Nat × (List Span) × Bool => (a.1 ≤ ol.length) ∧ ((a.2.1, a.2.2) = addB (xt, lo, hi) (ol.take a.1)) ∧ (a.2.1.length ≤ 2 * a.1)) (fun a : Nat × (List Span) × Bool => ol.length - a.1) (fun (a : Nat × (List Span) × Bool) (o : Out) (lv : List (Nat × Value)) (M : St) => (o = .exit 2 ∧ (¬ a.1 < ol.length) ∧ lv = [(3, .pointer (some ⟨0, 0, none⟩)), (5, slL 1 3 ol.length), (7, slL 2 3 a.2.1.length), (8, .bool a.2.2), (9, .int .i64 ((a.1 : Nat) : Int))] ∧ M = ((((St.empty 0).new (.cells [.int .i64 xt, .int .i64 lo, .int .i64 hi])).new (rowL scells ol)).new (rowL scells a.2.1)))) (Nat.zero_le _) (fun a ha => ?_) (fun a ha => ?_) (fun a m ha => ?_) (fun a m ha => ?_) (0, ([] : List Span), false) m17 ?_).up ?_
    · exact ⟨by kernel_rfl, ((((wf_empty 0).new _).new _).new _), (selfs (all_cons (o := .cells [.int .i64 xt, .int .i64 lo, .int .i64 hi]) (by kernel_rfl) (OSub.cells (.cons (sub_clo rfl) (.cons (sub_clo rfl) (.cons (sub_clo rfl) .nil)))) (all_cons (o := rowL scells ol) (by kernel_rfl) (OSub.arr (subs_clo (flatL_clo scells_clo))) (all_cons (o := rowL scells a.2.1) (by kernel_rfl) (OSub.arr (subs_clo (flatL_clo scells_clo))) (all_none)))))⟩
    · exact ⟨.ptr ⟨by decide, rfl⟩, .slice ⟨by decide, rfl⟩, .slice ⟨by decide, rfl⟩, sub_clo rfl, sub_clo rfl, trivial⟩
    · exact ⟨by kernel_rfl, by kernel_rfl, by kernel_rfl, by kernel_rfl, by kernel_rfl, trivial⟩
    · obtain ⟨j, w, d⟩ := a
      obtain ⟨g0, g1, g2⟩ := ha
      dsimp only at g0 g1 g2
      rcases d with _ | _
      ·
        refine sk_seq (sk_seq ?_)
        refine sk_regionL Try.cfgOk hS ?_
        refine aK 3 ?_
        refine aT (fun h18 => ?_) (fun h18 => ?_)
        · have c19e : (decide ((((j : Nat) : Int) : Int) < ((ol.length : Nat) : Int))) = true := Eq.trans (by kernel_rfl) h18
          clear h18
          have c19 : (((j : Nat) : Int) : Int) < ((ol.length : Nat) : Int) := of_decide_eq_true c19e
          clear c19e
          refine al_nil ?_
          refine kT ?_
          refine sk_skip (sk_seq (sk_block (sk_seq ?_)))
          refine sk_regionL Try.cfgOk hS ?_
          refine aK 2 ?_
          refine aM (indexAddrV Try.cfg 23 (slL 1 3 ol.length) (.int .i64 ((j : Nat) : Int))) (.pointer (some ⟨1, j * 3, some (ol.length * 3)⟩)) (idx_rowL (by kernel_rfl) (by omega)) ?_
          have hx20l : j < ol.length := by omega
          refine Exists.elim (get_ex hx20l) fun x20 hx20 => ?_
          clear hx20l
          refine aM (loadV Try.cfg ((((St.empty 0).new (.cells [.int .i64 xt, .int .i64 lo, .int .i64 hi])).new (rowL scells ol)).new (rowL scells w)) 32 (.pointer (some ⟨1, j * 3, some (ol.length * 3)⟩))) (.agg #[.int .i64 x20.1, .int .i64 x20.2.1, .int .i64 x20.2.2]) (load_rowL (l := ol) (by kernel_rfl) scells_len (by kernel_rfl) hx20) ?_
          refine aN ?_
          refine sk_seq (sk_seq ?_)
          refine sk_regionL Try.cfgOk hS ?_
          refine aK 7 ?_
          refine aT (fun h21 => ?_) (fun h21 => ?_)
          · have c22e : (decide ((x20.1 : Int) > xt)) = true := Eq.trans (by kernel_rfl) h21
            clear h21
            have c22 : (x20.1 : Int) > xt := of_decide_eq_true c22e
            clear c22e
            refine aN ?_
            refine kT ?_
            refine sk_seq ?_
            refine sk_regionL Try.cfgOk hS ?_
            refine aK 3 ?_
            refine al_opF (v := slL 2 3 (w ++ [(xt, lo, hi)]).length) (s1 := ((((((St.empty 0).new (.cells [.int .i64 xt, .int .i64 lo, .int .i64 hi])).new (rowL scells ol)).new (rowL scells w)).new (.cells [.int .i64 x20.1, .int .i64 x20.2.1, .int .i64 x20.2.2])).new (.arr [.int .i64 xt, .int .i64 lo, .int .i64 hi] 0 false)).set 2 (rowL scells (w ++ [(xt, lo, hi)]))) (by kernel_rfl) (by kernel_rfl) (Eq.trans (b := appendV Try.cfg ((((((St.empty 0).new (.cells [.int .i64 xt, .int .i64 lo, .int .i64 hi])).new (rowL scells ol)).new (rowL scells w)).new (.cells [.int .i64 x20.1, .int .i64 x20.2.1, .int .i64 x20.2.2])).new (.arr [.int .i64 xt, .int .i64 lo, .int .i64 hi] 0 false)) 23 (slL 2 3 w.length) (.slice (some ⟨4, 0, some 3⟩) 1 3)) (by kernel_rfl) (app_rowL (l := w) (l2 := [(xt, lo, hi)]) (bytes := 24) tokC (by kernel_rfl) scells_len scells_one (by kernel_rfl) (by kernel_rfl) (by kernel_rfl) (by (try simp only [List.length_cons, List.length_nil, List.length_append]); omega))) ?_
            refine aN ?_
            refine kK Try.cfgOk hS ?_
            refine sk_regionL Try.cfgOk hS ?_
            refine aK 3 ?_
            refine al_opF (v := slL 2 3 ((w ++ [(xt, lo, hi)]) ++ [(x20.1, x20.2.1, x20.2.2)]).length) (s1 := (((((((St.empty 0).new (.cells [.int .i64 xt, .int .i64 lo, .int .i64 hi])).new (rowL scells ol)).new (rowL scells (w ++ [(xt, lo, hi)]))).new (.cells [.int .i64 x20.1, .int .i64 x20.2.1, .int .i64 x20.2.2])).new (.arr [.int .i64 xt, .int .i64 lo, .int .i64 hi] 0 false)).new (.arr [.int .i64 x20.1, .int .i64 x20.2.1, .int .i64 x20.2.2] 0 false)).set 2 (rowL scells ((w ++ [(xt, lo, hi)]) ++ [(x20.1, x20.2.1, x20.2.2)]))) (by kernel_rfl) (by kernel_rfl) (Eq.trans (b := appendV Try.cfg (((((((St.empty 0).new (.cells [.int .i64 xt, .int .i64 lo, .int .i64 hi])).new (rowL scells ol)).new (rowL scells (w ++ [(xt, lo, hi)]))).new (.cells [.int .i64 x20.1, .int .i64 x20.2.1, .int .i64 x20.2.2])).new (.arr [.int .i64 xt, .int .i64 lo, .int .i64 hi] 0 false)).new (.arr [.int .i64 x20.1, .int .i64 x20.2.1, .int .i64 x20.2.2] 0 false)) 23 (slL 2 3 ((w ++ [(xt, lo, hi)]).length)) (.slice (some ⟨5, 0, some 3⟩) 1 3)) (by kernel_rfl) (app_rowL (l := (w ++ [(xt, lo, hi)])) (l2 := [(x20.1, x20.2.1, x20.2.2)]) (bytes := 24) tokC (by kernel_rfl) scells_len scells_one (by kernel_rfl) (by kernel_rfl) (by kernel_rfl) (by (try simp only [List.length_cons, List.length_nil, List.length_append]); omega))) ?_
            refine aN ?_
            refine sk_regionL Try.cfgOk hS ?_
            refine aK 1 ?_
            refine aE (v := .int .i64 (IntKind.wrap .i64 (((j : Nat) : Int) + 1))) (.int .i64 ((j + 1 : Nat) : Int)) (congrArg (Value.int .i64) (wrap_to (by omega) (by omega))) ?_
            refine aN ?_
            refine .inl ⟨(j + 1, ((w ++ [(xt, lo, hi)]) ++ [(x20.1, x20.2.1, x20.2.2)]), true), rfl, ⟨?_, ?_, ?_⟩, ?_, ⟨by kernel_rfl, ⟨by kernel_rfl, by kernel_rfl, by kernel_rfl, by kernel_rfl, by kernel_rfl, trivial⟩, ⟨.ptr ⟨by decide, rfl⟩, .slice ⟨by decide, rfl⟩, .slice ⟨by decide, rfl⟩, sub_clo rfl, sub_clo rfl, trivial⟩, Nat.le_of_ble_eq_true (by kernel_rfl), ⟨by kernel_rfl, ((((wf_empty 0).new _).new _).new _), (selfs (all_cons (o := .cells [.int .i64 xt, .int .i64 lo, .int .i64 hi]) (by kernel_rfl) (OSub.cells (.cons (sub_clo rfl) (.cons (sub_clo rfl) (.cons (sub_clo rfl) .nil)))) (all_cons (o := rowL scells ol) (by kernel_rfl) (OSub.arr (subs_clo (flatL_clo scells_clo))) (all_cons (o := rowL scells ((w ++ [(xt, lo, hi)]) ++ [(x20.1, x20.2.1, x20.2.2)])) (by kernel_rfl) (OSub.arr (subs_clo (flatL_clo scells_clo))) (all_none)))))⟩, mem_all (by kernel_rfl)⟩⟩
            · (try dsimp only); omega
            · (try dsimp only); rw [addB_succ (by assumption), ← g1]; first | exact (stepB_1 (by dsimp only [abvS]; omega)).symm | exact (stepB_2 (by dsimp only [abvS]; omega)).symm | exact stepB_3.symm
            · (try dsimp only); (try simp only [List.length_append, List.length_set, List.length_cons, List.length_nil]); omega
            · dsimp only; omega
          · have c22e : (decide ((x20.1 : Int) > xt)) = false := Eq.trans (by kernel_rfl) h21
            clear h21
            have c22 : ¬ (x20.1 : Int) > xt := of_decide_eq_false c22e
            clear c22e
            refine aK 5 ?_
            refine aT (fun h23 => ?_) (fun h23 => ?_)
            · have c24e : ((x20.1 : Int) == xt) = true := Eq.trans (by kernel_rfl) h23
              clear h23
              have c24 : (x20.1 : Int) = xt := eq_of_beq c24e
              clear c24e
              refine aK 5 ?_
              refine aT (fun h25 => ?_) (fun h25 => ?_)
              · have c26e : (decide ((x20.2.1 : Int) > lo)) = true := Eq.trans (by kernel_rfl) h25
                clear h25
                have c26 : (x20.2.1 : Int) > lo := of_decide_eq_true c26e
                clear c26e
                refine aN ?_
                refine kT ?_
                refine sk_seq ?_
                refine sk_regionL Try.cfgOk hS ?_
                refine aK 3 ?_
                refine al_opF (v := slL 2 3 (w ++ [(xt, lo, hi)]).length) (s1 := ((((((St.empty 0).new (.cells [.int .i64 xt, .int .i64 lo, .int .i64 hi])).new (rowL scells ol)).new (rowL scells w)).new (.cells [.int .i64 x20.1, .int .i64 x20.2.1, .int .i64 x20.2.2])).new (.arr [.int .i64 xt, .int .i64 lo, .int .i64 hi] 0 false)).set 2 (rowL scells (w ++ [(xt, lo, hi)]))) (by kernel_rfl) (by kernel_rfl) (Eq.trans (b := appendV Try.cfg ((((((St.empty 0).new (.cells [.int .i64 xt, .int .i64 lo, .int .i64 hi])).new (rowL scells ol)).new (rowL scells w)).new (.cells [.int .i64 x20.1, .int .i64 x20.2.1, .int .i64 x20.2.2])).new (.arr [.int .i64 xt, .int .i64 lo, .int .i64 hi] 0 false)) 23 (slL 2 3 w.length) (.slice (some ⟨4, 0, some 3⟩) 1 3)) (by kernel_rfl) (app_rowL (l := w) (l2 := [(xt, lo, hi)]) (bytes := 24) tokC (by kernel_rfl) scells_len scells_one (by kernel_rfl) (by kernel_rfl) (by kernel_rfl) (by (try simp only [List.length_cons, List.length_nil, List.length_append]); omega))) ?_
                refine aN ?_
                refine kK Try.cfgOk hS ?_
                refine sk_regionL Try.cfgOk hS ?_
                refine aK 3 ?_
                refine al_opF (v := slL 2 3 ((w ++ [(xt, lo, hi)]) ++ [(x20.1, x20.2.1, x20.2.2)]).length) (s1 := (((((((St.empty 0).new (.cells [.int .i64 xt, .int .i64 lo, .int .i64 hi])).new (rowL scells ol)).new (rowL scells (w ++ [(xt, lo, hi)]))).new (.cells [.int .i64 x20.1, .int .i64 x20.2.1, .int .i64 x20.2.2])).new (.arr [.int .i64 xt, .int .i64 lo, .int .i64 hi] 0 false)).new (.arr [.int .i64 x20.1, .int .i64 x20.2.1, .int .i64 x20.2.2] 0 false)).set 2 (rowL scells ((w ++ [(xt, lo, hi)]) ++ [(x20.1, x20.2.1, x20.2.2)]))) (by kernel_rfl) (by kernel_rfl) (Eq.trans (b := appendV Try.cfg (((((((St.empty 0).new (.cells [.int .i64 xt, .int .i64 lo, .int .i64 hi])).new (rowL scells ol)).new (rowL scells (w ++ [(xt, lo, hi)]))).new (.cells [.int .i64 x20.1, .int .i64 x20.2.1, .int .i64 x20.2.2])).new (.arr [.int .i64 xt, .int .i64 lo, .int .i64 hi] 0 false)).new (.arr [.int .i64 x20.1, .int .i64 x20.2.1, .int .i64 x20.2.2] 0 false)) 23 (slL 2 3 ((w ++ [(xt, lo, hi)]).length)) (.slice (some ⟨5, 0, some 3⟩) 1 3)) (by kernel_rfl) (app_rowL (l := (w ++ [(xt, lo, hi)])) (l2 := [(x20.1, x20.2.1, x20.2.2)]) (bytes := 24) tokC (by kernel_rfl) scells_len scells_one (by kernel_rfl) (by kernel_rfl) (by kernel_rfl) (by (try simp only [List.length_cons, List.length_nil, List.length_append]); omega))) ?_
                refine aN ?_
                refine sk_regionL Try.cfgOk hS ?_
                refine aK 1 ?_
                refine aE (v := .int .i64 (IntKind.wrap .i64 (((j : Nat) : Int) + 1))) (.int .i64 ((j + 1 : Nat) : Int)) (congrArg (Value.int .i64) (wrap_to (by omega) (by omega))) ?_
                refine aN ?_
                refine .inl ⟨(j + 1, ((w ++ [(xt, lo, hi)]) ++ [(x20.1, x20.2.1, x20.2.2)]), true), rfl, ⟨?_, ?_, ?_⟩, ?_, ⟨by kernel_rfl, ⟨by kernel_rfl, by kernel_rfl, by kernel_rfl, by kernel_rfl, by kernel_rfl, trivial⟩, ⟨.ptr ⟨by decide, rfl⟩, .slice ⟨by decide, rfl⟩, .slice ⟨by decide, rfl⟩, sub_clo rfl, sub_clo rfl, trivial⟩, Nat.le_of_ble_eq_true (by kernel_rfl), ⟨by kernel_rfl, ((((wf_empty 0).new _).new _).new _), (selfs (all_cons (o := .cells [.int .i64 xt, .int .i64 lo, .int .i64 hi]) (by kernel_rfl) (OSub.cells (.cons (sub_clo rfl) (.cons (sub_clo rfl) (.cons (sub_clo rfl) .nil)))) (all_cons (o := rowL scells ol) (by kernel_rfl) (OSub.arr (subs_clo (flatL_clo scells_clo))) (all_cons (o := rowL scells ((w ++ [(xt, lo, hi)]) ++ [(x20.1, x20.2.1, x20.2.2)])) (by kernel_rfl) (OSub.arr (subs_clo (flatL_clo scells_clo))) (all_none)))))⟩, mem_all (by kernel_rfl)⟩⟩
                · (try dsimp only); omega
                · (try dsimp only); rw [addB_succ (by assumption), ← g1]; first | exact (stepB_1 (by dsimp only [abvS]; omega)).symm | exact (stepB_2 (by dsimp only [abvS]; omega)).symm | exact stepB_3.symm
                · (try dsimp only); (try simp only [List.length_append, List.length_set, List.length_cons, List.length_nil]); omega
                · dsimp only; omega
              · have c26e : (decide ((x20.2.1 : Int) > lo)) = false := Eq.trans (by kernel_rfl) h25
                clear h25
                have c26 : ¬ (x20.2.1 : Int) > lo := of_decide_eq_false c26e
                clear c26e
                refine aN ?_
                refine kF ?_
                refine sk_skip ?_
                refine sk_regionL Try.cfgOk hS ?_
                refine aK 3 ?_
                refine al_opF (v := slL 2 3 (w ++ [(x20.1, x20.2.1, x20.2.2)]).length) (s1 := ((((((St.empty 0).new (.cells [.int .i64 xt, .int .i64 lo, .int .i64 hi])).new (rowL scells ol)).new (rowL scells w)).new (.cells [.int .i64 x20.1, .int .i64 x20.2.1, .int .i64 x20.2.2])).new (.arr [.int .i64 x20.1, .int .i64 x20.2.1, .int .i64 x20.2.2] 0 false)).set 2 (rowL scells (w ++ [(x20.1, x20.2.1, x20.2.2)]))) (by kernel_rfl) (by kernel_rfl) (Eq.trans (b := appendV Try.cfg ((((((St.empty 0).new (.cells [.int .i64 xt, .int .i64 lo, .int .i64 hi])).new (rowL scells ol)).new (rowL scells w)).new (.cells [.int .i64 x20.1, .int .i64 x20.2.1, .int .i64 x20.2.2])).new (.arr [.int .i64 x20.1, .int .i64 x20.2.1, .int .i64 x20.2.2] 0 false)) 23 (slL 2 3 w.length) (.slice (some ⟨4, 0, some 3⟩) 1 3)) (by kernel_rfl) (app_rowL (l := w) (l2 := [(x20.1, x20.2.1, x20.2.2)]) (bytes := 24) tokC (by kernel_rfl) scells_len scells_one (by kernel_rfl) (by kernel_rfl) (by kernel_rfl) (by (try simp only [List.length_cons, List.length_nil, List.length_append]); omega))) ?_
                refine aN ?_
                refine sk_regionL Try.cfgOk hS ?_
                refine aK 1 ?_
                refine aE (v := .int .i64 (IntKind.wrap .i64 (((j : Nat) : Int) + 1))) (.int .i64 ((j + 1 : Nat) : Int)) (congrArg (Value.int .i64) (wrap_to (by omega) (by omega))) ?_
                refine aN ?_
                refine .inl ⟨(j + 1, (w ++ [(x20.1, x20.2.1, x20.2.2)]), false), rfl, ⟨?_, ?_, ?_⟩, ?_, ⟨by kernel_rfl, ⟨by kernel_rfl, by kernel_rfl, by kernel_rfl, by kernel_rfl, by kernel_rfl, trivial⟩, ⟨.ptr ⟨by decide, rfl⟩, .slice ⟨by decide, rfl⟩, .slice ⟨by decide, rfl⟩, sub_clo rfl, sub_clo rfl, trivial⟩, Nat.le_of_ble_eq_true (by kernel_rfl), ⟨by kernel_rfl, ((((wf_empty 0).new _).new _).new _), (selfs (all_cons (o := .cells [.int .i64 xt, .int .i64 lo, .int .i64 hi]) (by kernel_rfl) (OSub.cells (.cons (sub_clo rfl) (.cons (sub_clo rfl) (.cons (sub_clo rfl) .nil)))) (all_cons (o := rowL scells ol) (by kernel_rfl) (OSub.arr (subs_clo (flatL_clo scells_clo))) (all_cons (o := rowL scells (w ++ [(x20.1, x20.2.1, x20.2.2)])) (by kernel_rfl) (OSub.arr (subs_clo (flatL_clo scells_clo))) (all_none)))))⟩, mem_all (by kernel_rfl)⟩⟩
                · (try dsimp only); omega
                · (try dsimp only); rw [addB_succ (by assumption), ← g1]; first | exact (stepB_1 (by dsimp only [abvS]; omega)).symm | exact (stepB_2 (by dsimp only [abvS]; omega)).symm | exact stepB_3.symm
                · (try dsimp only); (try simp only [List.length_append, List.length_set, List.length_cons, List.length_nil]); omega
                · dsimp only; omega
            · have c24e : ((x20.1 : Int) == xt) = false := Eq.trans (by kernel_rfl) h23
              clear h23
              have c24 : ¬ (x20.1 : Int) = xt := ne_of_beq_false c24e
              clear c24e
              refine aN ?_
              refine kF ?_
              refine sk_skip ?_
              refine sk_regionL Try.cfgOk hS ?_
              refine aK 3 ?_
              refine al_opF (v := slL 2 3 (w ++ [(x20.1, x20.2.1, x20.2.2)]).length) (s1 := ((((((St.empty 0).new (.cells [.int .i64 xt, .int .i64 lo, .int .i64 hi])).new (rowL scells ol)).new (rowL scells w)).new (.cells [.int .i64 x20.1, .int .i64 x20.2.1, .int .i64 x20.2.2])).new (.arr [.int .i64 x20.1, .int .i64 x20.2.1, .int .i64 x20.2.2] 0 false)).set 2 (rowL scells (w ++ [(x20.1, x20.2.1, x20.2.2)]))) (by kernel_rfl) (by kernel_rfl) (Eq.trans (b := appendV Try.cfg ((((((St.empty 0).new (.cells [.int .i64 xt, .int .i64 lo, .int .i64 hi])).new (rowL scells ol)).new (rowL scells w)).new (.cells [.int .i64 x20.1, .int .i64 x20.2.1, .int .i64 x20.2.2])).new (.arr [.int .i64 x20.1, .int .i64 x20.2.1, .int .i64 x20.2.2] 0 false)) 23 (slL 2 3 w.length) (.slice (some ⟨4, 0, some 3⟩) 1 3)) (by kernel_rfl) (app_rowL (l := w) (l2 := [(x20.1, x20.2.1, x20.2.2)]) (bytes := 24) tokC (by kernel_rfl) scells_len scells_one (by kernel_rfl) (by kernel_rfl) (by kernel_rfl) (by (try simp only [List.length_cons, List.length_nil, List.length_append]); omega))) ?_
              refine aN ?_
              refine sk_regionL Try.cfgOk hS ?_
              refine aK 1 ?_
              refine aE (v := .int .i64 (IntKind.wrap .i64 (((j : Nat) : Int) + 1))) (.int .i64 ((j + 1 : Nat) : Int)) (congrArg (Value.int .i64) (wrap_to (by omega) (by omega))) ?_
              refine aN ?_
              refine .inl ⟨(j + 1, (w ++ [(x20.1, x20.2.1, x20.2.2)]), false), rfl, ⟨?_, ?_, ?_⟩, ?_, ⟨by kernel_rfl, ⟨by kernel_rfl, by kernel_rfl, by kernel_rfl, by kernel_rfl, by kernel_rfl, trivial⟩, ⟨.ptr ⟨by decide, rfl⟩, .slice ⟨by decide, rfl⟩, .slice ⟨by decide, rfl⟩, sub_clo rfl, sub_clo rfl, trivial⟩, Nat.le_of_ble_eq_true (by kernel_rfl), ⟨by kernel_rfl, ((((wf_empty 0).new _).new _).new _), (selfs (all_cons (o := .cells [.int .i64 xt, .int .i64 lo, .int .i64 hi]) (by kernel_rfl) (OSub.cells (.cons (sub_clo rfl) (.cons (sub_clo rfl) (.cons (sub_clo rfl) .nil)))) (all_cons (o := rowL scells ol) (by kernel_rfl) (OSub.arr (subs_clo (flatL_clo scells_clo))) (all_cons (o := rowL scells (w ++ [(x20.1, x20.2.1, x20.2.2)])) (by kernel_rfl) (OSub.arr (subs_clo (flatL_clo scells_clo))) (all_none)))))⟩, mem_all (by kernel_rfl)⟩⟩
              · (try dsimp only); omega
              · (try dsimp only); rw [addB_succ (by assumption), ← g1]; first | exact (stepB_1 (by dsimp only [abvS]; omega)).symm | exact (stepB_2 (by dsimp only [abvS]; omega)).symm | exact stepB_3.symm
              · (try dsimp only); (try simp only [List.length_append, List.length_set, List.length_cons, List.length_nil]); omega
              · dsimp only; omega
        · have c19e : (decide ((((j : Nat) : Int) : Int) < ((ol.length : Nat) : Int))) = false := Eq.trans (by kernel_rfl) h18
          clear h18
          have c19 : ¬ (((j : Nat) : Int) : Int) < ((ol.length : Nat) : Int) := of_decide_eq_false c19e
          clear c19e
          refine al_nil ?_
          refine kF ?_
          refine sk_exit ?_
          dsimp only
          refine .inr ⟨_, _, (fun h => by cases h), ⟨rfl, ?_, rfl, rfl⟩, ⟨by kernel_rfl, ⟨by kernel_rfl, by kernel_rfl, by kernel_rfl, by kernel_rfl, by kernel_rfl, trivial⟩, ⟨.ptr ⟨by decide, rfl⟩, .slice ⟨by decide, rfl⟩, .slice ⟨by decide, rfl⟩, sub_clo rfl, sub_clo rfl, trivial⟩, Nat.le_of_ble_eq_true (by kernel_rfl), ⟨by kernel_rfl, ((((wf_empty 0).new _).new _).new _), (selfs (all_cons (o := .cells [.int .i64 xt, .int .i64 lo, .int .i64 hi]) (by kernel_rfl) (OSub.cells (.cons (sub_clo rfl) (.cons (sub_clo rfl) (.cons (sub_clo rfl) .nil)))) (all_cons (o := rowL scells ol) (by kernel_rfl) (OSub.arr (subs_clo (flatL_clo scells_clo))) (all_cons (o := rowL scells w) (by kernel_rfl) (OSub.arr (subs_clo (flatL_clo scells_clo))) (all_none)))))⟩, mem_all (by kernel_rfl)⟩⟩
          · omega
      ·
        refine sk_seq (sk_seq ?_)
        refine sk_regionL Try.cfgOk hS ?_
        refine aK 3 ?_
        refine aT (fun h27 => ?_) (fun h27 => ?_)
        · have c28e : (decide ((((j : Nat) : Int) : Int) < ((ol.length : Nat) : Int))) = true := Eq.trans (by kernel_rfl) h27
          clear h27
          have c28 : (((j : Nat) : Int) : Int) < ((ol.length : Nat) : Int) := of_decide_eq_true c28e
          clear c28e
          refine al_nil ?_
          refine kT ?_
          refine sk_skip (sk_seq (sk_block (sk_seq ?_)))
          refine sk_regionL Try.cfgOk hS ?_
          refine aK 2 ?_
          refine aM (indexAddrV Try.cfg 23 (slL 1 3 ol.length) (.int .i64 ((j : Nat) : Int))) (.pointer (some ⟨1, j * 3, some (ol.length * 3)⟩)) (idx_rowL (by kernel_rfl) (by omega)) ?_
          have hx29l : j < ol.length := by omega
          refine Exists.elim (get_ex hx29l) fun x29 hx29 => ?_
          clear hx29l
          refine aM (loadV Try.cfg ((((St.empty 0).new (.cells [.int .i64 xt, .int .i64 lo, .int .i64 hi])).new (rowL scells ol)).new (rowL scells w)) 32 (.pointer (some ⟨1, j * 3, some (ol.length * 3)⟩))) (.agg #[.int .i64 x29.1, .int .i64 x29.2.1, .int .i64 x29.2.2]) (load_rowL (l := ol) (by kernel_rfl) scells_len (by kernel_rfl) hx29) ?_
          refine aN ?_
          refine sk_seq (sk_seq ?_)
          refine kK Try.cfgOk hS ?_
          refine kF ?_
          refine sk_skip ?_
          refine sk_regionL Try.cfgOk hS ?_
          refine aK 3 ?_
          refine al_opF (v := slL 2 3 (w ++ [(x29.1, x29.2.1, x29.2.2)]).length) (s1 := ((((((St.empty 0).new (.cells [.int .i64 xt, .int .i64 lo, .int .i64 hi])).new (rowL scells ol)).new (rowL scells w)).new (.cells [.int .i64 x29.1, .int .i64 x29.2.1, .int .i64 x29.2.2])).new (.arr [.int .i64 x29.1, .int .i64 x29.2.1, .int .i64 x29.2.2] 0 false)).set 2 (rowL scells (w ++ [(x29.1, x29.2.1, x29.2.2)]))) (by kernel_rfl) (by kernel_rfl) (Eq.trans (b := appendV Try.cfg ((((((St.empty 0).new (.cells [.int .i64 xt, .int .i64 lo, .int .i64 hi])).new (rowL scells ol)).new (rowL scells w)).new (.cells [.int .i64 x29.1, .int .i64 x29.2.1, .int .i64 x29.2.2])).new (.arr [.int .i64 x29.1, .int .i64 x29.2.1, .int .i64 x29.2.2] 0 false)) 23 (slL 2 3 w.length) (.slice (some ⟨4, 0, some 3⟩) 1 3)) (by kernel_rfl) (app_rowL (l := w) (l2 := [(x29.1, x29.2.1, x29.2.2)]) (bytes := 24) tokC (by kernel_rfl) scells_len scells_one (by kernel_rfl) (by kernel_rfl) (by kernel_rfl) (by (try simp only [List.length_cons, List.length_nil, List.length_append]); omega))) ?_
          refine aN ?_
          refine sk_regionL Try.cfgOk hS ?_
          refine aK 1 ?_
          refine aE (v := .int .i64 (IntKind.wrap .i64 (((j : Nat) : Int) + 1))) (.int .i64 ((j + 1 : Nat) : Int)) (congrArg (Value.int .i64) (wrap_to (by omega) (by omega))) ?_
          refine aN ?_
          refine .inl ⟨(j + 1, (w ++ [(x29.1, x29.2.1, x29.2.2)]), true), rfl, ⟨?_, ?_, ?_⟩, ?_, ⟨by kernel_rfl, ⟨by kernel_rfl, by kernel_rfl, by kernel_rfl, by kernel_rfl, by kernel_rfl, trivial⟩, ⟨.ptr ⟨by decide, rfl⟩, .slice ⟨by decide, rfl⟩, .slice ⟨by decide, rfl⟩, sub_clo rfl, sub_clo rfl, trivial⟩, Nat.le_of_ble_eq_true (by kernel_rfl), ⟨by kernel_rfl, ((((wf_empty 0).new _).new _).new _), (selfs (all_cons (o := .cells [.int .i64 xt, .int .i64 lo, .int .i64 hi]) (by kernel_rfl) (OSub.cells (.cons (sub_clo rfl) (.cons (sub_clo rfl) (.cons (sub_clo rfl) .nil)))) (all_cons (o := rowL scells ol) (by kernel_rfl) (OSub.arr (subs_clo (flatL_clo scells_clo))) (all_cons (o := rowL scells (w ++ [(x29.1, x29.2.1, x29.2.2)])) (by kernel_rfl) (OSub.arr (subs_clo (flatL_clo scells_clo))) (all_none)))))⟩, mem_all (by kernel_rfl)⟩⟩
          · (try dsimp only); omega
          · (try dsimp only); rw [addB_succ (by assumption), ← g1]; first | exact (stepB_1 (by dsimp only [abvS]; omega)).symm | exact (stepB_2 (by dsimp only [abvS]; omega)).symm | exact stepB_3.symm
          · (try dsimp only); (try simp only [List.length_append, List.length_set, List.length_cons, List.length_nil]); omega
          · dsimp only; omega
        · have c28e : (decide ((((j : Nat) : Int) : Int) < ((ol.length : Nat) : Int))) = false := Eq.trans (by kernel_rfl) h27
          clear h27
          have c28 : ¬ (((j : Nat) : Int) : Int) < ((ol.length : Nat) : Int) := of_decide_eq_false c28e
          clear c28e
          refine al_nil ?_
          refine kF ?_
          refine sk_exit ?_
          dsimp only
          refine .inr ⟨_, _, (fun h => by cases h), ⟨rfl, ?_, rfl, rfl⟩, ⟨by kernel_rfl, ⟨by kernel_rfl, by kernel_rfl, by kernel_rfl, by kernel_rfl, by kernel_rfl, trivial⟩, ⟨.ptr ⟨by decide, rfl⟩, .slice ⟨by decide, rfl⟩, .slice ⟨by decide, rfl⟩, sub_clo rfl, sub_clo rfl, trivial⟩, Nat.le_of_ble_eq_true (by kernel_rfl), ⟨by kernel_rfl, ((((wf_empty 0).new _).new _).new _), (selfs (all_cons (o := .cells [.int .i64 xt, .int .i64 lo, .int .i64 hi]) (by kernel_rfl) (OSub.cells (.cons (sub_clo rfl) (.cons (sub_clo rfl) (.cons (sub_clo rfl) .nil)))) (all_cons (o := rowL scells ol) (by kernel_rfl) (OSub.arr (subs_clo (flatL_clo scells_clo))) (all_cons (o := rowL scells w) (by kernel_rfl) (OSub.arr (subs_clo (flatL_clo scells_clo))) (all_none)))))⟩, mem_all (by kernel_rfl)⟩⟩
          · omega
    · exact ⟨by ((try dsimp only); first | done | (omega)), by ((try dsimp only); first | done | (rfl)), by ((try dsimp only); first | done | (exact Nat.zero_le _))⟩
    rintro o e1 s1 ⟨a, lv1, M1, m17, ha, ⟨rfl, hx, rfl, rfl⟩, rfl, rfl⟩
    obtain ⟨j, w, d⟩ := a
    obtain ⟨g0, g1, g2⟩ := ha
    dsimp only at hx g0 g1 g2
    dsimp only
    try rw [if_pos rfl]
    refine sk_seq (sk_seq ?_)
    refine kK Try.cfgOk hS ?_
    rcases d with _ | _
    ·
      refine kT ?_
      refine sk_regionL Try.cfgOk hS ?_
      refine aK 3 ?_
      refine al_opF (v := slL 2 3 (w ++ [(xt, lo, hi)]).length) (s1 := (((((St.empty 0).new (.cells [.int .i64 xt, .int .i64 lo, .int .i64 hi])).new (rowL scells ol)).new (rowL scells w)).new (.arr [.int .i64 xt, .int .i64 lo, .int .i64 hi] 0 false)).set 2 (rowL scells (w ++ [(xt, lo, hi)]))) (by kernel_rfl) (by kernel_rfl) (Eq.trans (b := appendV Try.cfg (((((St.empty 0).new (.cells [.int .i64 xt, .int .i64 lo, .int .i64 hi])).new (rowL scells ol)).new (rowL scells w)).new (.arr [.int .i64 xt, .int .i64 lo, .int .i64 hi] 0 false)) 23 (slL 2 3 w.length) (.slice (some ⟨3, 0, some 3⟩) 1 3)) (by kernel_rfl) (app_rowL (l := w) (l2 := [(xt, lo, hi)]) (bytes := 24) tokC (by kernel_rfl) scells_len scells_one (by kernel_rfl) (by kernel_rfl) (by kernel_rfl) (by (try simp only [List.length_cons, List.length_nil, List.length_append]); omega))) ?_
      refine aN ?_
      refine sk_seq ?_
      refine kK Try.cfgOk hS ?_
      refine sk_ret ?_
      exact ⟨[slL 2 3 ((w ++ [(xt, lo, hi)]).length)], by kernel_rfl, fs_to (fs_rowL (by decide) scells_len scells_clo scells_one (Nat.le_of_ble_eq_true (by kernel_rfl)) (by kernel_rfl)) (congrArg (inlL scells 3) (by first | exact addK_e (by assumption) | exact addK_t (x := (xt, xl, xh)) (by assumption) i1 (by assumption) g1 hx rfl | exact addK_f (x := (xt, xl, xh)) (by assumption) i1 (by assumption) g1 hx rfl)), Nat.le_of_ble_eq_true (by kernel_rfl)⟩
    ·
      refine kF ?_
      refine sk_skip (sk_seq ?_)
      refine kK Try.cfgOk hS ?_
      refine sk_ret ?_
      exact ⟨[slL 2 3 w.length], by kernel_rfl, fs_to (fs_rowL (by decide) scells_len scells_clo scells_one (Nat.le_of_ble_eq_true (by kernel_rfl)) (by kernel_rfl)) (congrArg (inlL scells 3) (by first | exact addK_e (by assumption) | exact addK_t (x := (xt, xl, xh)) (by assumption) i1 (by assumption) g1 hx rfl | exact addK_f (x := (xt, xl, xh)) (by assumption) i1 (by assumption) g1 hx rfl)), Nat.le_of_ble_eq_true (by kernel_rfl)⟩
noncomputable def con_addR_ : Con Try.prog 0 := Con.pure (α := (List Span) × Int × Int × Int) 41 (fun z9 => [inlL scells 3 z9.1, .agg #[.int .i64 z9.2.1, .int .i64 z9.2.2.1, .int .i64 z9.2.2.2]]) (fun z9 => inlL scells 3 (addK z9.1 (z9.2.1, z9.2.2.1, z9.2.2.2))) (fun z9 => (z9.1.length ≤ 1000000)) (by
  rintro ⟨a0, a1, a2, a3⟩ ⟨b0, b1, b2, b3⟩ h
  simp only [List.cons.injEq, and_true, Int.natCast_inj, UInt8.toNat_inj, Value.int.injEq, Value.bool.injEq, Value.string.injEq, Value.agg.injEq, Array.mk.injEq, true_and, scells_iff] at h
  first | exact h | (simp only [Prod.ext_iff, h, and_self, and_true, true_and]; done) | simp_all [Prod.ext_iff]) (fun _ => rfl) (fun _ => rfl) 400 (by
  rintro ⟨a0, a1, a2, a3⟩ p0
  exact addR__sc a0 a1 a2 a3 p0)
theorem con_addR__at (l : List Span) (xt : Int) (xl : Int) (xh : Int) (h0 : l.length ≤ 1000000) (s : St) : con_addR_.rel [inlL scells 3 l, .agg #[.int .i64 xt, .int .i64 xl, .int .i64 xh]] s (inlL scells 3 (addK l (xt, xl, xh))) s := con_pure (l, xt, xl, xh) h0 s
theorem joinR_fn : Try.cfg.fn 16 = some Try.f16 := by kernel_rfl
set_option maxHeartbeats 4000000 in
set_option maxRecDepth 100000 in
theorem joinR_sc (l : List Foot) (h0 : l.length ≤ 1000) (h1 : (flatR l).length ≤ 1000000) (h2 : (flatS l).length ≤ 1000000) (h3 : (flatW l).length ≤ 1000000) (h4 : ∀ z ∈ flatS l, okN z) (h5 : ∀ x ∈ l, x.1.length ≤ 1000000 ∧ x.2.1.length ≤ 1000000 ∧ x.2.2.length ≤ 1000000) : SC Try.prog 0 16 [inlL fcells 3 l] (St.empty 0) fun v s' => v = .agg #[inlL kcells 2 (insAll (flatR l)), inlL scells 3 (addAll (flatS l)), inlL kcells 2 (insAll (flatW l))] ∧ s'.n ≤ 400 := by
  obtain ⟨rc, hS, hC⟩ := rc_con (sound_run Try.cfgOk 300) [con_insertR, con_addR_] (by kernel_rfl)
  have hC40 := hC con_insertR (.head _)
  have hC41 := hC con_addR_ (.tail _ (.head _))
  refine sc_ice0 (N := 400) (v2 := .agg #[inlL kcells 2 (insAll (flatR l)), inlL scells 3 (addAll (flatS l)), inlL kcells 2 (insAll (flatW l))]) (Q := fun v s' => FS 0 s' v (.agg #[inlL kcells 2 (insAll (flatR l)), inlL scells 3 (addAll (flatS l)), inlL kcells 2 (insAll (flatW l))]) ∧ s'.n ≤ 400) ?_ (fun _ _ h => h)
  refine sc_body Try.cfgOk joinR_fn rfl ?_
  refine sk_seq ?_
  refine kK Try.cfgOk hS ?_
  refine sk_seq ?_
  refine kK Try.cfgOk hS ?_
  refine sk_seq (sk_seq ?_)
  refine sk_live 82 [(0, inlL fcells 3 l), (2, .pointer (some ⟨0, 0, none⟩)), (3, .pointer (some ⟨1, 0, none⟩))] (by kernel_rfl) ⟨by kernel_rfl, by kernel_rfl, by kernel_rfl, trivial⟩ fun m1 => ?_
  refine sk_st (((St.empty 0).new (.cells [.slice none 0 0, .slice none 0 0, .slice none 0 0])).new (.cells [.slice none 0 0, .slice none 0 0, .slice none 0 0])) (by kernel_rfl) ?_
  refine tok_cell kcells 3 1 0 2 [] [.slice none 0 0, .slice none 0 0] (by decide) (((wf_empty 0).new _).new _) (by kernel_rfl) (by kernel_rfl) (by decide) ?_
  refine sk_st ((((St.empty 0).new (.cells [.slice none 0 0, .slice none 0 0, .slice none 0 0])).new (.cells [inlL kcells 2 ([] : List Key), .slice none 0 0, .slice none 0 0])).new (rowL kcells ([] : List Key))) (by kernel_rfl) ?_
  refine sk_live 82 [(0, inlL fcells 3 l), (2, .pointer (some ⟨0, 0, none⟩)), (3, .pointer (some ⟨1, 0, none⟩))] (by kernel_rfl) ⟨by kernel_rfl, by kernel_rfl, by kernel_rfl, trivial⟩ fun m2 => ?_
  refine sk_st ((((St.empty 0).new (.cells [.slice none 0 0, .slice none 0 0, .slice none 0 0])).new (.cells [inlL kcells 2 ([] : List Key), .slice none 0 0, .slice none 0 0])).new (rowL kcells ([] : List Key))) (by kernel_rfl) ?_
  refine tok_cell scells 3 1 0 3 [inlL kcells 2 ([] : List Key)] [.slice none 0 0] (by decide) ((((wf_empty 0).new _).new _).new _) (by kernel_rfl) (by kernel_rfl) (by decide) ?_
  refine sk_st (((((St.empty 0).new (.cells [.slice none 0 0, .slice none 0 0, .slice none 0 0])).new (.cells [inlL kcells 2 ([] : List Key), inlL scells 3 ([] : List Span), .slice none 0 0])).new (rowL kcells ([] : List Key))).new (rowL scells ([] : List Span))) (by kernel_rfl) ?_
  refine sk_live 82 [(0, inlL fcells 3 l), (2, .pointer (some ⟨0, 0, none⟩)), (3, .pointer (some ⟨1, 0, none⟩))] (by kernel_rfl) ⟨by kernel_rfl, by kernel_rfl, by kernel_rfl, trivial⟩ fun m3 => ?_
  refine sk_st (((((St.empty 0).new (.cells [.slice none 0 0, .slice none 0 0, .slice none 0 0])).new (.cells [inlL kcells 2 ([] : List Key), inlL scells 3 ([] : List Span), .slice none 0 0])).new (rowL kcells ([] : List Key))).new (rowL scells ([] : List Span))) (by kernel_rfl) ?_
  refine tok_cell kcells 3 1 0 2 [inlL kcells 2 ([] : List Key), inlL scells 3 ([] : List Span)] [] (by decide) (((((wf_empty 0).new _).new _).new _).new _) (by kernel_rfl) (by kernel_rfl) (by decide) ?_
  refine sk_st ((((((St.empty 0).new (.cells [.slice none 0 0, .slice none 0 0, .slice none 0 0])).new (.cells [inlL kcells 2 ([] : List Key), inlL scells 3 ([] : List Span), inlL kcells 2 ([] : List Key)])).new (rowL kcells ([] : List Key))).new (rowL scells ([] : List Span))).new (rowL kcells ([] : List Key))) (by kernel_rfl) ?_
  refine kK Try.cfgOk hS ?_
  refine sk_block ?_
  refine sk_live 82 ((fun a : Nat × (List Key) × (List Span) × (List Key) => [(0, inlL fcells 3 l), (2, .pointer (some ⟨0, 0, none⟩)), (3, .pointer (some ⟨1, 0, none⟩)), (4, .int .i64 ((a.1 : Nat) : Int))]) (0, ([] : List Key), ([] : List Span), ([] : List Key))) (by kernel_rfl) ⟨by kernel_rfl, by kernel_rfl, by kernel_rfl, by kernel_rfl, trivial⟩ fun m4 => ?_
  refine sk_st ((fun a : Nat × (List Key) × (List Span) × (List Key) => ((((((St.empty 0).new (.cells [.slice none 0 0, .slice none 0 0, .slice none 0 0])).new (.cells [inlL kcells 2 a.2.1, inlL scells 3 a.2.2.1, inlL kcells 2 a.2.2.2])).new (rowL kcells ([] : List Key))).new (rowL scells ([] : List Span))).new (rowL kcells ([] : List Key)))) (0, ([] : List Key), ([] : List Span), ([] : List Key))) (by kernel_rfl) ?_
  refine (sk_while (k := 5) (N := 400) (live := (fun a : Nat × (List Key) × (List Span) × (List Key) => [(0, inlL fcells 3 l), (2, .pointer (some ⟨0, 0, none⟩)), (3, .pointer (some ⟨1, 0, none⟩)), (4, .int .i64 ((a.1 : Nat) : Int))])) (M := (fun a : Nat × (List Key) × (List Span) × (List Key) => ((((((St.empty 0).new (.cells [.slice none 0 0, .slice none 0 0, .slice none 0 0])).new (.cells [inlL kcells 2 a.2.1, inlL scells 3 a.2.2.1, inlL kcells 2 a.2.2.2])).new (rowL kcells ([] : List Key))).new (rowL scells ([] : List Span))).new (rowL kcells ([] : List Key))))) (fun a : Nat × (List Key) × (List Span) × (List Key) => (a.1 ≤ l.length) ∧ (a.2.1 = insAll (flatR (l.take a.1))) ∧ (a.2.2.1 = addAll (flatS (l.take a.1))) ∧ (a.2.2.2 = insAll (flatW (l.take a.1)))) (fun a : Nat × (List Key) × (List Span) × (List Key) => l.length - a.1) (fun (a : Nat × (List Key) × (List Span) × (List Key)) (o : Out) (lv : List (Nat × Value)) (M : St) => (o = .exit 0 ∧ (a.1 = l.length) ∧ lv = [(0, inlL fcells 3 l), (2, .pointer (some ⟨0, 0, none⟩)), (3, .pointer (some ⟨1, 0, none⟩)), (4, .int .i64 ((a.1 : Nat) : Int))] ∧ M = ((((((St.empty 0).new (.cells [.slice none 0 0, .slice none 0 0, .slice none 0 0])).new (.cells [inlL kcells 2 a.2.1, inlL scells 3 a.2.2.1, inlL kcells 2 a.2.2.2])).new (rowL kcells ([] : List Key))).new (rowL scells ([] : List Span))).new (rowL kcells ([] : List Key))))) (Nat.zero_le _) (fun a ha => ?_) (fun a ha => ?_) (fun a m ha => ?_) (fun a m ha => ?_) (0, ([] : List Key), ([] : List Span), ([] : List Key)) m4 ?_).up ?_
  · exact ⟨by kernel_rfl, ((((((wf_empty 0).new _).new _).new _).new _).new _), (selfs (all_cons (o := .cells [.slice none 0 0, .slice none 0 0, .slice none 0 0]) (by kernel_rfl) (OSub.cells (.cons (sub_clo rfl) (.cons (sub_clo rfl) (.cons (sub_clo rfl) .nil)))) (all_cons (o := .cells [inlL kcells 2 a.2.1, inlL scells 3 a.2.2.1, inlL kcells 2 a.2.2.2]) (by kernel_rfl) (OSub.cells (.cons (sub_clo rfl) (.cons (sub_clo rfl) (.cons (sub_clo rfl) .nil)))) (all_cons (o := rowL kcells ([] : List Key)) (by kernel_rfl) (OSub.arr (subs_clo (flatL_clo kcells_clo))) (all_cons (o := rowL scells ([] : List Span)) (by kernel_rfl) (OSub.arr (subs_clo (flatL_clo scells_clo))) (all_cons (o := rowL kcells ([] : List Key)) (by kernel_rfl) (OSub.arr (subs_clo (flatL_clo kcells_clo))) (all_none)))))))⟩
  · exact ⟨sub_clo rfl, .ptr ⟨by decide, rfl⟩, .ptr ⟨by decide, rfl⟩, sub_clo rfl, trivial⟩
  · exact ⟨by kernel_rfl, by kernel_rfl, by kernel_rfl, by kernel_rfl, trivial⟩
  · obtain ⟨i, ka, sb, kc⟩ := a
    obtain ⟨i0, i1, i2, i3⟩ := ha
    dsimp only at i0 i1 i2 i3
    refine sk_seq (sk_seq ?_)
    refine sk_regionL Try.cfgOk hS ?_
    refine aK 2 ?_
    refine aM (lenB Try.cfg (St.empty 0) 35 (inlL fcells 3 l)) (.int .i64 ((l.length : Nat) : Int)) (len_inl tokC (by kernel_rfl)) ?_
    refine aT (fun h5 => ?_) (fun h5 => ?_)
    · have c6e : (decide ((((i : Nat) : Int) : Int) < ((l.length : Nat) : Int))) = true := Eq.trans (by kernel_rfl) h5
      clear h5
      have c6 : (((i : Nat) : Int) : Int) < ((l.length : Nat) : Int) := of_decide_eq_true c6e
      clear c6e
      refine al_nil ?_
      refine kT ?_
      refine sk_skip (sk_seq (sk_block (sk_seq (sk_seq ?_))))
      refine kK Try.cfgOk hS ?_
      refine sk_block ?_
      refine sk_live 82 ((fun a : Nat × (List Key) => [(0, inlL fcells 3 l), (2, .pointer (some ⟨0, 0, none⟩)), (3, .pointer (some ⟨1, 0, none⟩)), (4, .int .i64 ((i : Nat) : Int)), (5, .int .i64 ((a.1 : Nat) : Int))]) (0, ka)) (by kernel_rfl) ⟨by kernel_rfl, by kernel_rfl, by kernel_rfl, by kernel_rfl, by kernel_rfl, trivial⟩ fun m7 => ?_
      refine sk_st ((fun a : Nat × (List Key) => ((((((St.empty 0).new (.cells [.slice none 0 0, .slice none 0 0, .slice none 0 0])).new (.cells [inlL kcells 2 a.2, inlL scells 3 sb, inlL kcells 2 kc])).new (rowL kcells ([] : List Key))).new (rowL scells ([] : List Span))).new (rowL kcells ([] : List Key)))) (0, ka)) (by kernel_rfl) ?_
      refine (sk_while (k := 5) (N := 400) (live := (fun a : Nat × (List Key) => [(0, inlL fcells 3 l), (2, .pointer (some ⟨0, 0, none⟩)), (3, .pointer (some ⟨1, 0, none⟩)), (4, .int .i64 ((i : Nat) : Int)), (5, .int .i64 ((a.1 : Nat) : Int))])) (M := (fun a : Nat × (List Key) => ((((((St.empty 0).new (.cells [.slice none 0 0, .slice none 0 0, .slice none 0 0])).new (.cells [inlL kcells 2 a.2, inlL scells 3 sb, inlL kcells 2 kc])).new (rowL kcells ([] : List Key))).new (rowL scells ([] : List Span))).new (rowL kcells ([] : List Key))))) (fun a : Nat × (List Key) => (a.1 ≤ (feetAt l i).1.length) ∧ (a.2 = insAll (flatR (l.take i) ++ (feetAt l i).1.take a.1)) ∧ ((feetAt l i).1.length ≤ 1000000)) (fun a : Nat × (List Key) => (feetAt l i).1.length - a.1) (fun (a : Nat × (List Key)) (o : Out) (lv : List (Nat × Value)) (M : St) => (o = .exit 2 ∧ (a.2 = insAll (flatR (l.take (i + 1)))) ∧ lv = [(0, inlL fcells 3 l), (2, .pointer (some ⟨0, 0, none⟩)), (3, .pointer (some ⟨1, 0, none⟩)), (4, .int .i64 ((i : Nat) : Int)), (5, .int .i64 ((a.1 : Nat) : Int))] ∧ M = ((((((St.empty 0).new (.cells [.slice none 0 0, .slice none 0 0, .slice none 0 0])).new (.cells [inlL kcells 2 a.2, inlL scells 3 sb, inlL kcells 2 kc])).new (rowL kcells ([] : List Key))).new (rowL scells ([] : List Span))).new (rowL kcells ([] : List Key))))) (Nat.zero_le _) (fun a ha => ?_) (fun a ha => ?_) (fun a m ha => ?_) (fun a m ha => ?_) (0, ka) m7 ?_).up ?_
      · exact ⟨by kernel_rfl, ((((((wf_empty 0).new _).new _).new _).new _).new _), (selfs (all_cons (o := .cells [.slice none 0 0, .slice none 0 0, .slice none 0 0]) (by kernel_rfl) (OSub.cells (.cons (sub_clo rfl) (.cons (sub_clo rfl) (.cons (sub_clo rfl) .nil)))) (all_cons (o := .cells [inlL kcells 2 a.2, inlL scells 3 sb, inlL kcells 2 kc]) (by kernel_rfl) (OSub.cells (.cons (sub_clo rfl) (.cons (sub_clo rfl) (.cons (sub_clo rfl) .nil)))) (all_cons (o := rowL kcells ([] : List Key)) (by kernel_rfl) (OSub.arr (subs_clo (flatL_clo kcells_clo))) (all_cons (o := rowL scells ([] : List Span)) (by kernel_rfl) (OSub.arr (subs_clo (flatL_clo scells_clo))) (all_cons (o := rowL kcells ([] : List Key)) (by kernel_rfl) (OSub.arr (subs_clo (flatL_clo kcells_clo))) (all_none)))))))⟩
      · exact ⟨sub_clo rfl, .ptr ⟨by decide, rfl⟩, .ptr ⟨by decide, rfl⟩, sub_clo rfl, sub_clo rfl, trivial⟩
      · exact ⟨by kernel_rfl, by kernel_rfl, by kernel_rfl, by kernel_rfl, by kernel_rfl, trivial⟩
      · obtain ⟨k, ka⟩ := a
        obtain ⟨g0, g1, g2⟩ := ha
        dsimp only at g0 g1 g2
        refine sk_seq (sk_seq ?_)
        refine sk_regionL Try.cfgOk hS ?_
        refine aK 3 ?_
        refine aM (indexAddrV Try.cfg 35 (inlL fcells 3 l) (.int .i64 ((i : Nat) : Int))) (elt (flatL fcells l) (i * 3)) (idx_inlL tokC (by kernel_rfl) (by first | omega | simp)) ?_
        refine aM (fieldAddrV Try.cfg 25 (elt (flatL fcells l) (i * 3)) 0) (elt (flatL fcells l) (i * 3)) (fld_elt (o := i * 3) (off := 0) tokC (by kernel_rfl)) ?_
        have hx8l : i < l.length := by omega
        refine Exists.elim (get_ex hx8l) fun x8 hx8 => ?_
        clear hx8l
        refine aM (loadV Try.cfg (St.empty 0) 22 (elt (flatL fcells l) (i * 3))) (inlL kcells 2 x8.1) (load_el1 (o := 0) tokC (by kernel_rfl) fcells_len hx8 rfl) ?_
        refine aM (lenB Try.cfg (St.empty 0) 22 (inlL kcells 2 x8.1)) (.int .i64 ((x8.1.length : Nat) : Int)) (len_inl tokC (by kernel_rfl)) ?_
        refine aT (fun h9 => ?_) (fun h9 => ?_)
        · have c10e : (decide ((((k : Nat) : Int) : Int) < ((x8.1.length : Nat) : Int))) = true := Eq.trans (by kernel_rfl) h9
          clear h9
          have c10 : (((k : Nat) : Int) : Int) < ((x8.1.length : Nat) : Int) := of_decide_eq_true c10e
          clear c10e
          refine al_nil ?_
          refine kT ?_
          refine sk_skip (sk_seq (sk_block ?_))
          refine sk_drawL Try.cfgOk hS ?_
          refine dK 4 ?_
          refine dM (indexAddrV Try.cfg 35 (inlL fcells 3 l) (.int .i64 ((i : Nat) : Int))) (elt (flatL fcells l) (i * 3)) (idx_inlL tokC (by kernel_rfl) (by first | omega | simp)) ?_
          refine dM (fieldAddrV Try.cfg 25 (elt (flatL fcells l) (i * 3)) 0) (elt (flatL fcells l) (i * 3)) (fld_elt (o := i * 3) (off := 0) tokC (by kernel_rfl)) ?_
          refine dM (loadV Try.cfg (St.empty 0) 22 (elt (flatL fcells l) (i * 3))) (inlL kcells 2 x8.1) (load_el1 (o := 0) tokC (by kernel_rfl) fcells_len hx8 rfl) ?_
          refine dK 1 ?_
          refine dM (indexAddrV Try.cfg 22 (inlL kcells 2 x8.1) (.int .i64 ((k : Nat) : Int))) (elt (flatL kcells x8.1) (k * 2)) (idx_inlL tokC (by kernel_rfl) (by first | omega | simp)) ?_
          have hx11l : k < x8.1.length := by omega
          refine Exists.elim (get_ex hx11l) fun x11 hx11 => ?_
          clear hx11l
          refine dM (loadV Try.cfg (St.empty 0) 30 (elt (flatL kcells x8.1) (k * 2))) (.agg #[.int .i64 x11.1, .int .i64 x11.2]) (load_el tokC (by kernel_rfl) kcells_len hx11) ?_
          refine dC 40 [inlL kcells 2 ka, .agg #[.int .i64 x11.1, .int .i64 x11.2]] (inlL kcells 2 (insK ka (x11.1, x11.2))) _ rfl (hC40 _ _ _ _ (con_insertR_at ka x11.1 x11.2 (by first | omega | (rw [g1]; exact Nat.le_trans (bndR (by assumption)) (by omega)) | (rw [g1]; exact Nat.le_trans (bndS h4 (by assumption)) (by omega)) | (rw [g1]; exact Nat.le_trans (bndW (by assumption)) (by omega))) _)) ?_
          refine dK 2 ?_
          refine ald_nil ?_
          refine sk_regionL Try.cfgOk hS ?_
          refine aK 1 ?_
          refine aE (v := .int .i64 (IntKind.wrap .i64 (((k : Nat) : Int) + 1))) (.int .i64 ((k + 1 : Nat) : Int)) (congrArg (Value.int .i64) (wrap_to (by omega) (by omega))) ?_
          refine aN ?_
          refine .inl ⟨(k + 1, (insK ka (x11.1, x11.2))), rfl, ⟨?_, ?_, ?_⟩, ?_, ⟨by kernel_rfl, ⟨by kernel_rfl, by kernel_rfl, by kernel_rfl, by kernel_rfl, by kernel_rfl, trivial⟩, ⟨sub_clo rfl, .ptr ⟨by decide, rfl⟩, .ptr ⟨by decide, rfl⟩, sub_clo rfl, sub_clo rfl, trivial⟩, Nat.le_of_ble_eq_true (by kernel_rfl), ⟨by kernel_rfl, ((((((wf_empty 0).new _).new _).new _).new _).new _), (selfs (all_cons (o := .cells [.slice none 0 0, .slice none 0 0, .slice none 0 0]) (by kernel_rfl) (OSub.cells (.cons (sub_clo rfl) (.cons (sub_clo rfl) (.cons (sub_clo rfl) .nil)))) (all_cons (o := .cells [inlL kcells 2 (insK ka (x11.1, x11.2)), inlL scells 3 sb, inlL kcells 2 kc]) (by kernel_rfl) (OSub.cells (.cons (sub_clo rfl) (.cons (sub_clo rfl) (.cons (sub_clo rfl) .nil)))) (all_cons (o := rowL kcells ([] : List Key)) (by kernel_rfl) (OSub.arr (subs_clo (flatL_clo kcells_clo))) (all_cons (o := rowL scells ([] : List Span)) (by kernel_rfl) (OSub.arr (subs_clo (flatL_clo scells_clo))) (all_cons (o := rowL kcells ([] : List Key)) (by kernel_rfl) (OSub.arr (subs_clo (flatL_clo kcells_clo))) (all_none)))))))⟩, mem_all (by kernel_rfl)⟩⟩
          · (try dsimp only); rw [feetAt_eq (by assumption)]; omega
          · (try dsimp only); rw [g1]; exact snocR (by assumption) (by assumption)
          · (try dsimp only); assumption
          · dsimp only; rw [feetAt_eq (by assumption)]; omega
        · have c10e : (decide ((((k : Nat) : Int) : Int) < ((x8.1.length : Nat) : Int))) = false := Eq.trans (by kernel_rfl) h9
          clear h9
          have c10 : ¬ (((k : Nat) : Int) : Int) < ((x8.1.length : Nat) : Int) := of_decide_eq_false c10e
          clear c10e
          refine al_nil ?_
          refine kF ?_
          refine sk_exit ?_
          dsimp only
          refine .inr ⟨_, _, (fun h => by cases h), ⟨rfl, ?_, rfl, rfl⟩, ⟨by kernel_rfl, ⟨by kernel_rfl, by kernel_rfl, by kernel_rfl, by kernel_rfl, by kernel_rfl, trivial⟩, ⟨sub_clo rfl, .ptr ⟨by decide, rfl⟩, .ptr ⟨by decide, rfl⟩, sub_clo rfl, sub_clo rfl, trivial⟩, Nat.le_of_ble_eq_true (by kernel_rfl), ⟨by kernel_rfl, ((((((wf_empty 0).new _).new _).new _).new _).new _), (selfs (all_cons (o := .cells [.slice none 0 0, .slice none 0 0, .slice none 0 0]) (by kernel_rfl) (OSub.cells (.cons (sub_clo rfl) (.cons (sub_clo rfl) (.cons (sub_clo rfl) .nil)))) (all_cons (o := .cells [inlL kcells 2 ka, inlL scells 3 sb, inlL kcells 2 kc]) (by kernel_rfl) (OSub.cells (.cons (sub_clo rfl) (.cons (sub_clo rfl) (.cons (sub_clo rfl) .nil)))) (all_cons (o := rowL kcells ([] : List Key)) (by kernel_rfl) (OSub.arr (subs_clo (flatL_clo kcells_clo))) (all_cons (o := rowL scells ([] : List Span)) (by kernel_rfl) (OSub.arr (subs_clo (flatL_clo scells_clo))) (all_cons (o := rowL kcells ([] : List Key)) (by kernel_rfl) (OSub.arr (subs_clo (flatL_clo kcells_clo))) (all_none)))))))⟩, mem_all (by kernel_rfl)⟩⟩
          · rw [g1]; exact endR (by assumption) (by omega)
      · exact ⟨by ((try dsimp only); first | done | (exact Nat.zero_le _)), by ((try dsimp only); first | done | (rw [List.take_zero, List.append_nil]; exact i1)), by ((try dsimp only); first | done | (exact feet_bdR h5 i))⟩
      rintro o e1 s1 ⟨a, lv1, M1, m7, ha, ⟨rfl, hx, rfl, rfl⟩, rfl, rfl⟩
      obtain ⟨k, ka⟩ := a
      obtain ⟨g0, g1, g2⟩ := ha
      dsimp only at hx g0 g1 g2
      dsimp only
      try rw [if_pos rfl]
      refine sk_seq (sk_seq ?_)
      refine kK Try.cfgOk hS ?_
      refine sk_block ?_
      refine sk_live 82 ((fun a : Nat × (List Span) => [(0, inlL fcells 3 l), (2, .pointer (some ⟨0, 0, none⟩)), (3, .pointer (some ⟨1, 0, none⟩)), (4, .int .i64 ((i : Nat) : Int)), (6, .int .i64 ((a.1 : Nat) : Int))]) (0, sb)) (by kernel_rfl) ⟨by kernel_rfl, by kernel_rfl, by kernel_rfl, by kernel_rfl, by kernel_rfl, trivial⟩ fun m12 => ?_
      refine sk_st ((fun a : Nat × (List Span) => ((((((St.empty 0).new (.cells [.slice none 0 0, .slice none 0 0, .slice none 0 0])).new (.cells [inlL kcells 2 ka, inlL scells 3 a.2, inlL kcells 2 kc])).new (rowL kcells ([] : List Key))).new (rowL scells ([] : List Span))).new (rowL kcells ([] : List Key)))) (0, sb)) (by kernel_rfl) ?_
      refine (sk_while (k := 5) (N := 400) (live := (fun a : Nat × (List Span) => [(0, inlL fcells 3 l), (2, .pointer (some ⟨0, 0, none⟩)), (3, .pointer (some ⟨1, 0, none⟩)), (4, .int .i64 ((i : Nat) : Int)), (6, .int .i64 ((a.1 : Nat) : Int))])) (M := (fun a : Nat × (List Span) => ((((((St.empty 0).new (.cells [.slice none 0 0, .slice none 0 0, .slice none 0 0])).new (.cells [inlL kcells 2 ka, inlL scells 3 a.2, inlL kcells 2 kc])).new (rowL kcells ([] : List Key))).new (rowL scells ([] : List Span))).new (rowL kcells ([] : List Key))))) (fun a : Nat × (List Span) => (a.1 ≤ (feetAt l i).2.1.length) ∧ (a.2 = addAll (flatS (l.take i) ++ (feetAt l i).2.1.take a.1)) ∧ ((feetAt l i).2.1.length ≤ 1000000)) (fun a : Nat × (List Span) => (feetAt l i).2.1.length - a.1) (fun (a : Nat × (List Span)) (o : Out) (lv : List (Nat × Value)) (M : St) => (o = .exit 4 ∧ (a.2 = addAll (flatS (l.take (i + 1)))) ∧ lv = [(0, inlL fcells 3 l), (2, .pointer (some ⟨0, 0, none⟩)), (3, .pointer (some ⟨1, 0, none⟩)), (4, .int .i64 ((i : Nat) : Int)), (6, .int .i64 ((a.1 : Nat) : Int))] ∧ M = ((((((St.empty 0).new (.cells [.slice none 0 0, .slice none 0 0, .slice none 0 0])).new (.cells [inlL kcells 2 ka, inlL scells 3 a.2, inlL kcells 2 kc])).new (rowL kcells ([] : List Key))).new (rowL scells ([] : List Span))).new (rowL kcells ([] : List Key))))) (Nat.zero_le _) (fun a ha => ?_) (fun a ha => ?_) (fun a m ha => ?_) (fun a m ha => ?_) (0, sb) m12 ?_).up ?_
      · exact ⟨by kernel_rfl, ((((((wf_empty 0).new _).new _).new _).new _).new _), (selfs (all_cons (o := .cells [.slice none 0 0, .slice none 0 0, .slice none 0 0]) (by kernel_rfl) (OSub.cells (.cons (sub_clo rfl) (.cons (sub_clo rfl) (.cons (sub_clo rfl) .nil)))) (all_cons (o := .cells [inlL kcells 2 ka, inlL scells 3 a.2, inlL kcells 2 kc]) (by kernel_rfl) (OSub.cells (.cons (sub_clo rfl) (.cons (sub_clo rfl) (.cons (sub_clo rfl) .nil)))) (all_cons (o := rowL kcells ([] : List Key)) (by kernel_rfl) (OSub.arr (subs_clo (flatL_clo kcells_clo))) (all_cons (o := rowL scells ([] : List Span)) (by kernel_rfl) (OSub.arr (subs_clo (flatL_clo scells_clo))) (all_cons (o := rowL kcells ([] : List Key)) (by kernel_rfl) (OSub.arr (subs_clo (flatL_clo kcells_clo))) (all_none)))))))⟩
      · exact ⟨sub_clo rfl, .ptr ⟨by decide, rfl⟩, .ptr ⟨by decide, rfl⟩, sub_clo rfl, sub_clo rfl, trivial⟩
      · exact ⟨by kernel_rfl, by kernel_rfl, by kernel_rfl, by kernel_rfl, by kernel_rfl, trivial⟩
      · obtain ⟨k, sb⟩ := a
        obtain ⟨g0, g1, g2⟩ := ha
        dsimp only at g0 g1 g2
        refine sk_seq (sk_seq ?_)
        refine sk_regionL Try.cfgOk hS ?_
        refine aK 3 ?_
        refine aM (indexAddrV Try.cfg 35 (inlL fcells 3 l) (.int .i64 ((i : Nat) : Int))) (elt (flatL fcells l) (i * 3)) (idx_inlL tokC (by kernel_rfl) (by first | omega | simp)) ?_
        refine aM (fieldAddrV Try.cfg 25 (elt (flatL fcells l) (i * 3)) 1) (elt (flatL fcells l) (i * 3 + 1)) (fld_elt (o := i * 3) (off := 1) tokC (by kernel_rfl)) ?_
        have hx13l : i < l.length := by omega
        refine Exists.elim (get_ex hx13l) fun x13 hx13 => ?_
        clear hx13l
        refine aM (loadV Try.cfg (St.empty 0) 23 (elt (flatL fcells l) (i * 3 + 1))) (inlL scells 3 x13.2.1) (load_el1 (o := 1) tokC (by kernel_rfl) fcells_len hx13 rfl) ?_
        refine aM (lenB Try.cfg (St.empty 0) 23 (inlL scells 3 x13.2.1)) (.int .i64 ((x13.2.1.length : Nat) : Int)) (len_inl tokC (by kernel_rfl)) ?_
        refine aT (fun h14 => ?_) (fun h14 => ?_)
        · have c15e : (decide ((((k : Nat) : Int) : Int) < ((x13.2.1.length : Nat) : Int))) = true := Eq.trans (by kernel_rfl) h14
          clear h14
          have c15 : (((k : Nat) : Int) : Int) < ((x13.2.1.length : Nat) : Int) := of_decide_eq_true c15e
          clear c15e
          refine al_nil ?_
          refine kT ?_
          refine sk_skip (sk_seq (sk_block ?_))
          refine sk_drawL Try.cfgOk hS ?_
          refine dK 4 ?_
          refine dM (indexAddrV Try.cfg 35 (inlL fcells 3 l) (.int .i64 ((i : Nat) : Int))) (elt (flatL fcells l) (i * 3)) (idx_inlL tokC (by kernel_rfl) (by first | omega | simp)) ?_
          refine dM (fieldAddrV Try.cfg 25 (elt (flatL fcells l) (i * 3)) 1) (elt (flatL fcells l) (i * 3 + 1)) (fld_elt (o := i * 3) (off := 1) tokC (by kernel_rfl)) ?_
          refine dM (loadV Try.cfg (St.empty 0) 23 (elt (flatL fcells l) (i * 3 + 1))) (inlL scells 3 x13.2.1) (load_el1 (o := 1) tokC (by kernel_rfl) fcells_len hx13 rfl) ?_
          refine dK 1 ?_
          refine dM (indexAddrV Try.cfg 23 (inlL scells 3 x13.2.1) (.int .i64 ((k : Nat) : Int))) (elt (flatL scells x13.2.1) (k * 3)) (idx_inlL tokC (by kernel_rfl) (by first | omega | simp)) ?_
          have hx16l : k < x13.2.1.length := by omega
          refine Exists.elim (get_ex hx16l) fun x16 hx16 => ?_
          clear hx16l
          refine dM (loadV Try.cfg (St.empty 0) 32 (elt (flatL scells x13.2.1) (k * 3))) (.agg #[.int .i64 x16.1, .int .i64 x16.2.1, .int .i64 x16.2.2]) (load_el tokC (by kernel_rfl) scells_len hx16) ?_
          refine dC 41 [inlL scells 3 sb, .agg #[.int .i64 x16.1, .int .i64 x16.2.1, .int .i64 x16.2.2]] (inlL scells 3 (addK sb (x16.1, x16.2.1, x16.2.2))) _ rfl (hC41 _ _ _ _ (con_addR__at sb x16.1 x16.2.1 x16.2.2 (by first | omega | (rw [g1]; exact Nat.le_trans (bndR (by assumption)) (by omega)) | (rw [g1]; exact Nat.le_trans (bndS h4 (by assumption)) (by omega)) | (rw [g1]; exact Nat.le_trans (bndW (by assumption)) (by omega))) _)) ?_
          refine dK 2 ?_
          refine ald_nil ?_
          refine sk_regionL Try.cfgOk hS ?_
          refine aK 1 ?_
          refine aE (v := .int .i64 (IntKind.wrap .i64 (((k : Nat) : Int) + 1))) (.int .i64 ((k + 1 : Nat) : Int)) (congrArg (Value.int .i64) (wrap_to (by omega) (by omega))) ?_
          refine aN ?_
          refine .inl ⟨(k + 1, (addK sb (x16.1, x16.2.1, x16.2.2))), rfl, ⟨?_, ?_, ?_⟩, ?_, ⟨by kernel_rfl, ⟨by kernel_rfl, by kernel_rfl, by kernel_rfl, by kernel_rfl, by kernel_rfl, trivial⟩, ⟨sub_clo rfl, .ptr ⟨by decide, rfl⟩, .ptr ⟨by decide, rfl⟩, sub_clo rfl, sub_clo rfl, trivial⟩, Nat.le_of_ble_eq_true (by kernel_rfl), ⟨by kernel_rfl, ((((((wf_empty 0).new _).new _).new _).new _).new _), (selfs (all_cons (o := .cells [.slice none 0 0, .slice none 0 0, .slice none 0 0]) (by kernel_rfl) (OSub.cells (.cons (sub_clo rfl) (.cons (sub_clo rfl) (.cons (sub_clo rfl) .nil)))) (all_cons (o := .cells [inlL kcells 2 ka, inlL scells 3 (addK sb (x16.1, x16.2.1, x16.2.2)), inlL kcells 2 kc]) (by kernel_rfl) (OSub.cells (.cons (sub_clo rfl) (.cons (sub_clo rfl) (.cons (sub_clo rfl) .nil)))) (all_cons (o := rowL kcells ([] : List Key)) (by kernel_rfl) (OSub.arr (subs_clo (flatL_clo kcells_clo))) (all_cons (o := rowL scells ([] : List Span)) (by kernel_rfl) (OSub.arr (subs_clo (flatL_clo scells_clo))) (all_cons (o := rowL kcells ([] : List Key)) (by kernel_rfl) (OSub.arr (subs_clo (flatL_clo kcells_clo))) (all_none)))))))⟩, mem_all (by kernel_rfl)⟩⟩
          · (try dsimp only); rw [feetAt_eq (by assumption)]; omega
          · (try dsimp only); rw [g1]; exact snocS (by assumption) (by assumption)
          · (try dsimp only); assumption
          · dsimp only; rw [feetAt_eq (by assumption)]; omega
        · have c15e : (decide ((((k : Nat) : Int) : Int) < ((x13.2.1.length : Nat) : Int))) = false := Eq.trans (by kernel_rfl) h14
          clear h14
          have c15 : ¬ (((k : Nat) : Int) : Int) < ((x13.2.1.length : Nat) : Int) := of_decide_eq_false c15e
          clear c15e
          refine al_nil ?_
          refine kF ?_
          refine sk_exit ?_
          dsimp only
          refine .inr ⟨_, _, (fun h => by cases h), ⟨rfl, ?_, rfl, rfl⟩, ⟨by kernel_rfl, ⟨by kernel_rfl, by kernel_rfl, by kernel_rfl, by kernel_rfl, by kernel_rfl, trivial⟩, ⟨sub_clo rfl, .ptr ⟨by decide, rfl⟩, .ptr ⟨by decide, rfl⟩, sub_clo rfl, sub_clo rfl, trivial⟩, Nat.le_of_ble_eq_true (by kernel_rfl), ⟨by kernel_rfl, ((((((wf_empty 0).new _).new _).new _).new _).new _), (selfs (all_cons (o := .cells [.slice none 0 0, .slice none 0 0, .slice none 0 0]) (by kernel_rfl) (OSub.cells (.cons (sub_clo rfl) (.cons (sub_clo rfl) (.cons (sub_clo rfl) .nil)))) (all_cons (o := .cells [inlL kcells 2 ka, inlL scells 3 sb, inlL kcells 2 kc]) (by kernel_rfl) (OSub.cells (.cons (sub_clo rfl) (.cons (sub_clo rfl) (.cons (sub_clo rfl) .nil)))) (all_cons (o := rowL kcells ([] : List Key)) (by kernel_rfl) (OSub.arr (subs_clo (flatL_clo kcells_clo))) (all_cons (o := rowL scells ([] : List Span)) (by kernel_rfl) (OSub.arr (subs_clo (flatL_clo scells_clo))) (all_cons (o := rowL kcells ([] : List Key)) (by kernel_rfl) (OSub.arr (subs_clo (flatL_clo kcells_clo))) (all_none)))))))⟩, mem_all (by kernel_rfl)⟩⟩
          · rw [g1]; exact endS (by assumption) (by omega)
      · exact ⟨by ((try dsimp only); first | done | (exact Nat.zero_le _)), by ((try dsimp only); first | done | (rw [List.take_zero, List.append_nil]; exact i2)), by ((try dsimp only); first | done | (exact feet_bdS h5 i))⟩
      rintro o e1 s1 ⟨a, lv1, M1, m12, ha, ⟨rfl, hx, rfl, rfl⟩, rfl, rfl⟩
      obtain ⟨k, sb⟩ := a
      obtain ⟨g0, g1, g2⟩ := ha
      dsimp only at hx g0 g1 g2
      dsimp only
      try rw [if_pos rfl]
      refine sk_seq ?_
      refine kK Try.cfgOk hS ?_
      refine sk_block ?_
      refine sk_live 82 ((fun a : Nat × (List Key) => [(0, inlL fcells 3 l), (2, .pointer (some ⟨0, 0, none⟩)), (3, .pointer (some ⟨1, 0, none⟩)), (4, .int .i64 ((i : Nat) : Int)), (7, .int .i64 ((a.1 : Nat) : Int))]) (0, kc)) (by kernel_rfl) ⟨by kernel_rfl, by kernel_rfl, by kernel_rfl, by kernel_rfl, by kernel_rfl, trivial⟩ fun m17 => ?_
      refine sk_st ((fun a : Nat × (List Key) => ((((((St.empty 0).new (.cells [.slice none 0 0, .slice none 0 0, .slice none 0 0])).new (.cells [inlL kcells 2 ka, inlL scells 3 sb, inlL kcells 2 a.2])).new (rowL kcells ([] : List Key))).new (rowL scells ([] : List Span))).new (rowL kcells ([] : List Key)))) (0, kc)) (by kernel_rfl) ?_
      refine (sk_while (k := 5) (N := 400) (live := (fun a : Nat × (List Key) => [(0, inlL fcells 3 l), (2, .pointer (some ⟨0, 0, none⟩)), (3, .pointer (some ⟨1, 0, none⟩)), (4, .int .i64 ((i : Nat) : Int)), (7, .int .i64 ((a.1 : Nat) : Int))])) (M := (fun a : Nat × (List Key) => ((((((St.empty 0).new (.cells [.slice none 0 0, .slice none 0 0, .slice none 0 0])).new (.cells [inlL kcells 2 ka, inlL scells 3 sb, inlL kcells 2 a.2])).new (rowL kcells ([] : List Key))).new (rowL scells ([] : List Span))).new (rowL kcells ([] : List Key))))) (fun a : Nat × (List Key) => (a.1 ≤ (feetAt l i).2.2.length) ∧ (a.2 = insAll (flatW (l.take i) ++ (feetAt l i).2.2.take a.1)) ∧ ((feetAt l i).2.2.length ≤ 1000000)) (fun a : Nat × (List Key) => (feetAt l i).2.2.length - a.1) (fun (a : Nat × (List Key)) (o : Out) (lv : List (Nat × Value)) (M : St) => (o = .exit 6 ∧ (a.2 = insAll (flatW (l.take (i + 1)))) ∧ lv = [(0, inlL fcells 3 l), (2, .pointer (some ⟨0, 0, none⟩)), (3, .pointer (some ⟨1, 0, none⟩)), (4, .int .i64 ((i : Nat) : Int)), (7, .int .i64 ((a.1 : Nat) : Int))] ∧ M = ((((((St.empty 0).new (.cells [.slice none 0 0, .slice none 0 0, .slice none 0 0])).new (.cells [inlL kcells 2 ka, inlL scells 3 sb, inlL kcells 2 a.2])).new (rowL kcells ([] : List Key))).new (rowL scells ([] : List Span))).new (rowL kcells ([] : List Key))))) (Nat.zero_le _) (fun a ha => ?_) (fun a ha => ?_) (fun a m ha => ?_) (fun a m ha => ?_) (0, kc) m17 ?_).up ?_
      · exact ⟨by kernel_rfl, ((((((wf_empty 0).new _).new _).new _).new _).new _), (selfs (all_cons (o := .cells [.slice none 0 0, .slice none 0 0, .slice none 0 0]) (by kernel_rfl) (OSub.cells (.cons (sub_clo rfl) (.cons (sub_clo rfl) (.cons (sub_clo rfl) .nil)))) (all_cons (o := .cells [inlL kcells 2 ka, inlL scells 3 sb, inlL kcells 2 a.2]) (by kernel_rfl) (OSub.cells (.cons (sub_clo rfl) (.cons (sub_clo rfl) (.cons (sub_clo rfl) .nil)))) (all_cons (o := rowL kcells ([] : List Key)) (by kernel_rfl) (OSub.arr (subs_clo (flatL_clo kcells_clo))) (all_cons (o := rowL scells ([] : List Span)) (by kernel_rfl) (OSub.arr (subs_clo (flatL_clo scells_clo))) (all_cons (o := rowL kcells ([] : List Key)) (by kernel_rfl) (OSub.arr (subs_clo (flatL_clo kcells_clo))) (all_none)))))))⟩
      · exact ⟨sub_clo rfl, .ptr ⟨by decide, rfl⟩, .ptr ⟨by decide, rfl⟩, sub_clo rfl, sub_clo rfl, trivial⟩
      · exact ⟨by kernel_rfl, by kernel_rfl, by kernel_rfl, by kernel_rfl, by kernel_rfl, trivial⟩
      · obtain ⟨k, kc⟩ := a
        obtain ⟨g0, g1, g2⟩ := ha
        dsimp only at g0 g1 g2
        refine sk_seq (sk_seq ?_)
        refine sk_regionL Try.cfgOk hS ?_
        refine aK 3 ?_
        refine aM (indexAddrV Try.cfg 35 (inlL fcells 3 l) (.int .i64 ((i : Nat) : Int))) (elt (flatL fcells l) (i * 3)) (idx_inlL tokC (by kernel_rfl) (by first | omega | simp)) ?_
        refine aM (fieldAddrV Try.cfg 25 (elt (flatL fcells l) (i * 3)) 2) (elt (flatL fcells l) (i * 3 + 2)) (fld_elt (o := i * 3) (off := 2) tokC (by kernel_rfl)) ?_
        have hx18l : i < l.length := by omega
        refine Exists.elim (get_ex hx18l) fun x18 hx18 => ?_
        clear hx18l
        refine aM (loadV Try.cfg (St.empty 0) 22 (elt (flatL fcells l) (i * 3 + 2))) (inlL kcells 2 x18.2.2) (load_el1 (o := 2) tokC (by kernel_rfl) fcells_len hx18 rfl) ?_
        refine aM (lenB Try.cfg (St.empty 0) 22 (inlL kcells 2 x18.2.2)) (.int .i64 ((x18.2.2.length : Nat) : Int)) (len_inl tokC (by kernel_rfl)) ?_
        refine aT (fun h19 => ?_) (fun h19 => ?_)
        · have c20e : (decide ((((k : Nat) : Int) : Int) < ((x18.2.2.length : Nat) : Int))) = true := Eq.trans (by kernel_rfl) h19
          clear h19
          have c20 : (((k : Nat) : Int) : Int) < ((x18.2.2.length : Nat) : Int) := of_decide_eq_true c20e
          clear c20e
          refine al_nil ?_
          refine kT ?_
          refine sk_skip (sk_seq (sk_block ?_))
          refine sk_drawL Try.cfgOk hS ?_
          refine dK 4 ?_
          refine dM (indexAddrV Try.cfg 35 (inlL fcells 3 l) (.int .i64 ((i : Nat) : Int))) (elt (flatL fcells l) (i * 3)) (idx_inlL tokC (by kernel_rfl) (by first | omega | simp)) ?_
          refine dM (fieldAddrV Try.cfg 25 (elt (flatL fcells l) (i * 3)) 2) (elt (flatL fcells l) (i * 3 + 2)) (fld_elt (o := i * 3) (off := 2) tokC (by kernel_rfl)) ?_
          refine dM (loadV Try.cfg (St.empty 0) 22 (elt (flatL fcells l) (i * 3 + 2))) (inlL kcells 2 x18.2.2) (load_el1 (o := 2) tokC (by kernel_rfl) fcells_len hx18 rfl) ?_
          refine dK 1 ?_
          refine dM (indexAddrV Try.cfg 22 (inlL kcells 2 x18.2.2) (.int .i64 ((k : Nat) : Int))) (elt (flatL kcells x18.2.2) (k * 2)) (idx_inlL tokC (by kernel_rfl) (by first | omega | simp)) ?_
          have hx21l : k < x18.2.2.length := by omega
          refine Exists.elim (get_ex hx21l) fun x21 hx21 => ?_
          clear hx21l
          refine dM (loadV Try.cfg (St.empty 0) 30 (elt (flatL kcells x18.2.2) (k * 2))) (.agg #[.int .i64 x21.1, .int .i64 x21.2]) (load_el tokC (by kernel_rfl) kcells_len hx21) ?_
          refine dC 40 [inlL kcells 2 kc, .agg #[.int .i64 x21.1, .int .i64 x21.2]] (inlL kcells 2 (insK kc (x21.1, x21.2))) _ rfl (hC40 _ _ _ _ (con_insertR_at kc x21.1 x21.2 (by first | omega | (rw [g1]; exact Nat.le_trans (bndR (by assumption)) (by omega)) | (rw [g1]; exact Nat.le_trans (bndS h4 (by assumption)) (by omega)) | (rw [g1]; exact Nat.le_trans (bndW (by assumption)) (by omega))) _)) ?_
          refine dK 2 ?_
          refine ald_nil ?_
          refine sk_regionL Try.cfgOk hS ?_
          refine aK 1 ?_
          refine aE (v := .int .i64 (IntKind.wrap .i64 (((k : Nat) : Int) + 1))) (.int .i64 ((k + 1 : Nat) : Int)) (congrArg (Value.int .i64) (wrap_to (by omega) (by omega))) ?_
          refine aN ?_
          refine .inl ⟨(k + 1, (insK kc (x21.1, x21.2))), rfl, ⟨?_, ?_, ?_⟩, ?_, ⟨by kernel_rfl, ⟨by kernel_rfl, by kernel_rfl, by kernel_rfl, by kernel_rfl, by kernel_rfl, trivial⟩, ⟨sub_clo rfl, .ptr ⟨by decide, rfl⟩, .ptr ⟨by decide, rfl⟩, sub_clo rfl, sub_clo rfl, trivial⟩, Nat.le_of_ble_eq_true (by kernel_rfl), ⟨by kernel_rfl, ((((((wf_empty 0).new _).new _).new _).new _).new _), (selfs (all_cons (o := .cells [.slice none 0 0, .slice none 0 0, .slice none 0 0]) (by kernel_rfl) (OSub.cells (.cons (sub_clo rfl) (.cons (sub_clo rfl) (.cons (sub_clo rfl) .nil)))) (all_cons (o := .cells [inlL kcells 2 ka, inlL scells 3 sb, inlL kcells 2 (insK kc (x21.1, x21.2))]) (by kernel_rfl) (OSub.cells (.cons (sub_clo rfl) (.cons (sub_clo rfl) (.cons (sub_clo rfl) .nil)))) (all_cons (o := rowL kcells ([] : List Key)) (by kernel_rfl) (OSub.arr (subs_clo (flatL_clo kcells_clo))) (all_cons (o := rowL scells ([] : List Span)) (by kernel_rfl) (OSub.arr (subs_clo (flatL_clo scells_clo))) (all_cons (o := rowL kcells ([] : List Key)) (by kernel_rfl) (OSub.arr (subs_clo (flatL_clo kcells_clo))) (all_none)))))))⟩, mem_all (by kernel_rfl)⟩⟩
          · (try dsimp only); rw [feetAt_eq (by assumption)]; omega
          · (try dsimp only); rw [g1]; exact snocW (by assumption) (by assumption)
          · (try dsimp only); assumption
          · dsimp only; rw [feetAt_eq (by assumption)]; omega
        · have c20e : (decide ((((k : Nat) : Int) : Int) < ((x18.2.2.length : Nat) : Int))) = false := Eq.trans (by kernel_rfl) h19
          clear h19
          have c20 : ¬ (((k : Nat) : Int) : Int) < ((x18.2.2.length : Nat) : Int) := of_decide_eq_false c20e
          clear c20e
          refine al_nil ?_
          refine kF ?_
          refine sk_exit ?_
          dsimp only
          refine .inr ⟨_, _, (fun h => by cases h), ⟨rfl, ?_, rfl, rfl⟩, ⟨by kernel_rfl, ⟨by kernel_rfl, by kernel_rfl, by kernel_rfl, by kernel_rfl, by kernel_rfl, trivial⟩, ⟨sub_clo rfl, .ptr ⟨by decide, rfl⟩, .ptr ⟨by decide, rfl⟩, sub_clo rfl, sub_clo rfl, trivial⟩, Nat.le_of_ble_eq_true (by kernel_rfl), ⟨by kernel_rfl, ((((((wf_empty 0).new _).new _).new _).new _).new _), (selfs (all_cons (o := .cells [.slice none 0 0, .slice none 0 0, .slice none 0 0]) (by kernel_rfl) (OSub.cells (.cons (sub_clo rfl) (.cons (sub_clo rfl) (.cons (sub_clo rfl) .nil)))) (all_cons (o := .cells [inlL kcells 2 ka, inlL scells 3 sb, inlL kcells 2 kc]) (by kernel_rfl) (OSub.cells (.cons (sub_clo rfl) (.cons (sub_clo rfl) (.cons (sub_clo rfl) .nil)))) (all_cons (o := rowL kcells ([] : List Key)) (by kernel_rfl) (OSub.arr (subs_clo (flatL_clo kcells_clo))) (all_cons (o := rowL scells ([] : List Span)) (by kernel_rfl) (OSub.arr (subs_clo (flatL_clo scells_clo))) (all_cons (o := rowL kcells ([] : List Key)) (by kernel_rfl) (OSub.arr (subs_clo (flatL_clo kcells_clo))) (all_none)))))))⟩, mem_all (by kernel_rfl)⟩⟩
          · rw [g1]; exact endW (by assumption) (by omega)
      · exact ⟨by ((try dsimp only); first | done | (exact Nat.zero_le _)), by ((try dsimp only); first | done | (rw [List.take_zero, List.append_nil]; exact i3)), by ((try dsimp only); first | done | (exact feet_bdW h5 i))⟩
      rintro o e1 s1 ⟨a, lv1, M1, m17, ha, ⟨rfl, hx, rfl, rfl⟩, rfl, rfl⟩
      obtain ⟨k, kc⟩ := a
      obtain ⟨g0, g1, g2⟩ := ha
      dsimp only at hx g0 g1 g2
      dsimp only
      try rw [if_pos rfl]
      refine sk_regionL Try.cfgOk hS ?_
      refine aK 1 ?_
      refine aE (v := .int .i64 (IntKind.wrap .i64 (((i : Nat) : Int) + 1))) (.int .i64 ((i + 1 : Nat) : Int)) (congrArg (Value.int .i64) (wrap_to (by omega) (by omega))) ?_
      refine aN ?_
      refine .inl ⟨(i + 1, ka, sb, kc), rfl, ⟨?_, ?_, ?_, ?_⟩, ?_, ⟨by kernel_rfl, ⟨by kernel_rfl, by kernel_rfl, by kernel_rfl, by kernel_rfl, trivial⟩, ⟨sub_clo rfl, .ptr ⟨by decide, rfl⟩, .ptr ⟨by decide, rfl⟩, sub_clo rfl, trivial⟩, Nat.le_of_ble_eq_true (by kernel_rfl), ⟨by kernel_rfl, ((((((wf_empty 0).new _).new _).new _).new _).new _), (selfs (all_cons (o := .cells [.slice none 0 0, .slice none 0 0, .slice none 0 0]) (by kernel_rfl) (OSub.cells (.cons (sub_clo rfl) (.cons (sub_clo rfl) (.cons (sub_clo rfl) .nil)))) (all_cons (o := .cells [inlL kcells 2 ka, inlL scells 3 sb, inlL kcells 2 kc]) (by kernel_rfl) (OSub.cells (.cons (sub_clo rfl) (.cons (sub_clo rfl) (.cons (sub_clo rfl) .nil)))) (all_cons (o := rowL kcells ([] : List Key)) (by kernel_rfl) (OSub.arr (subs_clo (flatL_clo kcells_clo))) (all_cons (o := rowL scells ([] : List Span)) (by kernel_rfl) (OSub.arr (subs_clo (flatL_clo scells_clo))) (all_cons (o := rowL kcells ([] : List Key)) (by kernel_rfl) (OSub.arr (subs_clo (flatL_clo kcells_clo))) (all_none)))))))⟩, mem_all (by kernel_rfl)⟩⟩
      · (try dsimp only); omega
      · (try dsimp only); assumption
      · (try dsimp only); assumption
      · (try dsimp only); assumption
      · dsimp only; omega
    · have c6e : (decide ((((i : Nat) : Int) : Int) < ((l.length : Nat) : Int))) = false := Eq.trans (by kernel_rfl) h5
      clear h5
      have c6 : ¬ (((i : Nat) : Int) : Int) < ((l.length : Nat) : Int) := of_decide_eq_false c6e
      clear c6e
      refine al_nil ?_
      refine kF ?_
      refine sk_exit ?_
      dsimp only
      refine .inr ⟨_, _, (fun h => by cases h), ⟨rfl, ?_, rfl, rfl⟩, ⟨by kernel_rfl, ⟨by kernel_rfl, by kernel_rfl, by kernel_rfl, by kernel_rfl, trivial⟩, ⟨sub_clo rfl, .ptr ⟨by decide, rfl⟩, .ptr ⟨by decide, rfl⟩, sub_clo rfl, trivial⟩, Nat.le_of_ble_eq_true (by kernel_rfl), ⟨by kernel_rfl, ((((((wf_empty 0).new _).new _).new _).new _).new _), (selfs (all_cons (o := .cells [.slice none 0 0, .slice none 0 0, .slice none 0 0]) (by kernel_rfl) (OSub.cells (.cons (sub_clo rfl) (.cons (sub_clo rfl) (.cons (sub_clo rfl) .nil)))) (all_cons (o := .cells [inlL kcells 2 ka, inlL scells 3 sb, inlL kcells 2 kc]) (by kernel_rfl) (OSub.cells (.cons (sub_clo rfl) (.cons (sub_clo rfl) (.cons (sub_clo rfl) .nil)))) (all_cons (o := rowL kcells ([] : List Key)) (by kernel_rfl) (OSub.arr (subs_clo (flatL_clo kcells_clo))) (all_cons (o := rowL scells ([] : List Span)) (by kernel_rfl) (OSub.arr (subs_clo (flatL_clo scells_clo))) (all_cons (o := rowL kcells ([] : List Key)) (by kernel_rfl) (OSub.arr (subs_clo (flatL_clo kcells_clo))) (all_none)))))))⟩, mem_all (by kernel_rfl)⟩⟩
      · omega
  · exact ⟨by ((try dsimp only); first | done | (omega)), by ((try dsimp only); first | done | (rfl)), by ((try dsimp only); first | done | (rfl)), by ((try dsimp only); first | done | (rfl))⟩
  rintro o e1 s1 ⟨a, lv1, M1, m4, ha, ⟨rfl, hx, rfl, rfl⟩, rfl, rfl⟩
  obtain ⟨i, ka, sb, kc⟩ := a
  obtain ⟨i0, i1, i2, i3⟩ := ha
  dsimp only at hx i0 i1 i2 i3
  dsimp only
  try rw [if_pos rfl]
  refine sk_seq ?_
  refine kK Try.cfgOk hS ?_
  refine sk_ret ?_
  exact ⟨[.agg #[inlL kcells 2 ka, inlL scells 3 sb, inlL kcells 2 kc]], by kernel_rfl, .agg (.cons (fs_to (fs_clo rfl) (congrArg (inlL kcells 2) (by first | (rw [i1, List.take_of_length_le (by omega)]) | (rw [i2, List.take_of_length_le (by omega)]) | (rw [i3, List.take_of_length_le (by omega)])))) (.cons (fs_to (fs_clo rfl) (congrArg (inlL scells 3) (by first | (rw [i1, List.take_of_length_le (by omega)]) | (rw [i2, List.take_of_length_le (by omega)]) | (rw [i3, List.take_of_length_le (by omega)])))) (.cons (fs_to (fs_clo rfl) (congrArg (inlL kcells 2) (by first | (rw [i1, List.take_of_length_le (by omega)]) | (rw [i2, List.take_of_length_le (by omega)]) | (rw [i3, List.take_of_length_le (by omega)])))) (.nil)))), Nat.le_of_ble_eq_true (by kernel_rfl)⟩
noncomputable def con_joinR : Con Try.prog 0 := Con.pure (α := (List Foot)) 16 (fun z9 => [inlL fcells 3 z9]) (fun z9 => .agg #[inlL kcells 2 (insAll (flatR z9)), inlL scells 3 (addAll (flatS z9)), inlL kcells 2 (insAll (flatW z9))]) (fun z9 => (z9.length ≤ 1000) ∧ ((flatR z9).length ≤ 1000000) ∧ ((flatS z9).length ≤ 1000000) ∧ ((flatW z9).length ≤ 1000000) ∧ (∀ z ∈ flatS z9, okN z) ∧ (∀ x ∈ z9, x.1.length ≤ 1000000 ∧ x.2.1.length ≤ 1000000 ∧ x.2.2.length ≤ 1000000)) (by
  intro x y h
  simp only [List.cons.injEq, and_true, Int.natCast_inj, UInt8.toNat_inj, Value.int.injEq, Value.bool.injEq, Value.string.injEq, Value.agg.injEq, Array.mk.injEq, true_and, fcells_iff] at h
  first | exact h | (simp only [Prod.ext_iff, h, and_self, and_true, true_and]; done) | simp_all [Prod.ext_iff]) (fun _ => rfl) (fun _ => rfl) 400 (by
  rintro x ⟨p0, p1, p2, p3, p4, p5⟩
  exact joinR_sc x p0 p1 p2 p3 p4 p5)
theorem con_joinR_at (l : List Foot) (h0 : l.length ≤ 1000) (h1 : (flatR l).length ≤ 1000000) (h2 : (flatS l).length ≤ 1000000) (h3 : (flatW l).length ≤ 1000000) (h4 : ∀ z ∈ flatS l, okN z) (h5 : ∀ x ∈ l, x.1.length ≤ 1000000 ∧ x.2.1.length ≤ 1000000 ∧ x.2.2.length ≤ 1000000) (s : St) : con_joinR.rel [inlL fcells 3 l] s (.agg #[inlL kcells 2 (insAll (flatR l)), inlL scells 3 (addAll (flatS l)), inlL kcells 2 (insAll (flatW l))]) s := con_pure l ⟨h0, h1, h2, h3, h4, h5⟩ s
end Go.Proofs.Ytekeepgjegkedaa