/- AsmApart: the walk of the law. -/
import Derived.Test.YtgplkbfjlidinaaDoorLawLines
import Derived.Test.YtgplkbfjlidinaaDoorInj
import Derived.Test.YtgplkbfjlidinaaDoorAiCon
set_option linter.unusedVariables false
set_option linter.unusedSimpArgs false
set_option linter.unnecessarySimpa false
namespace Go.Proofs.YtgplkbfjlidinaaDoor
open Go.Ai
theorem nprogs_fn : Tryd.cfg.fn 13 = some Tryd.f13 := by kernel_rfl
set_option maxHeartbeats 4000000 in
set_option maxRecDepth 100000 in
theorem nprogs_sc (fu : Int) (co : List Code) (fv : Int) (cp : List Code) (h0 : co.length ≤ 1000000) (h1 : cp.length ≤ 1000000) : SC Tryd.prog 1001 13 [.agg #[.int .i64 fu, inlL ccells 6 co], .agg #[.int .i64 fv, inlL ccells 6 cp]] (St.empty 0) fun v s' => v = .bool (decide (fu = fv ∧ co = cp)) ∧ s'.n ≤ 400 := by
  have hS := sound_run Tryd.cfgOk 300
  refine sc_ice0 (N := 400) (v2 := .bool (decide (fu = fv ∧ co = cp))) (Q := fun v s' => FS 0 s' v (.bool (decide (fu = fv ∧ co = cp))) ∧ s'.n ≤ 400) ?_ (fun _ _ h => h)
  refine sc_body Tryd.cfgOk nprogs_fn rfl ?_
  refine sk_seq ?_
  refine kK Tryd.cfgOk hS ?_
  refine sk_seq (sk_seq ?_)
  refine sk_regionL Tryd.cfgOk hS ?_
  refine aK 4 ?_
  refine aT (fun h1 => ?_) (fun h1 => ?_)
  · have c2e : ((fu : Int) != fv) = true := Eq.trans (by kernel_rfl) h1
    clear h1
    have c2 : ¬ (fu : Int) = fv := bne_iff_ne.1 c2e
    clear c2e
    refine aN ?_
    refine kT ?_
    refine sk_seq ?_
    refine kK Tryd.cfgOk hS ?_
    refine sk_ret ?_
    exact ⟨[.bool false], by kernel_rfl, fs_to (fs_clo rfl) (congrArg Value.bool (by first | exact (decide_eq_true ⟨by assumption, take_all (by assumption) (by assumption) (by omega)⟩).symm | exact (decide_eq_false (fun e => absurd e.2 (by assumption))).symm | exact (decide_eq_false (fun e => absurd e.1 (by assumption))).symm | exact (decide_eq_false (fun e => by have := congrArg List.length e.2; omega)).symm)), Nat.le_of_ble_eq_true (by kernel_rfl)⟩
  · have c2e : ((fu : Int) != fv) = false := Eq.trans (by kernel_rfl) h1
    clear h1
    have c2 : (fu : Int) = fv := bne_eq_false_iff_eq.1 c2e
    clear c2e
    refine aK 3 ?_
    refine aM (lenB Tryd.cfg (St.empty 0) 37 (inlL ccells 6 co)) (.int .i64 ((co.length : Nat) : Int)) (len_inl tokC (by kernel_rfl)) ?_
    refine aK 2 ?_
    refine aM (lenB Tryd.cfg (St.empty 0) 37 (inlL ccells 6 cp)) (.int .i64 ((cp.length : Nat) : Int)) (len_inl tokC (by kernel_rfl)) ?_
    refine aT (fun h3 => ?_) (fun h3 => ?_)
    · have c4e : ((((co.length : Nat) : Int) : Int) != ((cp.length : Nat) : Int)) = true := Eq.trans (by kernel_rfl) h3
      clear h3
      have c4 : ¬ (((co.length : Nat) : Int) : Int) = ((cp.length : Nat) : Int) := bne_iff_ne.1 c4e
      clear c4e
      refine aN ?_
      refine kT ?_
      refine sk_seq ?_
      refine kK Tryd.cfgOk hS ?_
      refine sk_ret ?_
      exact ⟨[.bool false], by kernel_rfl, fs_to (fs_clo rfl) (congrArg Value.bool (by first | exact (decide_eq_true ⟨by assumption, take_all (by assumption) (by assumption) (by omega)⟩).symm | exact (decide_eq_false (fun e => absurd e.2 (by assumption))).symm | exact (decide_eq_false (fun e => absurd e.1 (by assumption))).symm | exact (decide_eq_false (fun e => by have := congrArg List.length e.2; omega)).symm)), Nat.le_of_ble_eq_true (by kernel_rfl)⟩
    · have c4e : ((((co.length : Nat) : Int) : Int) != ((cp.length : Nat) : Int)) = false := Eq.trans (by kernel_rfl) h3
      clear h3
      have c4 : (((co.length : Nat) : Int) : Int) = ((cp.length : Nat) : Int) := bne_eq_false_iff_eq.1 c4e
      clear c4e
      refine aN ?_
      refine kF ?_
      refine sk_skip (sk_seq (sk_seq ?_))
      refine sk_regionL Tryd.cfgOk hS ?_
      refine aK 2 ?_
      refine aM (lenB Tryd.cfg (St.empty 0) 37 (inlL ccells 6 co)) (.int .i64 ((co.length : Nat) : Int)) (len_inl tokC (by kernel_rfl)) ?_
      refine aN ?_
      refine sk_block ?_
      refine sk_live 38 ((fun a : Nat => [(2, .pointer (some ⟨0, 0, none⟩)), (3, .pointer (some ⟨1, 0, none⟩)), (22, .int .i64 ((co.length : Nat) : Int)), (23, .int .i64 ((a : Nat) : Int))]) 0) (by kernel_rfl) ⟨by kernel_rfl, by kernel_rfl, by kernel_rfl, by kernel_rfl, trivial⟩ fun m5 => ?_
      refine sk_st ((fun a : Nat => (((St.empty 0).new (.cells [.int .i64 fu, inlL ccells 6 co])).new (.cells [.int .i64 fv, inlL ccells 6 cp]))) 0) (by kernel_rfl) ?_
      refine (sk_while (k := 2) (N := 400) (live := (fun a : Nat => [(2, .pointer (some ⟨0, 0, none⟩)), (3, .pointer (some ⟨1, 0, none⟩)), (22, .int .i64 ((co.length : Nat) : Int)), (23, .int .i64 ((a : Nat) : Int))])) (M := (fun a : Nat => (((St.empty 0).new (.cells [.int .i64 fu, inlL ccells 6 co])).new (.cells [.int .i64 fv, inlL ccells 6 cp])))) (fun a : Nat => (a ≤ co.length) ∧ (co.take a = cp.take a)) (fun a : Nat => co.length - a) (fun (a : Nat) (o : Out) (lv : List (Nat × Value)) (M : St) => (o = .exit 0 ∧ (¬ a < co.length) ∧ lv = [(2, .pointer (some ⟨0, 0, none⟩)), (3, .pointer (some ⟨1, 0, none⟩)), (22, .int .i64 ((co.length : Nat) : Int)), (23, .int .i64 ((a : Nat) : Int))] ∧ M = (((St.empty 0).new (.cells [.int .i64 fu, inlL ccells 6 co])).new (.cells [.int .i64 fv, inlL ccells 6 cp]))) ∨ (o = .ret ∧ (¬ co = cp) ∧ lv = [(4, .bool false)] ∧ M = (((St.empty 0).new (.cells [.int .i64 fu, inlL ccells 6 co])).new (.cells [.int .i64 fv, inlL ccells 6 cp])))) (Nat.zero_le _) (fun a ha => ?_) (fun a ha => ?_) (fun a m ha => ?_) (fun a m ha => ?_) 0 m5 ?_).up ?_
      · exact ⟨by kernel_rfl, (((wf_empty 0).new _).new _), (selfs (all_cons (o := .cells [.int .i64 fu, inlL ccells 6 co]) (by kernel_rfl) (OSub.cells (.cons (sub_clo rfl) (.cons (sub_clo rfl) .nil))) (all_cons (o := .cells [.int .i64 fv, inlL ccells 6 cp]) (by kernel_rfl) (OSub.cells (.cons (sub_clo rfl) (.cons (sub_clo rfl) .nil))) (all_none))))⟩
      · exact ⟨.ptr ⟨by decide, rfl⟩, .ptr ⟨by decide, rfl⟩, sub_clo rfl, sub_clo rfl, trivial⟩
      · exact ⟨by kernel_rfl, by kernel_rfl, by kernel_rfl, by kernel_rfl, trivial⟩
      · obtain ⟨i, ea⟩ : ∃ z, z = a := ⟨_, rfl⟩
        subst ea
        obtain ⟨i0, i1⟩ := ha
        refine sk_seq ?_
        refine sk_regionL Tryd.cfgOk hS ?_
        refine aT (fun h6 => ?_) (fun h6 => ?_)
        · have c7e : (decide ((((i : Nat) : Int) : Int) < ((co.length : Nat) : Int))) = true := Eq.trans (by kernel_rfl) h6
          clear h6
          have c7 : (((i : Nat) : Int) : Int) < ((co.length : Nat) : Int) := of_decide_eq_true c7e
          clear c7e
          refine al_nil ?_
          refine sk_seq ?_
          refine kT ?_
          refine sk_skip (sk_seq (sk_block (sk_seq ?_)))
          refine kK Tryd.cfgOk hS ?_
          refine sk_seq ?_
          refine sk_drawL Tryd.cfgOk hS ?_
          refine dK 3 ?_
          refine dM (indexAddrV Tryd.cfg 37 (inlL ccells 6 co) (.int .i64 ((i : Nat) : Int))) (elt (flatL ccells co) (i * 6)) (idx_inlL tokC (by kernel_rfl) (by first | omega | simp)) ?_
          have hx8l : i < co.length := by omega
          refine Exists.elim (get_ex hx8l) fun x8 hx8 => ?_
          clear hx8l
          refine dM (loadV Tryd.cfg (St.empty 0) 23 (elt (flatL ccells co) (i * 6))) (.agg #[.int .i64 x8.1, .int .i64 x8.2.1, .int .i64 x8.2.2.1, .int .i64 x8.2.2.2.1, .int .i64 x8.2.2.2.2.1, .int .i64 x8.2.2.2.2.2]) (load_el tokC (by kernel_rfl) ccells_len hx8) ?_
          refine dK 3 ?_
          refine dM (indexAddrV Tryd.cfg 37 (inlL ccells 6 cp) (.int .i64 ((i : Nat) : Int))) (elt (flatL ccells cp) (i * 6)) (idx_inlL tokC (by kernel_rfl) (by first | omega | simp)) ?_
          have hx9l : i < cp.length := by omega
          refine Exists.elim (get_ex hx9l) fun x9 hx9 => ?_
          clear hx9l
          refine dM (loadV Tryd.cfg (St.empty 0) 23 (elt (flatL ccells cp) (i * 6))) (.agg #[.int .i64 x9.1, .int .i64 x9.2.1, .int .i64 x9.2.2.1, .int .i64 x9.2.2.2.1, .int .i64 x9.2.2.2.2.1, .int .i64 x9.2.2.2.2.2]) (load_el tokC (by kernel_rfl) ccells_len hx9) ?_
          refine dT (fun h10 => ?_) (fun h10 => ?_)
          · have c11e : (!((x8.1 == x9.1) && ((x8.2.1 == x9.2.1) && ((x8.2.2.1 == x9.2.2.1) && ((x8.2.2.2.1 == x9.2.2.2.1) && ((x8.2.2.2.2.1 == x9.2.2.2.2.1) && ((x8.2.2.2.2.2 == x9.2.2.2.2.2) && true))))))) = true := Eq.trans (by kernel_rfl) h10
            clear h10
            have c11 : ¬ (x8.1 = x9.1 ∧ x8.2.1 = x9.2.1 ∧ x8.2.2.1 = x9.2.2.1 ∧ x8.2.2.2.1 = x9.2.2.2.1 ∧ x8.2.2.2.2.1 = x9.2.2.2.2.1 ∧ x8.2.2.2.2.2 = x9.2.2.2.2.2) := fun q => Bool.noConfusion (((not_t c11e)).symm.trans (and_i (beq_iff_eq.2 q.1) (and_i (beq_iff_eq.2 q.2.1) (and_i (beq_iff_eq.2 q.2.2.1) (and_i (beq_iff_eq.2 q.2.2.2.1) (and_i (beq_iff_eq.2 q.2.2.2.2.1) (and_i (beq_iff_eq.2 q.2.2.2.2.2) (rfl))))))))
            clear c11e
            refine ald_nil ?_
            refine kT ?_
            refine sk_seq ?_
            refine kK Tryd.cfgOk hS ?_
            refine sk_ret ?_
            refine .inr ⟨_, _, (fun h => by cases h), .inr ⟨rfl, ?_, rfl, rfl⟩, ⟨by kernel_rfl, ⟨by kernel_rfl, trivial⟩, ⟨sub_clo rfl, trivial⟩, Nat.le_of_ble_eq_true (by kernel_rfl), ⟨by kernel_rfl, (((wf_empty 0).new _).new _), (selfs (all_cons (o := .cells [.int .i64 fu, inlL ccells 6 co]) (by kernel_rfl) (OSub.cells (.cons (sub_clo rfl) (.cons (sub_clo rfl) .nil))) (all_cons (o := .cells [.int .i64 fv, inlL ccells 6 cp]) (by kernel_rfl) (OSub.cells (.cons (sub_clo rfl) (.cons (sub_clo rfl) .nil))) (all_none))))⟩, mem_all (by kernel_rfl)⟩⟩
            · refine ne_at (by assumption) (by assumption) (fun e => ?_); subst e; simp_all
          · have c11e : (!((x8.1 == x9.1) && ((x8.2.1 == x9.2.1) && ((x8.2.2.1 == x9.2.2.1) && ((x8.2.2.2.1 == x9.2.2.2.1) && ((x8.2.2.2.2.1 == x9.2.2.2.2.1) && ((x8.2.2.2.2.2 == x9.2.2.2.2.2) && true))))))) = false := Eq.trans (by kernel_rfl) h10
            clear h10
            have c11 : x8.1 = x9.1 ∧ x8.2.1 = x9.2.1 ∧ x8.2.2.1 = x9.2.2.1 ∧ x8.2.2.2.1 = x9.2.2.2.1 ∧ x8.2.2.2.2.1 = x9.2.2.2.2.1 ∧ x8.2.2.2.2.2 = x9.2.2.2.2.2 := ⟨eq_of_beq (and_l (not_f c11e)), eq_of_beq (and_l (and_r (not_f c11e))), eq_of_beq (and_l (and_r (and_r (not_f c11e)))), eq_of_beq (and_l (and_r (and_r (and_r (not_f c11e))))), eq_of_beq (and_l (and_r (and_r (and_r (and_r (not_f c11e)))))), eq_of_beq (and_l (and_r (and_r (and_r (and_r (and_r (not_f c11e)))))))⟩
            clear c11e
            refine ald_nil ?_
            refine kF ?_
            refine sk_skip ?_
            refine sk_regionL Tryd.cfgOk hS ?_
            refine aE (v := .int .i64 (IntKind.wrap .i64 (((i : Nat) : Int) + 1))) (.int .i64 ((i + 1 : Nat) : Int)) (congrArg (Value.int .i64) (wrap_to (by omega) (by omega))) ?_
            refine aN ?_
            refine .inl ⟨i + 1, rfl, ⟨?_, ?_⟩, ?_, ⟨by kernel_rfl, ⟨by kernel_rfl, by kernel_rfl, by kernel_rfl, by kernel_rfl, trivial⟩, ⟨.ptr ⟨by decide, rfl⟩, .ptr ⟨by decide, rfl⟩, sub_clo rfl, sub_clo rfl, trivial⟩, Nat.le_of_ble_eq_true (by kernel_rfl), ⟨by kernel_rfl, (((wf_empty 0).new _).new _), (selfs (all_cons (o := .cells [.int .i64 fu, inlL ccells 6 co]) (by kernel_rfl) (OSub.cells (.cons (sub_clo rfl) (.cons (sub_clo rfl) .nil))) (all_cons (o := .cells [.int .i64 fv, inlL ccells 6 cp]) (by kernel_rfl) (OSub.cells (.cons (sub_clo rfl) (.cons (sub_clo rfl) .nil))) (all_none))))⟩, mem_all (by kernel_rfl)⟩⟩
            · (try dsimp only); omega
            · (try dsimp only); exact take_eq_succ (by assumption) (by assumption) (by assumption) (by simp only [Prod.ext_iff]; assumption)
            · omega
        · have c7e : (decide ((((i : Nat) : Int) : Int) < ((co.length : Nat) : Int))) = false := Eq.trans (by kernel_rfl) h6
          clear h6
          have c7 : ¬ (((i : Nat) : Int) : Int) < ((co.length : Nat) : Int) := of_decide_eq_false c7e
          clear c7e
          refine al_nil ?_
          refine sk_seq ?_
          refine kF ?_
          refine sk_exit ?_
          dsimp only
          refine .inr ⟨_, _, (fun h => by cases h), .inl ⟨rfl, ?_, rfl, rfl⟩, ⟨by kernel_rfl, ⟨by kernel_rfl, by kernel_rfl, by kernel_rfl, by kernel_rfl, trivial⟩, ⟨.ptr ⟨by decide, rfl⟩, .ptr ⟨by decide, rfl⟩, sub_clo rfl, sub_clo rfl, trivial⟩, Nat.le_of_ble_eq_true (by kernel_rfl), ⟨by kernel_rfl, (((wf_empty 0).new _).new _), (selfs (all_cons (o := .cells [.int .i64 fu, inlL ccells 6 co]) (by kernel_rfl) (OSub.cells (.cons (sub_clo rfl) (.cons (sub_clo rfl) .nil))) (all_cons (o := .cells [.int .i64 fv, inlL ccells 6 cp]) (by kernel_rfl) (OSub.cells (.cons (sub_clo rfl) (.cons (sub_clo rfl) .nil))) (all_none))))⟩, mem_all (by kernel_rfl)⟩⟩
          · omega
      · exact ⟨by ((try dsimp only); first | done | (omega)), by ((try dsimp only); first | done | (rfl))⟩
      rintro o e1 s1 ⟨a, lv1, M1, m5, ha, (⟨rfl, hx, rfl, rfl⟩ | ⟨rfl, hx, rfl, rfl⟩), rfl, rfl⟩
      ·
        obtain ⟨i, ea⟩ : ∃ z, z = a := ⟨_, rfl⟩
        subst ea
        obtain ⟨i0, i1⟩ := ha
        dsimp only
        try rw [if_pos rfl]
        refine sk_seq ?_
        refine kK Tryd.cfgOk hS ?_
        refine sk_ret ?_
        exact ⟨[.bool true], by kernel_rfl, fs_to (fs_clo rfl) (congrArg Value.bool (by first | exact (decide_eq_true ⟨by assumption, take_all (by assumption) (by assumption) (by omega)⟩).symm | exact (decide_eq_false (fun e => absurd e.2 (by assumption))).symm | exact (decide_eq_false (fun e => absurd e.1 (by assumption))).symm | exact (decide_eq_false (fun e => by have := congrArg List.length e.2; omega)).symm)), Nat.le_of_ble_eq_true (by kernel_rfl)⟩
      ·
        obtain ⟨i, ea⟩ : ∃ z, z = a := ⟨_, rfl⟩
        subst ea
        obtain ⟨i0, i1⟩ := ha
        dsimp only
        exact ⟨[.bool false], by kernel_rfl, fs_to (fs_clo rfl) (congrArg Value.bool (by first | exact (decide_eq_true ⟨by assumption, take_all (by assumption) (by assumption) (by omega)⟩).symm | exact (decide_eq_false (fun e => absurd e.2 (by assumption))).symm | exact (decide_eq_false (fun e => absurd e.1 (by assumption))).symm | exact (decide_eq_false (fun e => by have := congrArg List.length e.2; omega)).symm)), Nat.le_of_ble_eq_true (by kernel_rfl)⟩
noncomputable def con_nprogs : Con Tryd.prog 1001 := Con.pure (α := Int × (List Code) × Int × (List Code)) 13 (fun z9 => [.agg #[.int .i64 z9.1, inlL ccells 6 z9.2.1], .agg #[.int .i64 z9.2.2.1, inlL ccells 6 z9.2.2.2]]) (fun z9 => .bool (decide (z9.1 = z9.2.2.1 ∧ z9.2.1 = z9.2.2.2))) (fun z9 => (z9.2.1.length ≤ 1000000) ∧ (z9.2.2.2.length ≤ 1000000)) (by
  rintro ⟨a0, a1, a2, a3⟩ ⟨b0, b1, b2, b3⟩ h
  simp only [List.cons.injEq, and_true, Int.natCast_inj, UInt8.toNat_inj, Value.int.injEq, Value.bool.injEq, Value.string.injEq, Value.agg.injEq, Array.mk.injEq, true_and, ccells_iff] at h
  first | exact h | (simp only [Prod.ext_iff, h, and_self, and_true, true_and]; done) | simp_all [Prod.ext_iff]) (fun _ => rfl) (fun _ => rfl) 400 (by
  rintro ⟨a0, a1, a2, a3⟩ ⟨p0, p1⟩
  exact nprogs_sc a0 a1 a2 a3 p0 p1)
theorem con_nprogs_at (fu : Int) (co : List Code) (fv : Int) (cp : List Code) (h0 : co.length ≤ 1000000) (h1 : cp.length ≤ 1000000) (s : St) : con_nprogs.rel [.agg #[.int .i64 fu, inlL ccells 6 co], .agg #[.int .i64 fv, inlL ccells 6 cp]] s (.bool (decide (fu = fv ∧ co = cp))) s := con_pure (fu, co, fv, cp) ⟨h0, h1⟩ s
theorem printBad_fn : Tryd.cfg.fn 12 = some Tryd.f12 := by kernel_rfl
set_option maxHeartbeats 4000000 in
set_option maxRecDepth 100000 in
theorem printBad_sc (fu : Int) (co : List Code) (h0 : co.length ≤ 1000000) (h1 : ¬ checkP fu co) : SC Tryd.prog 1001 12 [.agg #[.int .i64 fu, inlL ccells 6 co]] (St.empty 0) fun v s' => v = .tuple #[.string (bstr []), .iface 47 (.chan (some 0))] ∧ s'.n ≤ 400 := by
  obtain ⟨rc, hS, hC⟩ := rc_con (sound_run Tryd.cfgOk 300) [con_check] (by kernel_rfl)
  have hC24 := hC con_check (.head _)
  refine sc_ice0 (N := 400) (v2 := .tuple #[.string (bstr []), .iface 47 (.chan (some 0))]) (Q := fun v s' => FS 0 s' v (.tuple #[.string (bstr []), .iface 47 (.chan (some 0))]) ∧ s'.n ≤ 400) ?_ (fun _ _ h => h)
  refine sc_body Tryd.cfgOk printBad_fn rfl ?_
  refine sk_seq ?_
  refine kK Tryd.cfgOk hS ?_
  refine sk_seq (sk_seq ?_)
  refine sk_regionL Tryd.cfgOk hS ?_
  refine aK 1 ?_
  by_cases q1 : checkP fu co
  ·
    exact absurd q1 h1
  ·
    refine aC 24 [.agg #[.int .i64 fu, inlL ccells 6 co]] (.iface 47 (.chan (some 0))) _ rfl (rc_eq (hC24 _ _ _ _ (con_check_at fu co (by first | omega | (simp; done) | (simp; omega)) _)) (checkV_f q1)) ?_
    refine aN ?_
    refine sk_seq ?_
    refine kK Tryd.cfgOk hS ?_
    refine kT ?_
    refine sk_seq ?_
    refine kK Tryd.cfgOk hS ?_
    refine sk_ret ?_
    exact ⟨[.string (bstr []), .iface 47 (.chan (some 0))], by kernel_rfl, .tuple (.cons (.same (sub_clo rfl)) (.cons (.same (.iface (.junk 0 rfl dec_zero))) (.nil))), Nat.le_of_ble_eq_true (by kernel_rfl)⟩
noncomputable def printV (fu : Int) (co : List Code) : Value := if tf (checkP fu co) = true then .tuple #[.string (bstr (printR fu co)), .nilIface] else .tuple #[.string (bstr []), .iface 47 (.chan (some 0))]
theorem printV_clo (fu : Int) (co : List Code) : clo (printV fu co) = true := by unfold printV; split <;> rfl
theorem printV_t {fu : Int} {co : List Code} (h : checkP fu co) : printV fu co = .tuple #[.string (bstr (printR fu co)), .nilIface] := by rw [printV, tf_true h, if_pos rfl]
theorem printV_f {fu : Int} {co : List Code} (h : ¬ checkP fu co) : printV fu co = .tuple #[.string (bstr []), .iface 47 (.chan (some 0))] := by rw [printV, tf_false h]; rfl
theorem print_sc (fu : Int) (co : List Code) (h0 : in64 fu) (h1 : ∀ c ∈ co, inC c) (h2 : co.length ≤ 1000000) : SC Tryd.prog 1001 12 [.agg #[.int .i64 fu, inlL ccells 6 co]] (St.empty 0) fun v s' => v = printV fu co ∧ s'.n ≤ 400 := by
  by_cases h : checkP fu co
  · rw [printV_t h]; exact printGood_sc fu co h h0 h1
  · rw [printV_f h]; exact printBad_sc fu co h2 h
noncomputable def con_print : Con Tryd.prog 1001 := Con.pure (α := Int × (List Code)) 12 (fun z9 => [.agg #[.int .i64 z9.1, inlL ccells 6 z9.2]]) (fun z9 => printV z9.1 z9.2) (fun z9 => (in64 z9.1) ∧ (∀ c ∈ z9.2, inC c) ∧ (z9.2.length ≤ 1000000)) (by
  rintro ⟨a0, a1⟩ ⟨b0, b1⟩ h
  simp only [List.cons.injEq, and_true, Int.natCast_inj, UInt8.toNat_inj, Value.int.injEq, Value.bool.injEq, Value.string.injEq, Value.agg.injEq, Array.mk.injEq, true_and, ccells_iff] at h
  first | exact h | (simp only [Prod.ext_iff, h, and_self, and_true, true_and]; done) | simp_all [Prod.ext_iff]) (fun _ => rfl) (fun z9 => printV_clo z9.1 z9.2) 400 (by
  rintro ⟨a0, a1⟩ ⟨p0, p1, p2⟩
  exact print_sc a0 a1 p0 p1 p2)
theorem con_print_at (fu : Int) (co : List Code) (h0 : in64 fu) (h1 : ∀ c ∈ co, inC c) (h2 : co.length ≤ 1000000) (s : St) : con_print.rel [.agg #[.int .i64 fu, inlL ccells 6 co]] s (printV fu co) s := con_pure (fu, co) ⟨h0, h1, h2⟩ s
theorem same_text {fu fv : Int} {co cp : List Code} (h : fu = fv ∧ co = cp) : printR fu co = printR fv cp := by rw [h.1, h.2]
theorem ends_ok {fu : Int} {co : List Code} {i k : Nat} (h : k = nl ((printR fu co).take i)) (hx : ¬ i < (printR fu co).length) : ((k : Nat) : Int) = ((1 + co.length : Nat) : Int) := by
  rw [List.take_of_length_le (by omega), nl_print] at h
  rw [h]
theorem lawApart_fn : Tryd.cfg.fn 4 = some Tryd.f4 := by kernel_rfl
set_option maxHeartbeats 4000000 in
set_option maxRecDepth 100000 in
theorem lawApart_sc (fu : Int) (co : List Code) (fv : Int) (cp : List Code) (h0 : in64 fu) (h1 : ∀ c ∈ co, inC c) (h2 : in64 fv) (h3 : ∀ c ∈ cp, inC c) : SC Tryd.prog 1001 4 [.agg #[.int .i64 fu, inlL ccells 6 co], .agg #[.int .i64 fv, inlL ccells 6 cp]] (St.empty 0) fun v s' => v = .bool true ∧ s'.n ≤ 400 := by
  obtain ⟨rc, hS, hC⟩ := rc_con (sound_run Tryd.cfgOk 300) [con_alive, con_print, con_nprogs] (by kernel_rfl)
  have hC5 := hC con_alive (.head _)
  have hC12 := hC con_print (.tail _ (.head _))
  have hC13 := hC con_nprogs (.tail _ (.tail _ (.head _)))
  refine sc_ice0 (N := 400) (v2 := .bool true) (Q := fun v s' => FS 0 s' v (.bool true) ∧ s'.n ≤ 400) ?_ (fun _ _ h => h)
  refine sc_body Tryd.cfgOk lawApart_fn rfl ?_
  refine sk_seq ?_
  refine kK Tryd.cfgOk hS ?_
  refine sk_seq (sk_seq ?_)
  refine sk_regionL Tryd.cfgOk hS ?_
  refine aC 5 [] (.bool true) _ rfl (hC5 _ _ _ _ (con_alive_at   _)) ?_
  refine aN ?_
  refine kF ?_
  refine sk_skip (sk_seq (sk_seq ?_))
  refine sk_regionL Tryd.cfgOk hS ?_
  refine aK 2 ?_
  refine aM (lenB Tryd.cfg (St.empty 0) 37 (inlL ccells 6 co)) (.int .i64 ((co.length : Nat) : Int)) (len_inl tokC (by kernel_rfl)) ?_
  refine aT (fun h1 => ?_) (fun h1 => ?_)
  · have c2e : (decide ((((co.length : Nat) : Int) : Int) > 100)) = true := Eq.trans (by kernel_rfl) h1
    clear h1
    have c2 : (((co.length : Nat) : Int) : Int) > 100 := of_decide_eq_true c2e
    clear c2e
    refine aN ?_
    refine kT ?_
    refine sk_seq ?_
    refine kK Tryd.cfgOk hS ?_
    refine sk_ret ?_
    exact ⟨[.bool true], by kernel_rfl, .same (sub_clo rfl), Nat.le_of_ble_eq_true (by kernel_rfl)⟩
  · have c2e : (decide ((((co.length : Nat) : Int) : Int) > 100)) = false := Eq.trans (by kernel_rfl) h1
    clear h1
    have c2 : ¬ (((co.length : Nat) : Int) : Int) > 100 := of_decide_eq_false c2e
    clear c2e
    refine aK 3 ?_
    refine aM (lenB Tryd.cfg (St.empty 0) 37 (inlL ccells 6 cp)) (.int .i64 ((cp.length : Nat) : Int)) (len_inl tokC (by kernel_rfl)) ?_
    refine aT (fun h3 => ?_) (fun h3 => ?_)
    · have c4e : (decide ((((cp.length : Nat) : Int) : Int) > 100)) = true := Eq.trans (by kernel_rfl) h3
      clear h3
      have c4 : (((cp.length : Nat) : Int) : Int) > 100 := of_decide_eq_true c4e
      clear c4e
      refine aN ?_
      refine kT ?_
      refine sk_seq ?_
      refine kK Tryd.cfgOk hS ?_
      refine sk_ret ?_
      exact ⟨[.bool true], by kernel_rfl, .same (sub_clo rfl), Nat.le_of_ble_eq_true (by kernel_rfl)⟩
    · have c4e : (decide ((((cp.length : Nat) : Int) : Int) > 100)) = false := Eq.trans (by kernel_rfl) h3
      clear h3
      have c4 : ¬ (((cp.length : Nat) : Int) : Int) > 100 := of_decide_eq_false c4e
      clear c4e
      refine aN ?_
      refine kF ?_
      refine sk_skip (sk_seq ?_)
      refine sk_regionL Tryd.cfgOk hS ?_
      refine aK 1 ?_
      by_cases q5 : checkP fu co
      ·
        have hlq5 := print_len q5 (by assumption) (by assumption)
        refine aC 12 [.agg #[.int .i64 fu, inlL ccells 6 co]] (.tuple #[.string (bstr (printR fu co)), .nilIface]) _ rfl (rc_eq (hC12 _ _ _ _ (con_print_at fu co (by first | omega | assumption) (by first | omega | assumption) (by first | omega | assumption) _)) (printV_t q5)) ?_
        refine aN ?_
        refine sk_seq ?_
        refine sk_regionL Tryd.cfgOk hS ?_
        refine aK 1 ?_
        by_cases q6 : checkP fv cp
        ·
          have hlq6 := print_len q6 (by assumption) (by assumption)
          refine aC 12 [.agg #[.int .i64 fv, inlL ccells 6 cp]] (.tuple #[.string (bstr (printR fv cp)), .nilIface]) _ rfl (rc_eq (hC12 _ _ _ _ (con_print_at fv cp (by first | omega | assumption) (by first | omega | assumption) (by first | omega | assumption) _)) (printV_t q6)) ?_
          refine aN ?_
          refine sk_seq (sk_seq ?_)
          refine kK Tryd.cfgOk hS ?_
          refine kF ?_
          refine sk_skip (sk_seq (sk_seq ?_))
          refine sk_regionL Tryd.cfgOk hS ?_
          refine aK 2 ?_
          refine aT (fun h7 => ?_) (fun h7 => ?_)
          · have c8e : (((((printR fu co).length : Nat) : Int) : Int) == 0) = true := Eq.trans (by kernel_rfl) h7
            clear h7
            have c8 : ((((printR fu co).length : Nat) : Int) : Int) = 0 := eq_of_beq c8e
            clear c8e
            refine aN ?_
            refine kT ?_
            refine sk_seq ?_
            refine kK Tryd.cfgOk hS ?_
            refine sk_ret ?_
            exact ⟨[.bool false], by kernel_rfl, fs_to (fs_clo rfl) (congrArg Value.bool (by first | rfl | (exfalso; first | exact absurd (print_inj (fu := fu) (co := co) (fv := fv) (cp := cp) (by assumption) (by assumption) (by assumption)) (by assumption) | (have e := print_last (by assumption); subst e; contradiction) | exact absurd (same_text (by assumption)) (by assumption) | exact absurd (ends_ok (by assumption) (by assumption)) (by assumption) | omega))), Nat.le_of_ble_eq_true (by kernel_rfl)⟩
          · have c8e : (((((printR fu co).length : Nat) : Int) : Int) == 0) = false := Eq.trans (by kernel_rfl) h7
            clear h7
            have c8 : ¬ ((((printR fu co).length : Nat) : Int) : Int) = 0 := ne_of_beq_false c8e
            clear c8e
            refine aK 4 ?_
            refine aE (v := .int .i64 (IntKind.wrap .i64 ((((printR fu co).length : Nat) : Int) - 1))) (.int .i64 (((printR fu co).length - 1 : Nat) : Int)) (congrArg (Value.int .i64) (wrap_to (by omega) (by omega))) ?_
            have hx9l : ((printR fu co).length - 1) < (printR fu co).length := by omega
            refine Exists.elim (get_ex hx9l) fun x9 hx9 => ?_
            clear hx9l
            refine aM (indexV Tryd.cfg 9 (.string (bstr (printR fu co))) (.int .i64 (((printR fu co).length - 1 : Nat) : Int))) (.int .u8 ((x9.toNat : Nat) : Int)) (index_bstr (by kernel_rfl) hx9) ?_
            refine aT (fun h10 => ?_) (fun h10 => ?_)
            · have c11e : ((((x9.toNat : Nat) : Int) : Int) != 10) = true := Eq.trans (by kernel_rfl) h10
              clear h10
              have c11 : ¬ (((x9.toNat : Nat) : Int) : Int) = 10 := bne_iff_ne.1 c11e
              clear c11e
              refine aN ?_
              refine kT ?_
              refine sk_seq ?_
              refine kK Tryd.cfgOk hS ?_
              refine sk_ret ?_
              exact ⟨[.bool false], by kernel_rfl, fs_to (fs_clo rfl) (congrArg Value.bool (by first | rfl | (exfalso; first | exact absurd (print_inj (fu := fu) (co := co) (fv := fv) (cp := cp) (by assumption) (by assumption) (by assumption)) (by assumption) | (have e := print_last (by assumption); subst e; contradiction) | exact absurd (same_text (by assumption)) (by assumption) | exact absurd (ends_ok (by assumption) (by assumption)) (by assumption) | omega))), Nat.le_of_ble_eq_true (by kernel_rfl)⟩
            · have c11e : ((((x9.toNat : Nat) : Int) : Int) != 10) = false := Eq.trans (by kernel_rfl) h10
              clear h10
              have c11 : (((x9.toNat : Nat) : Int) : Int) = 10 := bne_eq_false_iff_eq.1 c11e
              clear c11e
              refine aN ?_
              refine kF ?_
              refine sk_skip (sk_seq ?_)
              refine kK Tryd.cfgOk hS ?_
              refine sk_seq (sk_seq ?_)
              refine kK Tryd.cfgOk hS ?_
              refine sk_block ?_
              refine sk_live 77 ((fun a : Nat × Nat => [(2, .pointer (some ⟨0, 0, none⟩)), (3, .pointer (some ⟨1, 0, none⟩)), (5, .string (bstr (printR fu co))), (7, .string (bstr (printR fv cp))), (9, .int .i64 ((a.2 : Nat) : Int)), (51, .int .i64 (((printR fu co).length : Nat) : Int)), (52, .int .i64 ((a.1 : Nat) : Int))]) (0, 0)) (by kernel_rfl) ⟨by kernel_rfl, by kernel_rfl, by kernel_rfl, by kernel_rfl, by kernel_rfl, by kernel_rfl, by kernel_rfl, trivial⟩ fun m12 => ?_
              refine sk_st ((fun a : Nat × Nat => (((St.empty 0).new (.cells [.int .i64 fu, inlL ccells 6 co])).new (.cells [.int .i64 fv, inlL ccells 6 cp]))) (0, 0)) (by kernel_rfl) ?_
              refine (sk_while (k := 2) (N := 400) (live := (fun a : Nat × Nat => [(2, .pointer (some ⟨0, 0, none⟩)), (3, .pointer (some ⟨1, 0, none⟩)), (5, .string (bstr (printR fu co))), (7, .string (bstr (printR fv cp))), (9, .int .i64 ((a.2 : Nat) : Int)), (51, .int .i64 (((printR fu co).length : Nat) : Int)), (52, .int .i64 ((a.1 : Nat) : Int))])) (M := (fun a : Nat × Nat => (((St.empty 0).new (.cells [.int .i64 fu, inlL ccells 6 co])).new (.cells [.int .i64 fv, inlL ccells 6 cp])))) (fun a : Nat × Nat => (a.1 ≤ (printR fu co).length) ∧ (a.2 = nl ((printR fu co).take a.1)) ∧ (a.2 ≤ a.1)) (fun a : Nat × Nat => (printR fu co).length - a.1) (fun (a : Nat × Nat) (o : Out) (lv : List (Nat × Value)) (M : St) => (o = .exit 0 ∧ (¬ a.1 < (printR fu co).length) ∧ lv = [(2, .pointer (some ⟨0, 0, none⟩)), (3, .pointer (some ⟨1, 0, none⟩)), (5, .string (bstr (printR fu co))), (7, .string (bstr (printR fv cp))), (9, .int .i64 ((a.2 : Nat) : Int)), (51, .int .i64 (((printR fu co).length : Nat) : Int)), (52, .int .i64 ((a.1 : Nat) : Int))] ∧ M = (((St.empty 0).new (.cells [.int .i64 fu, inlL ccells 6 co])).new (.cells [.int .i64 fv, inlL ccells 6 cp])))) (Nat.zero_le _) (fun a ha => ?_) (fun a ha => ?_) (fun a m ha => ?_) (fun a m ha => ?_) (0, 0) m12 ?_).up ?_
              · exact ⟨by kernel_rfl, (((wf_empty 0).new _).new _), (selfs (all_cons (o := .cells [.int .i64 fu, inlL ccells 6 co]) (by kernel_rfl) (OSub.cells (.cons (sub_clo rfl) (.cons (sub_clo rfl) .nil))) (all_cons (o := .cells [.int .i64 fv, inlL ccells 6 cp]) (by kernel_rfl) (OSub.cells (.cons (sub_clo rfl) (.cons (sub_clo rfl) .nil))) (all_none))))⟩
              · exact ⟨.ptr ⟨by decide, rfl⟩, .ptr ⟨by decide, rfl⟩, sub_clo rfl, sub_clo rfl, sub_clo rfl, sub_clo rfl, sub_clo rfl, trivial⟩
              · exact ⟨by kernel_rfl, by kernel_rfl, by kernel_rfl, by kernel_rfl, by kernel_rfl, by kernel_rfl, by kernel_rfl, trivial⟩
              · obtain ⟨i, k⟩ := a
                obtain ⟨i0, i1, i2⟩ := ha
                dsimp only at i0 i1 i2
                refine sk_seq ?_
                refine sk_regionL Tryd.cfgOk hS ?_
                refine aT (fun h13 => ?_) (fun h13 => ?_)
                · have c14e : (decide ((((i : Nat) : Int) : Int) < (((printR fu co).length : Nat) : Int))) = true := Eq.trans (by kernel_rfl) h13
                  clear h13
                  have c14 : (((i : Nat) : Int) : Int) < (((printR fu co).length : Nat) : Int) := of_decide_eq_true c14e
                  clear c14e
                  refine al_nil ?_
                  refine sk_seq ?_
                  refine kT ?_
                  refine sk_skip (sk_seq (sk_block (sk_seq ?_)))
                  refine kK Tryd.cfgOk hS ?_
                  refine sk_seq ?_
                  have hx15l : i < (printR fu co).length := by omega
                  refine Exists.elim (get_ex hx15l) fun x15 hx15 => ?_
                  clear hx15l
                  refine sk_regionL Tryd.cfgOk hS ?_
                  refine aK 2 ?_
                  refine aM (indexV Tryd.cfg 9 (.string (bstr (printR fu co))) (.int .i64 ((i : Nat) : Int))) (.int .u8 ((x15.toNat : Nat) : Int)) (index_bstr (by kernel_rfl) hx15) ?_
                  refine aT (fun h16 => ?_) (fun h16 => ?_)
                  · have c17e : ((((x15.toNat : Nat) : Int) : Int) == 10) = true := Eq.trans (by kernel_rfl) h16
                    clear h16
                    have c17 : (((x15.toNat : Nat) : Int) : Int) = 10 := eq_of_beq c17e
                    clear c17e
                    refine al_nil ?_
                    refine kT ?_
                    refine sk_regionL Tryd.cfgOk hS ?_
                    refine aK 1 ?_
                    refine aE (v := .int .i64 (IntKind.wrap .i64 (((k : Nat) : Int) + 1))) (.int .i64 ((k + 1 : Nat) : Int)) (congrArg (Value.int .i64) (wrap_to (by omega) (by omega))) ?_
                    refine aN ?_
                    refine sk_regionL Tryd.cfgOk hS ?_
                    refine aE (v := .int .i64 (IntKind.wrap .i64 (((i : Nat) : Int) + 1))) (.int .i64 ((i + 1 : Nat) : Int)) (congrArg (Value.int .i64) (wrap_to (by omega) (by omega))) ?_
                    refine aN ?_
                    refine .inl ⟨(i + 1, k + 1), rfl, ⟨?_, ?_, ?_⟩, ?_, ⟨by kernel_rfl, ⟨by kernel_rfl, by kernel_rfl, by kernel_rfl, by kernel_rfl, by kernel_rfl, by kernel_rfl, by kernel_rfl, trivial⟩, ⟨.ptr ⟨by decide, rfl⟩, .ptr ⟨by decide, rfl⟩, sub_clo rfl, sub_clo rfl, sub_clo rfl, sub_clo rfl, sub_clo rfl, trivial⟩, Nat.le_of_ble_eq_true (by kernel_rfl), ⟨by kernel_rfl, (((wf_empty 0).new _).new _), (selfs (all_cons (o := .cells [.int .i64 fu, inlL ccells 6 co]) (by kernel_rfl) (OSub.cells (.cons (sub_clo rfl) (.cons (sub_clo rfl) .nil))) (all_cons (o := .cells [.int .i64 fv, inlL ccells 6 cp]) (by kernel_rfl) (OSub.cells (.cons (sub_clo rfl) (.cons (sub_clo rfl) .nil))) (all_none))))⟩, mem_all (by kernel_rfl)⟩⟩
                    · (try dsimp only); omega
                    · (try dsimp only); first | exact nl_hit (by assumption) (by assumption) (by assumption) | exact nl_miss (by assumption) (by assumption) (by assumption)
                    · (try dsimp only); omega
                    · omega
                  · have c17e : ((((x15.toNat : Nat) : Int) : Int) == 10) = false := Eq.trans (by kernel_rfl) h16
                    clear h16
                    have c17 : ¬ (((x15.toNat : Nat) : Int) : Int) = 10 := ne_of_beq_false c17e
                    clear c17e
                    refine al_nil ?_
                    refine kF ?_
                    refine sk_skip ?_
                    refine sk_regionL Tryd.cfgOk hS ?_
                    refine aE (v := .int .i64 (IntKind.wrap .i64 (((i : Nat) : Int) + 1))) (.int .i64 ((i + 1 : Nat) : Int)) (congrArg (Value.int .i64) (wrap_to (by omega) (by omega))) ?_
                    refine aN ?_
                    refine .inl ⟨(i + 1, k), rfl, ⟨?_, ?_, ?_⟩, ?_, ⟨by kernel_rfl, ⟨by kernel_rfl, by kernel_rfl, by kernel_rfl, by kernel_rfl, by kernel_rfl, by kernel_rfl, by kernel_rfl, trivial⟩, ⟨.ptr ⟨by decide, rfl⟩, .ptr ⟨by decide, rfl⟩, sub_clo rfl, sub_clo rfl, sub_clo rfl, sub_clo rfl, sub_clo rfl, trivial⟩, Nat.le_of_ble_eq_true (by kernel_rfl), ⟨by kernel_rfl, (((wf_empty 0).new _).new _), (selfs (all_cons (o := .cells [.int .i64 fu, inlL ccells 6 co]) (by kernel_rfl) (OSub.cells (.cons (sub_clo rfl) (.cons (sub_clo rfl) .nil))) (all_cons (o := .cells [.int .i64 fv, inlL ccells 6 cp]) (by kernel_rfl) (OSub.cells (.cons (sub_clo rfl) (.cons (sub_clo rfl) .nil))) (all_none))))⟩, mem_all (by kernel_rfl)⟩⟩
                    · (try dsimp only); omega
                    · (try dsimp only); first | exact nl_hit (by assumption) (by assumption) (by assumption) | exact nl_miss (by assumption) (by assumption) (by assumption)
                    · (try dsimp only); omega
                    · omega
                · have c14e : (decide ((((i : Nat) : Int) : Int) < (((printR fu co).length : Nat) : Int))) = false := Eq.trans (by kernel_rfl) h13
                  clear h13
                  have c14 : ¬ (((i : Nat) : Int) : Int) < (((printR fu co).length : Nat) : Int) := of_decide_eq_false c14e
                  clear c14e
                  refine al_nil ?_
                  refine sk_seq ?_
                  refine kF ?_
                  refine sk_exit ?_
                  dsimp only
                  refine .inr ⟨_, _, (fun h => by cases h), ⟨rfl, ?_, rfl, rfl⟩, ⟨by kernel_rfl, ⟨by kernel_rfl, by kernel_rfl, by kernel_rfl, by kernel_rfl, by kernel_rfl, by kernel_rfl, by kernel_rfl, trivial⟩, ⟨.ptr ⟨by decide, rfl⟩, .ptr ⟨by decide, rfl⟩, sub_clo rfl, sub_clo rfl, sub_clo rfl, sub_clo rfl, sub_clo rfl, trivial⟩, Nat.le_of_ble_eq_true (by kernel_rfl), ⟨by kernel_rfl, (((wf_empty 0).new _).new _), (selfs (all_cons (o := .cells [.int .i64 fu, inlL ccells 6 co]) (by kernel_rfl) (OSub.cells (.cons (sub_clo rfl) (.cons (sub_clo rfl) .nil))) (all_cons (o := .cells [.int .i64 fv, inlL ccells 6 cp]) (by kernel_rfl) (OSub.cells (.cons (sub_clo rfl) (.cons (sub_clo rfl) .nil))) (all_none))))⟩, mem_all (by kernel_rfl)⟩⟩
                  · omega
              · exact ⟨by ((try dsimp only); first | done | (omega)), by ((try dsimp only); first | done | (rfl)), by ((try dsimp only); first | done | (omega))⟩
              rintro o e1 s1 ⟨a, lv1, M1, m12, ha, ⟨rfl, hx, rfl, rfl⟩, rfl, rfl⟩
              obtain ⟨i, k⟩ := a
              obtain ⟨i0, i1, i2⟩ := ha
              dsimp only at hx i0 i1 i2
              dsimp only
              try rw [if_pos rfl]
              refine sk_seq ?_
              refine sk_regionL Tryd.cfgOk hS ?_
              refine aK 2 ?_
              refine aT (fun h18 => ?_) (fun h18 => ?_)
              · have c19e : (((bstr (printR fu co)).toList == (bstr (printR fv cp)).toList)) = true := Eq.trans (by kernel_rfl) h18
                clear h18
                have c19 : printR fu co = printR fv cp := bstr_t c19e
                clear c19e
                refine aK 2 ?_
                refine aB 13 [.agg #[.int .i64 fu, inlL ccells 6 co], .agg #[.int .i64 fv, inlL ccells 6 cp]] (decide (fu = fv ∧ co = cp)) _ rfl (hC13 _ _ _ _ (con_nprogs_at fu co fv cp (by first | omega | assumption) (by first | omega | assumption) _)) (fun h20 => ?_) (fun h20 => ?_)
                · have c21 : fu = fv ∧ co = cp := of_decide_eq_true h20
                  clear h20
                  refine aK 5 ?_
                  refine aM (lenB Tryd.cfg (St.empty 0) 37 (inlL ccells 6 co)) (.int .i64 ((co.length : Nat) : Int)) (len_inl tokC (by kernel_rfl)) ?_
                  refine aE (v := .int .i64 (IntKind.wrap .i64 (1 + ((co.length : Nat) : Int)))) (.int .i64 ((1 + co.length : Nat) : Int)) (congrArg (Value.int .i64) (wrap_to (by omega) (by omega))) ?_
                  refine aT (fun h22 => ?_) (fun h22 => ?_)
                  · have c23e : ((((k : Nat) : Int) : Int) == ((1 + co.length : Nat) : Int)) = true := Eq.trans (by kernel_rfl) h22
                    clear h22
                    have c23 : (((k : Nat) : Int) : Int) = ((1 + co.length : Nat) : Int) := eq_of_beq c23e
                    clear c23e
                    refine aN ?_
                    refine sk_ret ?_
                    exact ⟨[.bool true], by kernel_rfl, .same (sub_clo rfl), Nat.le_of_ble_eq_true (by kernel_rfl)⟩
                  · have c23e : ((((k : Nat) : Int) : Int) == ((1 + co.length : Nat) : Int)) = false := Eq.trans (by kernel_rfl) h22
                    clear h22
                    have c23 : ¬ (((k : Nat) : Int) : Int) = ((1 + co.length : Nat) : Int) := ne_of_beq_false c23e
                    clear c23e
                    refine aN ?_
                    refine sk_ret ?_
                    exact ⟨[.bool false], by kernel_rfl, fs_to (fs_clo rfl) (congrArg Value.bool (by first | rfl | (exfalso; first | exact absurd (print_inj (fu := fu) (co := co) (fv := fv) (cp := cp) (by assumption) (by assumption) (by assumption)) (by assumption) | (have e := print_last (by assumption); subst e; contradiction) | exact absurd (same_text (by assumption)) (by assumption) | exact absurd (ends_ok (by assumption) (by assumption)) (by assumption) | omega))), Nat.le_of_ble_eq_true (by kernel_rfl)⟩
                · have c21 : ¬ (fu = fv ∧ co = cp) := of_decide_eq_false h20
                  clear h20
                  refine aN ?_
                  refine sk_ret ?_
                  exact ⟨[.bool false], by kernel_rfl, fs_to (fs_clo rfl) (congrArg Value.bool (by first | rfl | (exfalso; first | exact absurd (print_inj (fu := fu) (co := co) (fv := fv) (cp := cp) (by assumption) (by assumption) (by assumption)) (by assumption) | (have e := print_last (by assumption); subst e; contradiction) | exact absurd (same_text (by assumption)) (by assumption) | exact absurd (ends_ok (by assumption) (by assumption)) (by assumption) | omega))), Nat.le_of_ble_eq_true (by kernel_rfl)⟩
              · have c19e : (((bstr (printR fu co)).toList == (bstr (printR fv cp)).toList)) = false := Eq.trans (by kernel_rfl) h18
                clear h18
                have c19 : ¬ printR fu co = printR fv cp := bstr_f c19e
                clear c19e
                refine aK 2 ?_
                refine aB 13 [.agg #[.int .i64 fu, inlL ccells 6 co], .agg #[.int .i64 fv, inlL ccells 6 cp]] (decide (fu = fv ∧ co = cp)) _ rfl (hC13 _ _ _ _ (con_nprogs_at fu co fv cp (by first | omega | assumption) (by first | omega | assumption) _)) (fun h24 => ?_) (fun h24 => ?_)
                · have c25 : fu = fv ∧ co = cp := of_decide_eq_true h24
                  clear h24
                  refine aN ?_
                  refine sk_ret ?_
                  exact ⟨[.bool false], by kernel_rfl, fs_to (fs_clo rfl) (congrArg Value.bool (by first | rfl | (exfalso; first | exact absurd (print_inj (fu := fu) (co := co) (fv := fv) (cp := cp) (by assumption) (by assumption) (by assumption)) (by assumption) | (have e := print_last (by assumption); subst e; contradiction) | exact absurd (same_text (by assumption)) (by assumption) | exact absurd (ends_ok (by assumption) (by assumption)) (by assumption) | omega))), Nat.le_of_ble_eq_true (by kernel_rfl)⟩
                · have c25 : ¬ (fu = fv ∧ co = cp) := of_decide_eq_false h24
                  clear h24
                  refine aK 5 ?_
                  refine aM (lenB Tryd.cfg (St.empty 0) 37 (inlL ccells 6 co)) (.int .i64 ((co.length : Nat) : Int)) (len_inl tokC (by kernel_rfl)) ?_
                  refine aE (v := .int .i64 (IntKind.wrap .i64 (1 + ((co.length : Nat) : Int)))) (.int .i64 ((1 + co.length : Nat) : Int)) (congrArg (Value.int .i64) (wrap_to (by omega) (by omega))) ?_
                  refine aT (fun h26 => ?_) (fun h26 => ?_)
                  · have c27e : ((((k : Nat) : Int) : Int) == ((1 + co.length : Nat) : Int)) = true := Eq.trans (by kernel_rfl) h26
                    clear h26
                    have c27 : (((k : Nat) : Int) : Int) = ((1 + co.length : Nat) : Int) := eq_of_beq c27e
                    clear c27e
                    refine aN ?_
                    refine sk_ret ?_
                    exact ⟨[.bool true], by kernel_rfl, .same (sub_clo rfl), Nat.le_of_ble_eq_true (by kernel_rfl)⟩
                  · have c27e : ((((k : Nat) : Int) : Int) == ((1 + co.length : Nat) : Int)) = false := Eq.trans (by kernel_rfl) h26
                    clear h26
                    have c27 : ¬ (((k : Nat) : Int) : Int) = ((1 + co.length : Nat) : Int) := ne_of_beq_false c27e
                    clear c27e
                    refine aN ?_
                    refine sk_ret ?_
                    exact ⟨[.bool false], by kernel_rfl, fs_to (fs_clo rfl) (congrArg Value.bool (by first | rfl | (exfalso; first | exact absurd (print_inj (fu := fu) (co := co) (fv := fv) (cp := cp) (by assumption) (by assumption) (by assumption)) (by assumption) | (have e := print_last (by assumption); subst e; contradiction) | exact absurd (same_text (by assumption)) (by assumption) | exact absurd (ends_ok (by assumption) (by assumption)) (by assumption) | omega))), Nat.le_of_ble_eq_true (by kernel_rfl)⟩
        ·
          refine aC 12 [.agg #[.int .i64 fv, inlL ccells 6 cp]] (.tuple #[.string (bstr []), .iface 47 (.chan (some 0))]) _ rfl (rc_eq (hC12 _ _ _ _ (con_print_at fv cp (by first | omega | assumption) (by first | omega | assumption) (by first | omega | assumption) _)) (printV_f q6)) ?_
          refine aN ?_
          refine sk_seq (sk_seq ?_)
          refine kK Tryd.cfgOk hS ?_
          refine kT ?_
          refine sk_seq ?_
          refine kK Tryd.cfgOk hS ?_
          refine sk_ret ?_
          exact ⟨[.bool true], by kernel_rfl, .same (sub_clo rfl), Nat.le_of_ble_eq_true (by kernel_rfl)⟩
      ·
        refine aC 12 [.agg #[.int .i64 fu, inlL ccells 6 co]] (.tuple #[.string (bstr []), .iface 47 (.chan (some 0))]) _ rfl (rc_eq (hC12 _ _ _ _ (con_print_at fu co (by first | omega | assumption) (by first | omega | assumption) (by first | omega | assumption) _)) (printV_f q5)) ?_
        refine aN ?_
        refine sk_seq ?_
        refine sk_regionL Tryd.cfgOk hS ?_
        refine aK 1 ?_
        by_cases q28 : checkP fv cp
        ·
          have hlq28 := print_len q28 (by assumption) (by assumption)
          refine aC 12 [.agg #[.int .i64 fv, inlL ccells 6 cp]] (.tuple #[.string (bstr (printR fv cp)), .nilIface]) _ rfl (rc_eq (hC12 _ _ _ _ (con_print_at fv cp (by first | omega | assumption) (by first | omega | assumption) (by first | omega | assumption) _)) (printV_t q28)) ?_
          refine aN ?_
          refine sk_seq (sk_seq ?_)
          refine kK Tryd.cfgOk hS ?_
          refine kT ?_
          refine sk_seq ?_
          refine kK Tryd.cfgOk hS ?_
          refine sk_ret ?_
          exact ⟨[.bool true], by kernel_rfl, .same (sub_clo rfl), Nat.le_of_ble_eq_true (by kernel_rfl)⟩
        ·
          refine aC 12 [.agg #[.int .i64 fv, inlL ccells 6 cp]] (.tuple #[.string (bstr []), .iface 47 (.chan (some 0))]) _ rfl (rc_eq (hC12 _ _ _ _ (con_print_at fv cp (by first | omega | assumption) (by first | omega | assumption) (by first | omega | assumption) _)) (printV_f q28)) ?_
          refine aN ?_
          refine sk_seq (sk_seq ?_)
          refine kK Tryd.cfgOk hS ?_
          refine kT ?_
          refine sk_seq ?_
          refine kK Tryd.cfgOk hS ?_
          refine sk_ret ?_
          exact ⟨[.bool true], by kernel_rfl, .same (sub_clo rfl), Nat.le_of_ble_eq_true (by kernel_rfl)⟩
end Go.Proofs.YtgplkbfjlidinaaDoor