/- Programs: good ones. -/
import Derived.Test.YtgplkbfjlidinaaDoorGood
set_option linter.unusedVariables false
set_option linter.unusedSimpArgs false
set_option linter.unnecessarySimpa false
namespace Go.Proofs.YtgplkbfjlidinaaDoor
open Go.Ai
abbrev badC (l : List Code) (i : Nat) : Prop := ∃ x, l[i]? = some x ∧ ¬ goodC x ((l.length - 1 - i : Nat) : Int)
def rangeP (fu : Int) (co : List Code) : Prop := (1 ≤ fu ∧ fu ≤ 1000) ∧ 1 ≤ ((co.length : Nat) : Int) ∧ ((co.length : Nat) : Int) ≤ 32
def checkP (fu : Int) (co : List Code) : Prop := rangeP fu co ∧ ∀ i, i < co.length → ¬ badC co i
noncomputable def checkV (fu : Int) (co : List Code) : Value := if tf (checkP fu co) = true then .nilIface else .iface 47 (.chan (some 0))
theorem checkV_clo (fu : Int) (co : List Code) : clo (checkV fu co) = true := by unfold checkV; split <;> rfl
theorem checkV_t {fu : Int} {co : List Code} (h : checkP fu co) : checkV fu co = .nilIface := by rw [checkV, tf_true h, if_pos rfl]
theorem checkV_f {fu : Int} {co : List Code} (h : ¬ checkP fu co) : checkV fu co = .iface 47 (.chan (some 0)) := by rw [checkV, tf_false h]; rfl
theorem badC_not {co : List Code} {i : Nat} {x : Code} (hx : co[i]? = some x) (h : goodC x ((co.length - 1 - i : Nat) : Int)) : ¬ badC co i := fun ⟨y, h1, h2⟩ => by
  rw [hx] at h1
  obtain rfl := Option.some.inj h1
  exact h2 h
theorem pfault_fn : Tryd.cfg.fn 34 = some Tryd.f34 := by kernel_rfl
set_option maxHeartbeats 4000000 in
set_option maxRecDepth 100000 in
theorem pfault_sc (at_ : Int)  : SC Tryd.prog 1001 34 [.int .i64 at_] (St.empty 0) fun v s' => v = .iface 47 (.chan (some 0)) ∧ s'.n ≤ 400 := by
  have hS := sound_run Tryd.cfgOk 300
  refine sc_ice0 (N := 400) (v2 := .iface 47 (.chan (some 0))) (Q := fun v s' => FS 0 s' v (.iface 47 (.chan (some 0))) ∧ s'.n ≤ 400) ?_ (fun _ _ h => h)
  refine sc_body Tryd.cfgOk pfault_fn rfl ?_
  refine sk_seq ?_
  refine kK Tryd.cfgOk hS ?_
  refine sk_seq ?_
  refine kK Tryd.cfgOk hS ?_
  refine sk_ret ?_
  exact ⟨[.iface 47 (.pointer (some ⟨0, 0, none⟩))], by kernel_rfl, .same (.iface (.junk 0 rfl dec_zero)), Nat.le_of_ble_eq_true (by kernel_rfl)⟩
noncomputable def con_pfault : Con Tryd.prog 1001 := Con.pure (α := Int) 34 (fun z9 => [.int .i64 z9]) (fun z9 => .iface 47 (.chan (some 0))) (fun z9 => True) (by
  intro x y h
  simp only [List.cons.injEq, and_true, Int.natCast_inj, UInt8.toNat_inj, Value.int.injEq, Value.bool.injEq, Value.string.injEq, Value.agg.injEq, Array.mk.injEq, true_and] at h
  first | exact h | (simp only [Prod.ext_iff, h, and_self, and_true, true_and]; done) | simp_all [Prod.ext_iff]) (fun _ => rfl) (fun _ => rfl) 400 (by
  rintro x _
  exact pfault_sc x )
theorem con_pfault_at (at_ : Int)  (s : St) : con_pfault.rel [.int .i64 at_] s (.iface 47 (.chan (some 0))) s := con_pure at_ trivial s
theorem check_fn : Tryd.cfg.fn 24 = some Tryd.f24 := by kernel_rfl
set_option maxHeartbeats 4000000 in
set_option maxRecDepth 100000 in
theorem check_sc (fu : Int) (co : List Code) (h0 : co.length ≤ 1000000) : SC Tryd.prog 1001 24 [.agg #[.int .i64 fu, inlL ccells 6 co]] (St.empty 0) fun v s' => v = checkV fu co ∧ s'.n ≤ 400 := by
  obtain ⟨rc, hS, hC⟩ := rc_con (sound_run Tryd.cfgOk 300) [con_within, con_pgood, con_pfault] (by kernel_rfl)
  have hC33 := hC con_within (.head _)
  have hC35 := hC con_pgood (.tail _ (.head _))
  have hC34 := hC con_pfault (.tail _ (.tail _ (.head _)))
  refine sc_ice0 (N := 400) (v2 := checkV fu co) (Q := fun v s' => FS 0 s' v (checkV fu co) ∧ s'.n ≤ 400) ?_ (fun _ _ h => h)
  refine sc_body Tryd.cfgOk check_fn rfl ?_
  refine sk_seq ?_
  refine kK Tryd.cfgOk hS ?_
  refine sk_seq (sk_seq ?_)
  refine sk_regionL Tryd.cfgOk hS ?_
  refine aK 2 ?_
  refine aB 33 [.int .i64 fu, .int .i64 1, .int .i64 1000] (decide (1 ≤ fu ∧ fu ≤ 1000)) _ rfl (hC33 _ _ _ _ (con_within_at fu 1 1000  _)) (fun h1 => ?_) (fun h1 => ?_)
  · have c2 : 1 ≤ fu ∧ fu ≤ 1000 := of_decide_eq_true h1
    clear h1
    refine aK 4 ?_
    refine aM (lenB Tryd.cfg (St.empty 0) 37 (inlL ccells 6 co)) (.int .i64 ((co.length : Nat) : Int)) (len_inl tokC (by kernel_rfl)) ?_
    refine aB 33 [.int .i64 ((co.length : Nat) : Int), .int .i64 1, .int .i64 32] (decide (1 ≤ ((co.length : Nat) : Int) ∧ ((co.length : Nat) : Int) ≤ 32)) _ rfl (hC33 _ _ _ _ (con_within_at ((co.length : Nat) : Int) 1 32  _)) (fun h3 => ?_) (fun h3 => ?_)
    · have c4 : 1 ≤ ((co.length : Nat) : Int) ∧ ((co.length : Nat) : Int) ≤ 32 := of_decide_eq_true h3
      clear h3
      refine aN ?_
      refine kF ?_
      refine sk_skip (sk_seq (sk_seq ?_))
      refine sk_regionL Tryd.cfgOk hS ?_
      refine aK 2 ?_
      refine aM (lenB Tryd.cfg (St.empty 0) 37 (inlL ccells 6 co)) (.int .i64 ((co.length : Nat) : Int)) (len_inl tokC (by kernel_rfl)) ?_
      refine aN ?_
      refine sk_block ?_
      refine sk_live 37 ((fun a : Nat => [(1, .pointer (some ⟨0, 0, none⟩)), (18, inlL ccells 6 co), (19, .int .i64 ((co.length : Nat) : Int)), (20, .int .i64 ((a : Nat) : Int))]) 0) (by kernel_rfl) ⟨by kernel_rfl, by kernel_rfl, by kernel_rfl, by kernel_rfl, trivial⟩ fun m5 => ?_
      refine sk_st ((fun a : Nat => ((St.empty 0).new (.cells [.int .i64 fu, inlL ccells 6 co]))) 0) (by kernel_rfl) ?_
      refine (sk_while (k := 1) (N := 400) (live := (fun a : Nat => [(1, .pointer (some ⟨0, 0, none⟩)), (18, inlL ccells 6 co), (19, .int .i64 ((co.length : Nat) : Int)), (20, .int .i64 ((a : Nat) : Int))])) (M := (fun a : Nat => ((St.empty 0).new (.cells [.int .i64 fu, inlL ccells 6 co])))) (fun a : Nat => (a ≤ co.length) ∧ (NoI (fun a : Nat => badC co a) a)) (fun a : Nat => co.length - a) (fun (a : Nat) (o : Out) (lv : List (Nat × Value)) (M : St) => (o = .exit 0 ∧ (¬ a < co.length) ∧ lv = [(1, .pointer (some ⟨0, 0, none⟩)), (18, inlL ccells 6 co), (19, .int .i64 ((co.length : Nat) : Int)), (20, .int .i64 ((a : Nat) : Int))] ∧ M = ((St.empty 0).new (.cells [.int .i64 fu, inlL ccells 6 co]))) ∨ (o = .ret ∧ (a < co.length ∧ (badC co a)) ∧ lv = [(2, .iface 47 (.chan (some 0)))] ∧ M = ((St.empty 0).new (.cells [.int .i64 fu, inlL ccells 6 co])))) (Nat.zero_le _) (fun a ha => ?_) (fun a ha => ?_) (fun a m ha => ?_) (fun a m ha => ?_) 0 m5 ?_).up ?_
      · exact ⟨by kernel_rfl, ((wf_empty 0).new _), (selfs (all_cons (o := .cells [.int .i64 fu, inlL ccells 6 co]) (by kernel_rfl) (OSub.cells (.cons (sub_clo rfl) (.cons (sub_clo rfl) .nil))) (all_none)))⟩
      · exact ⟨.ptr ⟨by decide, rfl⟩, sub_clo rfl, sub_clo rfl, sub_clo rfl, trivial⟩
      · exact ⟨by kernel_rfl, by kernel_rfl, by kernel_rfl, by kernel_rfl, trivial⟩
      · obtain ⟨i, ea⟩ : ∃ z, z = a := ⟨_, rfl⟩
        subst ea
        obtain ⟨i0, i1⟩ := ha
        refine sk_seq ?_
        refine sk_regionL Tryd.cfgOk hS ?_
        refine aT (fun h6 => ?_) (fun h6 => ?_)
        · have c7e : (decide ((((i : Nat) : Int) : Int) < ((co.length : Nat) : Int))) = true := Eq.trans (by kernel_rfl) h6
          clear h6
          have c7 : (((i : Nat) : Int) : Int) < ((co.length : Nat) : Int) := of_decide_eq_true c7e
          clear c7e
          refine al_nil ?_
          refine sk_seq ?_
          refine kT ?_
          refine sk_skip (sk_seq (sk_block (sk_seq ?_)))
          refine sk_regionL Tryd.cfgOk hS ?_
          refine aK 1 ?_
          refine aM (indexAddrV Tryd.cfg 37 (inlL ccells 6 co) (.int .i64 ((i : Nat) : Int))) (elt (flatL ccells co) (i * 6)) (idx_inlL tokC (by kernel_rfl) (by first | omega | simp)) ?_
          have hx8l : i < co.length := by omega
          refine Exists.elim (get_ex hx8l) fun x8 hx8 => ?_
          clear hx8l
          refine aM (loadV Tryd.cfg (St.empty 0) 23 (elt (flatL ccells co) (i * 6))) (.agg #[.int .i64 x8.1, .int .i64 x8.2.1, .int .i64 x8.2.2.1, .int .i64 x8.2.2.2.1, .int .i64 x8.2.2.2.2.1, .int .i64 x8.2.2.2.2.2]) (load_el tokC (by kernel_rfl) ccells_len hx8) ?_
          refine aN ?_
          refine sk_seq ?_
          refine sk_regionL Tryd.cfgOk hS ?_
          refine aK 3 ?_
          refine aM (lenB Tryd.cfg (St.empty 0) 37 (inlL ccells 6 co)) (.int .i64 ((co.length : Nat) : Int)) (len_inl tokC (by kernel_rfl)) ?_
          refine aE (v := .int .i64 (IntKind.wrap .i64 (((co.length : Nat) : Int) - 1))) (.int .i64 ((co.length - 1 : Nat) : Int)) (congrArg (Value.int .i64) (wrap_to (by omega) (by omega))) ?_
          refine aK 1 ?_
          refine aE (v := .int .i64 (IntKind.wrap .i64 (((co.length - 1 : Nat) : Int) - ((i : Nat) : Int)))) (.int .i64 ((co.length - 1 - i : Nat) : Int)) (congrArg (Value.int .i64) (wrap_to (by omega) (by omega))) ?_
          refine aB 35 [.agg #[.int .i64 x8.1, .int .i64 x8.2.1, .int .i64 x8.2.2.1, .int .i64 x8.2.2.2.1, .int .i64 x8.2.2.2.2.1, .int .i64 x8.2.2.2.2.2], .int .i64 ((co.length - 1 - i : Nat) : Int)] (tf (goodC (x8.1, x8.2.1, x8.2.2.1, x8.2.2.2.1, x8.2.2.2.2.1, x8.2.2.2.2.2) ((co.length - 1 - i : Nat) : Int))) _ rfl (hC35 _ _ _ _ (con_pgood_at x8.1 x8.2.1 x8.2.2.1 x8.2.2.2.1 x8.2.2.2.2.1 x8.2.2.2.2.2 ((co.length - 1 - i : Nat) : Int)  _)) (fun h9 => ?_) (fun h9 => ?_)
          · have c10 : goodC (x8.1, x8.2.1, x8.2.2.1, x8.2.2.2.1, x8.2.2.2.2.1, x8.2.2.2.2.2) ((co.length - 1 - i : Nat) : Int) := tf_t h9
            clear h9
            refine aN ?_
            refine kF ?_
            refine sk_skip ?_
            refine sk_regionL Tryd.cfgOk hS ?_
            refine aE (v := .int .i64 (IntKind.wrap .i64 (((i : Nat) : Int) + 1))) (.int .i64 ((i + 1 : Nat) : Int)) (congrArg (Value.int .i64) (wrap_to (by omega) (by omega))) ?_
            refine aN ?_
            refine .inl ⟨i + 1, rfl, ⟨?_, ?_⟩, ?_, ⟨by kernel_rfl, ⟨by kernel_rfl, by kernel_rfl, by kernel_rfl, by kernel_rfl, trivial⟩, ⟨.ptr ⟨by decide, rfl⟩, sub_clo rfl, sub_clo rfl, sub_clo rfl, trivial⟩, Nat.le_of_ble_eq_true (by kernel_rfl), ⟨by kernel_rfl, ((wf_empty 0).new _), (selfs (all_cons (o := .cells [.int .i64 fu, inlL ccells 6 co]) (by kernel_rfl) (OSub.cells (.cons (sub_clo rfl) (.cons (sub_clo rfl) .nil))) (all_none)))⟩, mem_all (by kernel_rfl)⟩⟩
            · (try dsimp only); omega
            · (try dsimp only); exact NoI.succ (p := (fun i : Nat => badC co i)) (by assumption) (by first | exact badC_not (by assumption) (by assumption) | exact ⟨_, by assumption, by assumption⟩)
            · omega
          · have c10 : ¬ (goodC (x8.1, x8.2.1, x8.2.2.1, x8.2.2.2.1, x8.2.2.2.2.1, x8.2.2.2.2.2) ((co.length - 1 - i : Nat) : Int)) := tf_f h9
            clear h9
            refine aN ?_
            refine kT ?_
            refine sk_seq ?_
            refine sk_regionL Tryd.cfgOk hS ?_
            refine aK 1 ?_
            refine aC 34 [.int .i64 ((i : Nat) : Int)] (.iface 47 (.chan (some 0))) _ rfl (hC34 _ _ _ _ (con_pfault_at ((i : Nat) : Int)  _)) ?_
            refine aN ?_
            refine sk_ret ?_
            refine .inr ⟨_, _, (fun h => by cases h), .inr ⟨rfl, ?_, rfl, rfl⟩, ⟨by kernel_rfl, ⟨by kernel_rfl, trivial⟩, ⟨.iface (sub_clo rfl), trivial⟩, Nat.le_of_ble_eq_true (by kernel_rfl), ⟨by kernel_rfl, ((wf_empty 0).new _), (selfs (all_cons (o := .cells [.int .i64 fu, inlL ccells 6 co]) (by kernel_rfl) (OSub.cells (.cons (sub_clo rfl) (.cons (sub_clo rfl) .nil))) (all_none)))⟩, mem_all (by kernel_rfl)⟩⟩
            · exact ⟨by omega, _, by assumption, by assumption⟩
        · have c7e : (decide ((((i : Nat) : Int) : Int) < ((co.length : Nat) : Int))) = false := Eq.trans (by kernel_rfl) h6
          clear h6
          have c7 : ¬ (((i : Nat) : Int) : Int) < ((co.length : Nat) : Int) := of_decide_eq_false c7e
          clear c7e
          refine al_nil ?_
          refine sk_seq ?_
          refine kF ?_
          refine sk_exit ?_
          dsimp only
          refine .inr ⟨_, _, (fun h => by cases h), .inl ⟨rfl, ?_, rfl, rfl⟩, ⟨by kernel_rfl, ⟨by kernel_rfl, by kernel_rfl, by kernel_rfl, by kernel_rfl, trivial⟩, ⟨.ptr ⟨by decide, rfl⟩, sub_clo rfl, sub_clo rfl, sub_clo rfl, trivial⟩, Nat.le_of_ble_eq_true (by kernel_rfl), ⟨by kernel_rfl, ((wf_empty 0).new _), (selfs (all_cons (o := .cells [.int .i64 fu, inlL ccells 6 co]) (by kernel_rfl) (OSub.cells (.cons (sub_clo rfl) (.cons (sub_clo rfl) .nil))) (all_none)))⟩, mem_all (by kernel_rfl)⟩⟩
          · omega
      · exact ⟨by ((try dsimp only); first | done | (omega)), by ((try dsimp only); first | done | (exact NoI.zero))⟩
      rintro o e1 s1 ⟨a, lv1, M1, m5, ha, (⟨rfl, hx, rfl, rfl⟩ | ⟨rfl, hx, rfl, rfl⟩), rfl, rfl⟩
      ·
        obtain ⟨i, ea⟩ : ∃ z, z = a := ⟨_, rfl⟩
        subst ea
        obtain ⟨i0, i1⟩ := ha
        dsimp only
        try rw [if_pos rfl]
        refine sk_seq ?_
        refine kK Tryd.cfgOk hS ?_
        refine sk_ret ?_
        exact ⟨[.nilIface], by kernel_rfl, fs_to (.same (sub_clo rfl)) (show (.nilIface : Value) = checkV fu co by first | exact (checkV_t ⟨⟨by assumption, by assumption⟩, fun i h => NoI.none (by assumption) hx ⟨i, h, ·⟩⟩).symm | exact (checkV_t ⟨⟨by assumption, by assumption⟩, fun i h q => NoI.none (by assumption) hx ⟨i, h, q⟩⟩).symm | exact (checkV_f (fun q => q.2 _ hx.1 hx.2)).symm | exact (checkV_f (fun q => absurd q.1.1 (by assumption))).symm | exact (checkV_f (fun q => absurd q.1.2 (by assumption))).symm), Nat.le_of_ble_eq_true (by kernel_rfl)⟩
      ·
        obtain ⟨i, ea⟩ : ∃ z, z = a := ⟨_, rfl⟩
        subst ea
        obtain ⟨i0, i1⟩ := ha
        dsimp only
        exact ⟨[.iface 47 (.chan (some 0))], by kernel_rfl, fs_to (.same (.iface (.junk 0 rfl dec_zero))) (show (.iface 47 (.chan (some 0)) : Value) = checkV fu co by first | exact (checkV_t ⟨⟨by assumption, by assumption⟩, fun i h => NoI.none (by assumption) hx ⟨i, h, ·⟩⟩).symm | exact (checkV_t ⟨⟨by assumption, by assumption⟩, fun i h q => NoI.none (by assumption) hx ⟨i, h, q⟩⟩).symm | exact (checkV_f (fun q => q.2 _ hx.1 hx.2)).symm | exact (checkV_f (fun q => absurd q.1.1 (by assumption))).symm | exact (checkV_f (fun q => absurd q.1.2 (by assumption))).symm), Nat.le_of_ble_eq_true (by kernel_rfl)⟩
    · have c4 : ¬ (1 ≤ ((co.length : Nat) : Int) ∧ ((co.length : Nat) : Int) ≤ 32) := of_decide_eq_false h3
      clear h3
      refine aN ?_
      refine kT ?_
      refine sk_seq ?_
      refine sk_regionL Tryd.cfgOk hS ?_
      refine aC 34 [.int .i64 (-1)] (.iface 47 (.chan (some 0))) _ rfl (hC34 _ _ _ _ (con_pfault_at (-1)  _)) ?_
      refine aN ?_
      refine sk_ret ?_
      exact ⟨[.iface 47 (.chan (some 0))], by kernel_rfl, fs_to (.same (.iface (.junk 0 rfl dec_zero))) (show (.iface 47 (.chan (some 0)) : Value) = checkV fu co by first | exact (checkV_t ⟨⟨by assumption, by assumption⟩, fun i h => NoI.none (by assumption) hx ⟨i, h, ·⟩⟩).symm | exact (checkV_t ⟨⟨by assumption, by assumption⟩, fun i h q => NoI.none (by assumption) hx ⟨i, h, q⟩⟩).symm | exact (checkV_f (fun q => q.2 _ hx.1 hx.2)).symm | exact (checkV_f (fun q => absurd q.1.1 (by assumption))).symm | exact (checkV_f (fun q => absurd q.1.2 (by assumption))).symm), Nat.le_of_ble_eq_true (by kernel_rfl)⟩
  · have c2 : ¬ (1 ≤ fu ∧ fu ≤ 1000) := of_decide_eq_false h1
    clear h1
    refine aN ?_
    refine kT ?_
    refine sk_seq ?_
    refine sk_regionL Tryd.cfgOk hS ?_
    refine aC 34 [.int .i64 (-1)] (.iface 47 (.chan (some 0))) _ rfl (hC34 _ _ _ _ (con_pfault_at (-1)  _)) ?_
    refine aN ?_
    refine sk_ret ?_
    exact ⟨[.iface 47 (.chan (some 0))], by kernel_rfl, fs_to (.same (.iface (.junk 0 rfl dec_zero))) (show (.iface 47 (.chan (some 0)) : Value) = checkV fu co by first | exact (checkV_t ⟨⟨by assumption, by assumption⟩, fun i h => NoI.none (by assumption) hx ⟨i, h, ·⟩⟩).symm | exact (checkV_t ⟨⟨by assumption, by assumption⟩, fun i h q => NoI.none (by assumption) hx ⟨i, h, q⟩⟩).symm | exact (checkV_f (fun q => q.2 _ hx.1 hx.2)).symm | exact (checkV_f (fun q => absurd q.1.1 (by assumption))).symm | exact (checkV_f (fun q => absurd q.1.2 (by assumption))).symm), Nat.le_of_ble_eq_true (by kernel_rfl)⟩
noncomputable def con_check : Con Tryd.prog 1001 := Con.pure (α := Int × (List Code)) 24 (fun z9 => [.agg #[.int .i64 z9.1, inlL ccells 6 z9.2]]) (fun z9 => checkV z9.1 z9.2) (fun z9 => (z9.2.length ≤ 1000000)) (by
  rintro ⟨a0, a1⟩ ⟨b0, b1⟩ h
  simp only [List.cons.injEq, and_true, Int.natCast_inj, UInt8.toNat_inj, Value.int.injEq, Value.bool.injEq, Value.string.injEq, Value.agg.injEq, Array.mk.injEq, true_and, ccells_iff] at h
  first | exact h | (simp only [Prod.ext_iff, h, and_self, and_true, true_and]; done) | simp_all [Prod.ext_iff]) (fun _ => rfl) (fun z9 => checkV_clo z9.1 z9.2) 400 (by
  rintro ⟨a0, a1⟩ p0
  exact check_sc a0 a1 p0)
theorem con_check_at (fu : Int) (co : List Code) (h0 : co.length ≤ 1000000) (s : St) : con_check.rel [.agg #[.int .i64 fu, inlL ccells 6 co]] s (checkV fu co) s := con_pure (fu, co) h0 s
end Go.Proofs.YtgplkbfjlidinaaDoor