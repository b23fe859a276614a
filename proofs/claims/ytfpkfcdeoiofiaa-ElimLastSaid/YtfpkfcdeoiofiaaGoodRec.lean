/- Good records of values. -/
import Derived.Test.YtfpkfcdeoiofiaaElimLaw
set_option linter.unusedVariables false
set_option linter.unusedSimpArgs false
set_option linter.unnecessarySimpa false
namespace Go.Proofs.Ytfpkfcdeoiofiaa
open Go.Ai
theorem bare_fn : Try.cfg.fn 13 = some Try.f13 := by kernel_rfl
set_option maxHeartbeats 4000000 in
set_option maxRecDepth 100000 in
theorem bare_sc (sq : Int) (vl : Bool) (fu : Int) (co : List Code) (rs : List Key) (ss : List Span) (ws : List Key) (wr : List Wr) (h0 : co.length ≤ 1000000) (h1 : rs.length ≤ 1000000) (h2 : ss.length ≤ 1000000) (h3 : ws.length ≤ 1000000) (h4 : wr.length ≤ 1000000) : SC Try.prog 0 13 [.agg #[.int .i64 sq, .bool vl, .int .i64 fu, inlL ccells 6 co, inlL kcells 2 rs, inlL scells 3 ss, inlL kcells 2 ws, inlL wcells 4 wr]] (St.empty 0) fun v s' => v = .bool (decide (fu = 0 ∧ co.length = 0 ∧ rs.length + ss.length + ws.length = 0)) ∧ s'.n ≤ 400 := by
  have hS := sound_run Try.cfgOk 300
  refine sc_ice0 (N := 400) (v2 := .bool (decide (fu = 0 ∧ co.length = 0 ∧ rs.length + ss.length + ws.length = 0))) (Q := fun v s' => FS 0 s' v (.bool (decide (fu = 0 ∧ co.length = 0 ∧ rs.length + ss.length + ws.length = 0))) ∧ s'.n ≤ 400) ?_ (fun _ _ h => h)
  refine sc_body Try.cfgOk bare_fn rfl ?_
  refine sk_seq ?_
  refine kK Try.cfgOk hS ?_
  refine sk_seq ?_
  refine kK Try.cfgOk hS ?_
  refine sk_seq ?_
  refine sk_regionL Try.cfgOk hS ?_
  refine aK 3 ?_
  refine aT (fun h1 => ?_) (fun h1 => ?_)
  · have c2e : ((fu : Int) == 0) = true := Eq.trans (by kernel_rfl) h1
    clear h1
    have c2 : (fu : Int) = 0 := eq_of_beq c2e
    clear c2e
    refine aK 4 ?_
    refine aM (lenB Try.cfg (St.empty 0) 29 (inlL ccells 6 co)) (.int .i64 ((co.length : Nat) : Int)) (len_inl tokC (by kernel_rfl)) ?_
    refine aT (fun h3 => ?_) (fun h3 => ?_)
    · have c4e : ((((co.length : Nat) : Int) : Int) == 0) = true := Eq.trans (by kernel_rfl) h3
      clear h3
      have c4 : (((co.length : Nat) : Int) : Int) = 0 := eq_of_beq c4e
      clear c4e
      refine aK 4 ?_
      refine aM (lenB Try.cfg (St.empty 0) 32 (inlL kcells 2 rs)) (.int .i64 ((rs.length : Nat) : Int)) (len_inl tokC (by kernel_rfl)) ?_
      refine aK 2 ?_
      refine aM (lenB Try.cfg (St.empty 0) 33 (inlL scells 3 ss)) (.int .i64 ((ss.length : Nat) : Int)) (len_inl tokC (by kernel_rfl)) ?_
      refine aE (v := .int .i64 (IntKind.wrap .i64 (((rs.length : Nat) : Int) + ((ss.length : Nat) : Int)))) (.int .i64 ((rs.length + ss.length : Nat) : Int)) (congrArg (Value.int .i64) (wrap_to (by omega) (by omega))) ?_
      refine aK 2 ?_
      refine aM (lenB Try.cfg (St.empty 0) 32 (inlL kcells 2 ws)) (.int .i64 ((ws.length : Nat) : Int)) (len_inl tokC (by kernel_rfl)) ?_
      refine aE (v := .int .i64 (IntKind.wrap .i64 (((rs.length + ss.length : Nat) : Int) + ((ws.length : Nat) : Int)))) (.int .i64 ((rs.length + ss.length + ws.length : Nat) : Int)) (congrArg (Value.int .i64) (wrap_to (by omega) (by omega))) ?_
      refine aT (fun h5 => ?_) (fun h5 => ?_)
      · have c6e : ((((rs.length + ss.length + ws.length : Nat) : Int) : Int) == 0) = true := Eq.trans (by kernel_rfl) h5
        clear h5
        have c6 : (((rs.length + ss.length + ws.length : Nat) : Int) : Int) = 0 := eq_of_beq c6e
        clear c6e
        refine aN ?_
        refine sk_ret ?_
        exact ⟨[.bool true], by kernel_rfl, fs_to (fs_clo rfl) (congrArg Value.bool (by first | exact (decide_eq_true (by omega)).symm | exact (decide_eq_false (by omega)).symm)), Nat.le_of_ble_eq_true (by kernel_rfl)⟩
      · have c6e : ((((rs.length + ss.length + ws.length : Nat) : Int) : Int) == 0) = false := Eq.trans (by kernel_rfl) h5
        clear h5
        have c6 : ¬ (((rs.length + ss.length + ws.length : Nat) : Int) : Int) = 0 := ne_of_beq_false c6e
        clear c6e
        refine aN ?_
        refine sk_ret ?_
        exact ⟨[.bool false], by kernel_rfl, fs_to (fs_clo rfl) (congrArg Value.bool (by first | exact (decide_eq_true (by omega)).symm | exact (decide_eq_false (by omega)).symm)), Nat.le_of_ble_eq_true (by kernel_rfl)⟩
    · have c4e : ((((co.length : Nat) : Int) : Int) == 0) = false := Eq.trans (by kernel_rfl) h3
      clear h3
      have c4 : ¬ (((co.length : Nat) : Int) : Int) = 0 := ne_of_beq_false c4e
      clear c4e
      refine aN ?_
      refine sk_ret ?_
      exact ⟨[.bool false], by kernel_rfl, fs_to (fs_clo rfl) (congrArg Value.bool (by first | exact (decide_eq_true (by omega)).symm | exact (decide_eq_false (by omega)).symm)), Nat.le_of_ble_eq_true (by kernel_rfl)⟩
  · have c2e : ((fu : Int) == 0) = false := Eq.trans (by kernel_rfl) h1
    clear h1
    have c2 : ¬ (fu : Int) = 0 := ne_of_beq_false c2e
    clear c2e
    refine aN ?_
    refine sk_ret ?_
    exact ⟨[.bool false], by kernel_rfl, fs_to (fs_clo rfl) (congrArg Value.bool (by first | exact (decide_eq_true (by omega)).symm | exact (decide_eq_false (by omega)).symm)), Nat.le_of_ble_eq_true (by kernel_rfl)⟩
noncomputable def con_bare : Con Try.prog 0 := Con.pure (α := Int × Bool × Int × (List Code) × (List Key) × (List Span) × (List Key) × (List Wr)) 13 (fun z9 => [.agg #[.int .i64 z9.1, .bool z9.2.1, .int .i64 z9.2.2.1, inlL ccells 6 z9.2.2.2.1, inlL kcells 2 z9.2.2.2.2.1, inlL scells 3 z9.2.2.2.2.2.1, inlL kcells 2 z9.2.2.2.2.2.2.1, inlL wcells 4 z9.2.2.2.2.2.2.2]]) (fun z9 => .bool (decide (z9.2.2.1 = 0 ∧ z9.2.2.2.1.length = 0 ∧ z9.2.2.2.2.1.length + z9.2.2.2.2.2.1.length + z9.2.2.2.2.2.2.1.length = 0))) (fun z9 => (z9.2.2.2.1.length ≤ 1000000) ∧ (z9.2.2.2.2.1.length ≤ 1000000) ∧ (z9.2.2.2.2.2.1.length ≤ 1000000) ∧ (z9.2.2.2.2.2.2.1.length ≤ 1000000) ∧ (z9.2.2.2.2.2.2.2.length ≤ 1000000)) (by
  rintro ⟨a0, a1, a2, a3, a4, a5, a6, a7⟩ ⟨b0, b1, b2, b3, b4, b5, b6, b7⟩ h
  simp only [List.cons.injEq, and_true, Int.natCast_inj, UInt8.toNat_inj, Value.int.injEq, Value.bool.injEq, Value.string.injEq, Value.agg.injEq, Array.mk.injEq, true_and, ccells_iff, kcells_iff, scells_iff, wcells_iff] at h
  first | exact h | (simp only [Prod.ext_iff, h, and_self, and_true, true_and]; done) | simp_all [Prod.ext_iff]) (fun _ => rfl) (fun _ => rfl) 400 (by
  rintro ⟨a0, a1, a2, a3, a4, a5, a6, a7⟩ ⟨p0, p1, p2, p3, p4⟩
  exact bare_sc a0 a1 a2 a3 a4 a5 a6 a7 p0 p1 p2 p3 p4)
theorem con_bare_at (sq : Int) (vl : Bool) (fu : Int) (co : List Code) (rs : List Key) (ss : List Span) (ws : List Key) (wr : List Wr) (h0 : co.length ≤ 1000000) (h1 : rs.length ≤ 1000000) (h2 : ss.length ≤ 1000000) (h3 : ws.length ≤ 1000000) (h4 : wr.length ≤ 1000000) (s : St) : con_bare.rel [.agg #[.int .i64 sq, .bool vl, .int .i64 fu, inlL ccells 6 co, inlL kcells 2 rs, inlL scells 3 ss, inlL kcells 2 ws, inlL wcells 4 wr]] s (.bool (decide (fu = 0 ∧ co.length = 0 ∧ rs.length + ss.length + ws.length = 0))) s := con_pure (sq, vl, fu, co, rs, ss, ws, wr) ⟨h0, h1, h2, h3, h4⟩ s
/-- what is wrong at a place -/
def badW (l : List Wr) (i : Nat) : Prop := ∃ x, l[i]? = some x ∧ (¬ (0 ≤ x.1 ∧ x.1 < 4) ∨ x.2.2.2 = true ∧ ¬ x.2.2.1 = 0 ∨ 0 < i ∧ ∃ y, l[i - 1]? = some y ∧ ¬ (y.1 < x.1 ∨ y.1 = x.1 ∧ y.2.1 < x.2.1))
theorem badW_iff {l : List Wr} {i : Nat} {x : Wr} (hx : l[i]? = some x) : badW l i ↔ (¬ (0 ≤ x.1 ∧ x.1 < 4) ∨ x.2.2.2 = true ∧ ¬ x.2.2.1 = 0 ∨ 0 < i ∧ ∃ y, l[i - 1]? = some y ∧ ¬ (y.1 < x.1 ∨ y.1 = x.1 ∧ y.2.1 < x.2.1)) :=
  ⟨fun ⟨z, h1, h2⟩ => by rw [hx] at h1; obtain rfl := Option.some.inj h1; exact h2, fun h => ⟨x, hx, h⟩⟩
theorem badW_iff2 {l : List Wr} {i : Nat} {x y : Wr} (hx : l[i]? = some x) (hy : l[i - 1]? = some y) : badW l i ↔ (¬ (0 ≤ x.1 ∧ x.1 < 4) ∨ x.2.2.2 = true ∧ ¬ x.2.2.1 = 0 ∨ 0 < i ∧ ¬ (y.1 < x.1 ∨ y.1 = x.1 ∧ y.2.1 < x.2.1)) := by
  rw [badW_iff hx, hy]
  simp only [Option.some.injEq, exists_eq_left']
abbrev risW (l : List Wr) : Prop := ¬ ∃ i, i < l.length ∧ badW l i
theorem badW_no1 {l : List Wr} {i : Nat} {x : Wr} (hx : l[i]? = some x) (h1 : 0 ≤ x.1 ∧ x.1 < 4) (h2 : x.2.2.2 = false ∨ x.2.2.1 = 0) (h3 : ¬ 0 < i) : ¬ badW l i := by
  rw [badW_iff hx]
  rintro (h | ⟨h, h'⟩ | ⟨h, _⟩)
  · exact h h1
  · rcases h2 with q | q
    · rw [q] at h; cases h
    · exact h' q
  · exact h3 h
theorem badW_no2 {l : List Wr} {i : Nat} {x y : Wr} (hx : l[i]? = some x) (hy : l[i - 1]? = some y) (h1 : 0 ≤ x.1 ∧ x.1 < 4) (h2 : x.2.2.2 = false ∨ x.2.2.1 = 0) (h3 : y.1 < x.1 ∨ y.1 = x.1 ∧ y.2.1 < x.2.1) : ¬ badW l i := by
  rw [badW_iff2 hx hy]
  rintro (h | ⟨h, h'⟩ | ⟨_, h⟩)
  · exact h h1
  · rcases h2 with q | q
    · rw [q] at h; cases h
    · exact h' q
  · exact h h3
theorem badW_y1 {l : List Wr} {i : Nat} {x : Wr} (hx : l[i]? = some x) (h : ¬ (0 ≤ x.1 ∧ x.1 < 4)) : badW l i := (badW_iff hx).2 (.inl h)
theorem badW_y2 {l : List Wr} {i : Nat} {x : Wr} (hx : l[i]? = some x) (h : x.2.2.2 = true) (h' : ¬ x.2.2.1 = 0) : badW l i := (badW_iff hx).2 (.inr (.inl ⟨h, h'⟩))
theorem badW_y3 {l : List Wr} {i : Nat} {x y : Wr} (hx : l[i]? = some x) (hy : l[i - 1]? = some y) (h0 : 0 < i) (h : ¬ (y.1 < x.1 ∨ y.1 = x.1 ∧ y.2.1 < x.2.1)) : badW l i := (badW_iff2 hx hy).2 (.inr (.inr ⟨h0, h⟩))
theorem risingW_fn : Try.cfg.fn 14 = some Try.f14 := by kernel_rfl
set_option maxHeartbeats 4000000 in
set_option maxRecDepth 100000 in
theorem risingW_sc (l : List Wr) (h0 : l.length ≤ 1000000) : SC Try.prog 0 14 [inlL wcells 4 l] (St.empty 0) fun v s' => v = .bool (tf (risW l)) ∧ s'.n ≤ 400 := by
  obtain ⟨rc, hS, hC⟩ := rc_con (sound_run Try.cfgOk 300) [con_lessP] (by kernel_rfl)
  have hC19 := hC con_lessP (.head _)
  refine sc_ice0 (N := 400) (v2 := .bool (tf (risW l))) (Q := fun v s' => FS 0 s' v (.bool (tf (risW l))) ∧ s'.n ≤ 400) ?_ (fun _ _ h => h)
  refine sc_body Try.cfgOk risingW_fn rfl ?_
  refine sk_seq ?_
  refine kK Try.cfgOk hS ?_
  refine sk_seq (sk_seq ?_)
  refine sk_regionL Try.cfgOk hS ?_
  refine aK 1 ?_
  refine aM (lenB Try.cfg (St.empty 0) 36 (inlL wcells 4 l)) (.int .i64 ((l.length : Nat) : Int)) (len_inl tokC (by kernel_rfl)) ?_
  refine aN ?_
  refine sk_block ?_
  refine sk_live 48 ((fun a : Nat => [(0, inlL wcells 4 l), (5, inlL wcells 4 l), (6, .int .i64 ((l.length : Nat) : Int)), (7, .int .i64 ((a : Nat) : Int))]) 0) (by kernel_rfl) ⟨by kernel_rfl, by kernel_rfl, by kernel_rfl, by kernel_rfl, trivial⟩ fun m1 => ?_
  refine sk_st ((fun a : Nat => (St.empty 0)) 0) (by kernel_rfl) ?_
  refine (sk_while (k := 0) (N := 400) (live := (fun a : Nat => [(0, inlL wcells 4 l), (5, inlL wcells 4 l), (6, .int .i64 ((l.length : Nat) : Int)), (7, .int .i64 ((a : Nat) : Int))])) (M := (fun a : Nat => (St.empty 0))) (fun a : Nat => (a ≤ l.length) ∧ (NoI (fun a : Nat => badW l a) a)) (fun a : Nat => l.length - a) (fun (a : Nat) (o : Out) (lv : List (Nat × Value)) (M : St) => (o = .exit 0 ∧ (¬ a < l.length) ∧ lv = [(0, inlL wcells 4 l), (5, inlL wcells 4 l), (6, .int .i64 ((l.length : Nat) : Int)), (7, .int .i64 ((a : Nat) : Int))] ∧ M = (St.empty 0)) ∨ (o = .ret ∧ (a < l.length ∧ (badW l a)) ∧ lv = [(2, .bool false)] ∧ M = (St.empty 0))) (Nat.zero_le _) (fun a ha => ?_) (fun a ha => ?_) (fun a m ha => ?_) (fun a m ha => ?_) 0 m1 ?_).up ?_
  · exact ⟨by kernel_rfl, (wf_empty 0), (fun i hi => absurd hi (Nat.not_lt_zero i))⟩
  · exact ⟨sub_clo rfl, sub_clo rfl, sub_clo rfl, sub_clo rfl, trivial⟩
  · exact ⟨by kernel_rfl, by kernel_rfl, by kernel_rfl, by kernel_rfl, trivial⟩
  · obtain ⟨i, ea⟩ : ∃ z, z = a := ⟨_, rfl⟩
    subst ea
    obtain ⟨i0, i1⟩ := ha
    refine sk_seq ?_
    refine sk_regionL Try.cfgOk hS ?_
    refine aT (fun h2 => ?_) (fun h2 => ?_)
    · have c3e : (decide ((((i : Nat) : Int) : Int) < ((l.length : Nat) : Int))) = true := Eq.trans (by kernel_rfl) h2
      clear h2
      have c3 : (((i : Nat) : Int) : Int) < ((l.length : Nat) : Int) := of_decide_eq_true c3e
      clear c3e
      refine al_nil ?_
      refine sk_seq ?_
      refine kT ?_
      refine sk_skip (sk_seq (sk_block (sk_seq ?_)))
      refine sk_regionL Try.cfgOk hS ?_
      refine aK 1 ?_
      refine aM (indexAddrV Try.cfg 36 (inlL wcells 4 l) (.int .i64 ((i : Nat) : Int))) (elt (flatL wcells l) (i * 4)) (idx_inlL tokC (by kernel_rfl) (by first | omega | simp)) ?_
      have hx4l : i < l.length := by omega
      refine Exists.elim (get_ex hx4l) fun x4 hx4 => ?_
      clear hx4l
      refine aM (loadV Try.cfg (St.empty 0) 45 (elt (flatL wcells l) (i * 4))) (.agg #[.int .i64 x4.1, .int .i64 x4.2.1, .int .i64 x4.2.2.1, .bool x4.2.2.2]) (load_el tokC (by kernel_rfl) wcells_len hx4) ?_
      refine aN ?_
      refine sk_seq ?_
      refine sk_drawL Try.cfgOk hS ?_
      refine dK 3 ?_
      refine dT (fun h5 => ?_) (fun h5 => ?_)
      · have c6e : (decide ((x4.1 : Int) < 0)) = true := Eq.trans (by kernel_rfl) h5
        clear h5
        have c6 : (x4.1 : Int) < 0 := of_decide_eq_true c6e
        clear c6e
        refine dK 31 ?_
        refine ald_nil ?_
        refine kT ?_
        refine sk_seq ?_
        refine kK Try.cfgOk hS ?_
        refine sk_ret ?_
        refine .inr ⟨_, _, (fun h => by cases h), .inr ⟨rfl, ?_, rfl, rfl⟩, ⟨by kernel_rfl, ⟨by kernel_rfl, trivial⟩, ⟨sub_clo rfl, trivial⟩, Nat.le_of_ble_eq_true (by kernel_rfl), ⟨by kernel_rfl, (wf_empty 0), (fun i hi => absurd hi (Nat.not_lt_zero i))⟩, mem_all (by kernel_rfl)⟩⟩
        · refine ⟨by omega, ?_⟩; first | exact badW_y3 (by assumption) (by assumption) (by omega) (by assumption) | exact badW_y2 (by assumption) (by assumption) (by assumption) | exact badW_y1 (by assumption) (by omega)
      · have c6e : (decide ((x4.1 : Int) < 0)) = false := Eq.trans (by kernel_rfl) h5
        clear h5
        have c6 : ¬ (x4.1 : Int) < 0 := of_decide_eq_false c6e
        clear c6e
        refine dK 4 ?_
        refine dT (fun h7 => ?_) (fun h7 => ?_)
        · have c8e : (decide ((x4.1 : Int) ≥ 4)) = true := Eq.trans (by kernel_rfl) h7
          clear h7
          have c8 : (x4.1 : Int) ≥ 4 := of_decide_eq_true c8e
          clear c8e
          refine dK 26 ?_
          refine ald_nil ?_
          refine kT ?_
          refine sk_seq ?_
          refine kK Try.cfgOk hS ?_
          refine sk_ret ?_
          refine .inr ⟨_, _, (fun h => by cases h), .inr ⟨rfl, ?_, rfl, rfl⟩, ⟨by kernel_rfl, ⟨by kernel_rfl, trivial⟩, ⟨sub_clo rfl, trivial⟩, Nat.le_of_ble_eq_true (by kernel_rfl), ⟨by kernel_rfl, (wf_empty 0), (fun i hi => absurd hi (Nat.not_lt_zero i))⟩, mem_all (by kernel_rfl)⟩⟩
          · refine ⟨by omega, ?_⟩; first | exact badW_y3 (by assumption) (by assumption) (by omega) (by assumption) | exact badW_y2 (by assumption) (by assumption) (by assumption) | exact badW_y1 (by assumption) (by omega)
        · have c8e : (decide ((x4.1 : Int) ≥ 4)) = false := Eq.trans (by kernel_rfl) h7
          clear h7
          have c8 : ¬ (x4.1 : Int) ≥ 4 := of_decide_eq_false c8e
          clear c8e
          refine dK 3 ?_
          refine ald_mapB (loadV Try.cfg ((St.empty 0).new (.cells [.int .i64 x4.1, .int .i64 x4.2.1, .int .i64 x4.2.2.1, .bool x4.2.2.2])) 4 (.pointer (some ⟨0, 3, none⟩))) (x4.2.2.2) (by kernel_rfl) (by kernel_rfl) (by kernel_rfl) (by kernel_rfl) (fun b => by kernel_rfl) (fun c9 => ?_) (fun c9 => ?_)
          ·
            refine dK 3 ?_
            refine dT (fun h10 => ?_) (fun h10 => ?_)
            · have c11e : ((x4.2.2.1 : Int) != 0) = true := Eq.trans (by kernel_rfl) h10
              clear h10
              have c11 : ¬ (x4.2.2.1 : Int) = 0 := bne_iff_ne.1 c11e
              clear c11e
              refine dK 18 ?_
              refine ald_nil ?_
              refine kT ?_
              refine sk_seq ?_
              refine kK Try.cfgOk hS ?_
              refine sk_ret ?_
              refine .inr ⟨_, _, (fun h => by cases h), .inr ⟨rfl, ?_, rfl, rfl⟩, ⟨by kernel_rfl, ⟨by kernel_rfl, trivial⟩, ⟨sub_clo rfl, trivial⟩, Nat.le_of_ble_eq_true (by kernel_rfl), ⟨by kernel_rfl, (wf_empty 0), (fun i hi => absurd hi (Nat.not_lt_zero i))⟩, mem_all (by kernel_rfl)⟩⟩
              · refine ⟨by omega, ?_⟩; first | exact badW_y3 (by assumption) (by assumption) (by omega) (by assumption) | exact badW_y2 (by assumption) (by assumption) (by assumption) | exact badW_y1 (by assumption) (by omega)
            · have c11e : ((x4.2.2.1 : Int) != 0) = false := Eq.trans (by kernel_rfl) h10
              clear h10
              have c11 : (x4.2.2.1 : Int) = 0 := bne_eq_false_iff_eq.1 c11e
              clear c11e
              refine dK 4 ?_
              refine dT (fun h12 => ?_) (fun h12 => ?_)
              · have c13e : (decide ((((i : Nat) : Int) : Int) > 0)) = true := Eq.trans (by kernel_rfl) h12
                clear h12
                have c13 : (((i : Nat) : Int) : Int) > 0 := of_decide_eq_true c13e
                clear c13e
                refine dK 3 ?_
                refine dE (v := .int .i64 (IntKind.wrap .i64 (((i : Nat) : Int) - 1))) (.int .i64 ((i - 1 : Nat) : Int)) (congrArg (Value.int .i64) (wrap_to (by omega) (by omega))) ?_
                refine dM (indexAddrV Try.cfg 36 (inlL wcells 4 l) (.int .i64 ((i - 1 : Nat) : Int))) (elt (flatL wcells l) ((i - 1) * 4)) (idx_inlL tokC (by kernel_rfl) (by first | omega | simp)) ?_
                refine dM (fieldAddrV Try.cfg 45 (elt (flatL wcells l) ((i - 1) * 4)) 0) (elt (flatL wcells l) ((i - 1) * 4)) (fld_elt (o := (i - 1) * 4) (off := 0) tokC (by kernel_rfl)) ?_
                have hx14l : (i - 1) < l.length := by omega
                refine Exists.elim (get_ex hx14l) fun x14 hx14 => ?_
                clear hx14l
                refine dM (loadV Try.cfg (St.empty 0) 43 (elt (flatL wcells l) ((i - 1) * 4))) (.agg #[.int .i64 x14.1, .int .i64 x14.2.1]) ((load_part tokC (t := 43) (s := St.empty 0) (i := (i - 1)) (o := 0) (w := 2) (sz := 4) (y := (i - 1) * 4) rfl (by kernel_rfl) wcells_len (by decide) hx14).trans (by kernel_rfl)) ?_
                refine dK 2 ?_
                refine dB 19 [.agg #[.int .i64 x14.1, .int .i64 x14.2.1], .agg #[.int .i64 x4.1, .int .i64 x4.2.1]] (decide (x14.1 < x4.1 ∨ x14.1 = x4.1 ∧ x14.2.1 < x4.2.1)) _ rfl (hC19 _ _ _ _ (con_lessP_at x14.1 x14.2.1 x4.1 x4.2.1  _)) (fun h15 => ?_) (fun h15 => ?_)
                · have c16 : x14.1 < x4.1 ∨ x14.1 = x4.1 ∧ x14.2.1 < x4.2.1 := of_decide_eq_true h15
                  clear h15
                  refine dK 3 ?_
                  refine ald_nil ?_
                  refine kF ?_
                  refine sk_skip ?_
                  refine sk_regionL Try.cfgOk hS ?_
                  refine aE (v := .int .i64 (IntKind.wrap .i64 (((i : Nat) : Int) + 1))) (.int .i64 ((i + 1 : Nat) : Int)) (congrArg (Value.int .i64) (wrap_to (by omega) (by omega))) ?_
                  refine aN ?_
                  refine .inl ⟨i + 1, rfl, ⟨?_, ?_⟩, ?_, ⟨by kernel_rfl, ⟨by kernel_rfl, by kernel_rfl, by kernel_rfl, by kernel_rfl, trivial⟩, ⟨sub_clo rfl, sub_clo rfl, sub_clo rfl, sub_clo rfl, trivial⟩, Nat.le_of_ble_eq_true (by kernel_rfl), ⟨by kernel_rfl, (wf_empty 0), (fun i hi => absurd hi (Nat.not_lt_zero i))⟩, mem_all (by kernel_rfl)⟩⟩
                  · (try dsimp only); omega
                  · (try dsimp only); exact NoI.succ (p := (fun i : Nat => badW l i)) (by assumption) (by first | exact badW_no2 (by assumption) (by assumption) (by omega) (by first | exact .inl (by assumption) | exact .inr (by assumption)) (by assumption) | exact badW_no1 (by assumption) (by omega) (by first | exact .inl (by assumption) | exact .inr (by assumption)) (by omega))
                  · omega
                · have c16 : ¬ (x14.1 < x4.1 ∨ x14.1 = x4.1 ∧ x14.2.1 < x4.2.1) := of_decide_eq_false h15
                  clear h15
                  refine dK 3 ?_
                  refine ald_nil ?_
                  refine kT ?_
                  refine sk_seq ?_
                  refine kK Try.cfgOk hS ?_
                  refine sk_ret ?_
                  refine .inr ⟨_, _, (fun h => by cases h), .inr ⟨rfl, ?_, rfl, rfl⟩, ⟨by kernel_rfl, ⟨by kernel_rfl, trivial⟩, ⟨sub_clo rfl, trivial⟩, Nat.le_of_ble_eq_true (by kernel_rfl), ⟨by kernel_rfl, (wf_empty 0), (fun i hi => absurd hi (Nat.not_lt_zero i))⟩, mem_all (by kernel_rfl)⟩⟩
                  · refine ⟨by omega, ?_⟩; first | exact badW_y3 (by assumption) (by assumption) (by omega) (by assumption) | exact badW_y2 (by assumption) (by assumption) (by assumption) | exact badW_y1 (by assumption) (by omega)
              · have c13e : (decide ((((i : Nat) : Int) : Int) > 0)) = false := Eq.trans (by kernel_rfl) h12
                clear h12
                have c13 : ¬ (((i : Nat) : Int) : Int) > 0 := of_decide_eq_false c13e
                clear c13e
                refine dK 13 ?_
                refine ald_nil ?_
                refine kF ?_
                refine sk_skip ?_
                refine sk_regionL Try.cfgOk hS ?_
                refine aE (v := .int .i64 (IntKind.wrap .i64 (((i : Nat) : Int) + 1))) (.int .i64 ((i + 1 : Nat) : Int)) (congrArg (Value.int .i64) (wrap_to (by omega) (by omega))) ?_
                refine aN ?_
                refine .inl ⟨i + 1, rfl, ⟨?_, ?_⟩, ?_, ⟨by kernel_rfl, ⟨by kernel_rfl, by kernel_rfl, by kernel_rfl, by kernel_rfl, trivial⟩, ⟨sub_clo rfl, sub_clo rfl, sub_clo rfl, sub_clo rfl, trivial⟩, Nat.le_of_ble_eq_true (by kernel_rfl), ⟨by kernel_rfl, (wf_empty 0), (fun i hi => absurd hi (Nat.not_lt_zero i))⟩, mem_all (by kernel_rfl)⟩⟩
                · (try dsimp only); omega
                · (try dsimp only); exact NoI.succ (p := (fun i : Nat => badW l i)) (by assumption) (by first | exact badW_no2 (by assumption) (by assumption) (by omega) (by first | exact .inl (by assumption) | exact .inr (by assumption)) (by assumption) | exact badW_no1 (by assumption) (by omega) (by first | exact .inl (by assumption) | exact .inr (by assumption)) (by omega))
                · omega
          ·
            refine dK 8 ?_
            refine dT (fun h17 => ?_) (fun h17 => ?_)
            · have c18e : (decide ((((i : Nat) : Int) : Int) > 0)) = true := Eq.trans (by kernel_rfl) h17
              clear h17
              have c18 : (((i : Nat) : Int) : Int) > 0 := of_decide_eq_true c18e
              clear c18e
              refine dK 3 ?_
              refine dE (v := .int .i64 (IntKind.wrap .i64 (((i : Nat) : Int) - 1))) (.int .i64 ((i - 1 : Nat) : Int)) (congrArg (Value.int .i64) (wrap_to (by omega) (by omega))) ?_
              refine dM (indexAddrV Try.cfg 36 (inlL wcells 4 l) (.int .i64 ((i - 1 : Nat) : Int))) (elt (flatL wcells l) ((i - 1) * 4)) (idx_inlL tokC (by kernel_rfl) (by first | omega | simp)) ?_
              refine dM (fieldAddrV Try.cfg 45 (elt (flatL wcells l) ((i - 1) * 4)) 0) (elt (flatL wcells l) ((i - 1) * 4)) (fld_elt (o := (i - 1) * 4) (off := 0) tokC (by kernel_rfl)) ?_
              have hx19l : (i - 1) < l.length := by omega
              refine Exists.elim (get_ex hx19l) fun x19 hx19 => ?_
              clear hx19l
              refine dM (loadV Try.cfg (St.empty 0) 43 (elt (flatL wcells l) ((i - 1) * 4))) (.agg #[.int .i64 x19.1, .int .i64 x19.2.1]) ((load_part tokC (t := 43) (s := St.empty 0) (i := (i - 1)) (o := 0) (w := 2) (sz := 4) (y := (i - 1) * 4) rfl (by kernel_rfl) wcells_len (by decide) hx19).trans (by kernel_rfl)) ?_
              refine dK 2 ?_
              refine dB 19 [.agg #[.int .i64 x19.1, .int .i64 x19.2.1], .agg #[.int .i64 x4.1, .int .i64 x4.2.1]] (decide (x19.1 < x4.1 ∨ x19.1 = x4.1 ∧ x19.2.1 < x4.2.1)) _ rfl (hC19 _ _ _ _ (con_lessP_at x19.1 x19.2.1 x4.1 x4.2.1  _)) (fun h20 => ?_) (fun h20 => ?_)
              · have c21 : x19.1 < x4.1 ∨ x19.1 = x4.1 ∧ x19.2.1 < x4.2.1 := of_decide_eq_true h20
                clear h20
                refine dK 3 ?_
                refine ald_nil ?_
                refine kF ?_
                refine sk_skip ?_
                refine sk_regionL Try.cfgOk hS ?_
                refine aE (v := .int .i64 (IntKind.wrap .i64 (((i : Nat) : Int) + 1))) (.int .i64 ((i + 1 : Nat) : Int)) (congrArg (Value.int .i64) (wrap_to (by omega) (by omega))) ?_
                refine aN ?_
                refine .inl ⟨i + 1, rfl, ⟨?_, ?_⟩, ?_, ⟨by kernel_rfl, ⟨by kernel_rfl, by kernel_rfl, by kernel_rfl, by kernel_rfl, trivial⟩, ⟨sub_clo rfl, sub_clo rfl, sub_clo rfl, sub_clo rfl, trivial⟩, Nat.le_of_ble_eq_true (by kernel_rfl), ⟨by kernel_rfl, (wf_empty 0), (fun i hi => absurd hi (Nat.not_lt_zero i))⟩, mem_all (by kernel_rfl)⟩⟩
                · (try dsimp only); omega
                · (try dsimp only); exact NoI.succ (p := (fun i : Nat => badW l i)) (by assumption) (by first | exact badW_no2 (by assumption) (by assumption) (by omega) (by first | exact .inl (by assumption) | exact .inr (by assumption)) (by assumption) | exact badW_no1 (by assumption) (by omega) (by first | exact .inl (by assumption) | exact .inr (by assumption)) (by omega))
                · omega
              · have c21 : ¬ (x19.1 < x4.1 ∨ x19.1 = x4.1 ∧ x19.2.1 < x4.2.1) := of_decide_eq_false h20
                clear h20
                refine dK 3 ?_
                refine ald_nil ?_
                refine kT ?_
                refine sk_seq ?_
                refine kK Try.cfgOk hS ?_
                refine sk_ret ?_
                refine .inr ⟨_, _, (fun h => by cases h), .inr ⟨rfl, ?_, rfl, rfl⟩, ⟨by kernel_rfl, ⟨by kernel_rfl, trivial⟩, ⟨sub_clo rfl, trivial⟩, Nat.le_of_ble_eq_true (by kernel_rfl), ⟨by kernel_rfl, (wf_empty 0), (fun i hi => absurd hi (Nat.not_lt_zero i))⟩, mem_all (by kernel_rfl)⟩⟩
                · refine ⟨by omega, ?_⟩; first | exact badW_y3 (by assumption) (by assumption) (by omega) (by assumption) | exact badW_y2 (by assumption) (by assumption) (by assumption) | exact badW_y1 (by assumption) (by omega)
            · have c18e : (decide ((((i : Nat) : Int) : Int) > 0)) = false := Eq.trans (by kernel_rfl) h17
              clear h17
              have c18 : ¬ (((i : Nat) : Int) : Int) > 0 := of_decide_eq_false c18e
              clear c18e
              refine dK 13 ?_
              refine ald_nil ?_
              refine kF ?_
              refine sk_skip ?_
              refine sk_regionL Try.cfgOk hS ?_
              refine aE (v := .int .i64 (IntKind.wrap .i64 (((i : Nat) : Int) + 1))) (.int .i64 ((i + 1 : Nat) : Int)) (congrArg (Value.int .i64) (wrap_to (by omega) (by omega))) ?_
              refine aN ?_
              refine .inl ⟨i + 1, rfl, ⟨?_, ?_⟩, ?_, ⟨by kernel_rfl, ⟨by kernel_rfl, by kernel_rfl, by kernel_rfl, by kernel_rfl, trivial⟩, ⟨sub_clo rfl, sub_clo rfl, sub_clo rfl, sub_clo rfl, trivial⟩, Nat.le_of_ble_eq_true (by kernel_rfl), ⟨by kernel_rfl, (wf_empty 0), (fun i hi => absurd hi (Nat.not_lt_zero i))⟩, mem_all (by kernel_rfl)⟩⟩
              · (try dsimp only); omega
              · (try dsimp only); exact NoI.succ (p := (fun i : Nat => badW l i)) (by assumption) (by first | exact badW_no2 (by assumption) (by assumption) (by omega) (by first | exact .inl (by assumption) | exact .inr (by assumption)) (by assumption) | exact badW_no1 (by assumption) (by omega) (by first | exact .inl (by assumption) | exact .inr (by assumption)) (by omega))
              · omega
    · have c3e : (decide ((((i : Nat) : Int) : Int) < ((l.length : Nat) : Int))) = false := Eq.trans (by kernel_rfl) h2
      clear h2
      have c3 : ¬ (((i : Nat) : Int) : Int) < ((l.length : Nat) : Int) := of_decide_eq_false c3e
      clear c3e
      refine al_nil ?_
      refine sk_seq ?_
      refine kF ?_
      refine sk_exit ?_
      dsimp only
      refine .inr ⟨_, _, (fun h => by cases h), .inl ⟨rfl, ?_, rfl, rfl⟩, ⟨by kernel_rfl, ⟨by kernel_rfl, by kernel_rfl, by kernel_rfl, by kernel_rfl, trivial⟩, ⟨sub_clo rfl, sub_clo rfl, sub_clo rfl, sub_clo rfl, trivial⟩, Nat.le_of_ble_eq_true (by kernel_rfl), ⟨by kernel_rfl, (wf_empty 0), (fun i hi => absurd hi (Nat.not_lt_zero i))⟩, mem_all (by kernel_rfl)⟩⟩
      · omega
  · exact ⟨by ((try dsimp only); first | done | (omega)), by ((try dsimp only); first | done | (exact NoI.zero))⟩
  rintro o e1 s1 ⟨a, lv1, M1, m1, ha, (⟨rfl, hx, rfl, rfl⟩ | ⟨rfl, hx, rfl, rfl⟩), rfl, rfl⟩
  ·
    obtain ⟨i, ea⟩ : ∃ z, z = a := ⟨_, rfl⟩
    subst ea
    obtain ⟨i0, i1⟩ := ha
    dsimp only
    try rw [if_pos rfl]
    refine sk_seq ?_
    refine kK Try.cfgOk hS ?_
    refine sk_ret ?_
    exact ⟨[.bool true], by kernel_rfl, fs_to (fs_clo rfl) (congrArg Value.bool (by first | exact (tf_false (fun h => h ⟨_, hx.1, hx.2⟩)).symm | exact (tf_true (NoI.none (by assumption) hx)).symm)), Nat.le_of_ble_eq_true (by kernel_rfl)⟩
  ·
    obtain ⟨i, ea⟩ : ∃ z, z = a := ⟨_, rfl⟩
    subst ea
    obtain ⟨i0, i1⟩ := ha
    dsimp only
    exact ⟨[.bool false], by kernel_rfl, fs_to (fs_clo rfl) (congrArg Value.bool (by first | exact (tf_false (fun h => h ⟨_, hx.1, hx.2⟩)).symm | exact (tf_true (NoI.none (by assumption) hx)).symm)), Nat.le_of_ble_eq_true (by kernel_rfl)⟩
noncomputable def con_risingW : Con Try.prog 0 := Con.pure (α := (List Wr)) 14 (fun z9 => [inlL wcells 4 z9]) (fun z9 => .bool (tf (risW z9))) (fun z9 => (z9.length ≤ 1000000)) (by
  intro x y h
  simp only [List.cons.injEq, and_true, Int.natCast_inj, UInt8.toNat_inj, Value.int.injEq, Value.bool.injEq, Value.string.injEq, Value.agg.injEq, Array.mk.injEq, true_and, wcells_iff] at h
  first | exact h | (simp only [Prod.ext_iff, h, and_self, and_true, true_and]; done) | simp_all [Prod.ext_iff]) (fun _ => rfl) (fun _ => rfl) 400 (by
  rintro x p0
  exact risingW_sc x p0)
theorem con_risingW_at (l : List Wr) (h0 : l.length ≤ 1000000) (s : St) : con_risingW.rel [inlL wcells 4 l] s (.bool (tf (risW l))) s := con_pure l h0 s
theorem rgood_fn : Try.cfg.fn 9 = some Try.f9 := by kernel_rfl
set_option maxHeartbeats 4000000 in
set_option maxRecDepth 100000 in
theorem rgood_sc (sq : Int) (vl : Bool) (fu : Int) (co : List Code) (rs : List Key) (ss : List Span) (ws : List Key) (wr : List Wr) (h0 : vl = true) (h1 : co.length ≤ 1000000) (h2 : rs.length ≤ 1000000) (h3 : ss.length ≤ 1000000) (h4 : ws.length ≤ 1000000) (h5 : wr.length ≤ 1000000) : SC Try.prog 0 9 [.agg #[.int .i64 sq, .bool vl, .int .i64 fu, inlL ccells 6 co, inlL kcells 2 rs, inlL scells 3 ss, inlL kcells 2 ws, inlL wcells 4 wr]] (St.empty 0) fun v s' => v = .bool (tf ((1 ≤ sq ∧ sq ≤ 281474976710655) ∧ (fu = 0 ∧ co.length = 0 ∧ rs.length + ss.length + ws.length = 0) ∧ risW wr)) ∧ s'.n ≤ 400 := by
  obtain ⟨rc, hS, hC⟩ := rc_con (sound_run Try.cfgOk 300) [con_bare, con_risingW] (by kernel_rfl)
  have hC13 := hC con_bare (.head _)
  have hC14 := hC con_risingW (.tail _ (.head _))
  cases vl
  · exact absurd h0 (by decide)
  ·
    refine sc_ice0 (N := 400) (v2 := .bool (tf ((1 ≤ sq ∧ sq ≤ 281474976710655) ∧ (fu = 0 ∧ co.length = 0 ∧ rs.length + ss.length + ws.length = 0) ∧ risW wr))) (Q := fun v s' => FS 0 s' v (.bool (tf ((1 ≤ sq ∧ sq ≤ 281474976710655) ∧ (fu = 0 ∧ co.length = 0 ∧ rs.length + ss.length + ws.length = 0) ∧ risW wr))) ∧ s'.n ≤ 400) ?_ (fun _ _ h => h)
    refine sc_body Try.cfgOk rgood_fn rfl ?_
    refine sk_seq ?_
    refine kK Try.cfgOk hS ?_
    refine sk_seq (sk_seq ?_)
    refine sk_regionL Try.cfgOk hS ?_
    refine aK 2 ?_
    refine aT (fun h1 => ?_) (fun h1 => ?_)
    · have c2e : (decide ((sq : Int) < 1)) = true := Eq.trans (by kernel_rfl) h1
      clear h1
      have c2 : (sq : Int) < 1 := of_decide_eq_true c2e
      clear c2e
      refine aN ?_
      refine kT ?_
      refine sk_seq ?_
      refine kK Try.cfgOk hS ?_
      refine sk_ret ?_
      exact ⟨[.bool false], by kernel_rfl, fs_to (fs_clo rfl) (congrArg Value.bool (by first | exact (tf_true ⟨by omega, by assumption, by assumption⟩).symm | exact (tf_false (fun h => absurd h.1 (by omega))).symm | exact (tf_false (fun h => absurd h.2.1 (by assumption))).symm | exact (tf_false (fun h => absurd h.2.2 (by assumption))).symm)), Nat.le_of_ble_eq_true (by kernel_rfl)⟩
    · have c2e : (decide ((sq : Int) < 1)) = false := Eq.trans (by kernel_rfl) h1
      clear h1
      have c2 : ¬ (sq : Int) < 1 := of_decide_eq_false c2e
      clear c2e
      refine aK 3 ?_
      refine aT (fun h3 => ?_) (fun h3 => ?_)
      · have c4e : (decide ((sq : Int) > 281474976710655)) = true := Eq.trans (by kernel_rfl) h3
        clear h3
        have c4 : (sq : Int) > 281474976710655 := of_decide_eq_true c4e
        clear c4e
        refine aN ?_
        refine kT ?_
        refine sk_seq ?_
        refine kK Try.cfgOk hS ?_
        refine sk_ret ?_
        exact ⟨[.bool false], by kernel_rfl, fs_to (fs_clo rfl) (congrArg Value.bool (by first | exact (tf_true ⟨by omega, by assumption, by assumption⟩).symm | exact (tf_false (fun h => absurd h.1 (by omega))).symm | exact (tf_false (fun h => absurd h.2.1 (by assumption))).symm | exact (tf_false (fun h => absurd h.2.2 (by assumption))).symm)), Nat.le_of_ble_eq_true (by kernel_rfl)⟩
      · have c4e : (decide ((sq : Int) > 281474976710655)) = false := Eq.trans (by kernel_rfl) h3
        clear h3
        have c4 : ¬ (sq : Int) > 281474976710655 := of_decide_eq_false c4e
        clear c4e
        refine aN ?_
        refine kF ?_
        refine sk_skip (sk_seq (sk_seq ?_))
        refine kK Try.cfgOk hS ?_
        refine kT ?_
        refine sk_seq ?_
        refine sk_regionL Try.cfgOk hS ?_
        refine aK 1 ?_
        refine aB 13 [.agg #[.int .i64 sq, .bool true, .int .i64 fu, inlL ccells 6 co, inlL kcells 2 rs, inlL scells 3 ss, inlL kcells 2 ws, inlL wcells 4 wr]] (decide (fu = 0 ∧ co.length = 0 ∧ rs.length + ss.length + ws.length = 0)) _ rfl (hC13 _ _ _ _ (con_bare_at sq true fu co rs ss ws wr (by first | omega | (simp; done) | (simp; omega)) (by first | omega | (simp; done) | (simp; omega)) (by first | omega | (simp; done) | (simp; omega)) (by first | omega | (simp; done) | (simp; omega)) (by first | omega | (simp; done) | (simp; omega)) _)) (fun h5 => ?_) (fun h5 => ?_)
        · have c6 : fu = 0 ∧ co.length = 0 ∧ rs.length + ss.length + ws.length = 0 := of_decide_eq_true h5
          clear h5
          refine aK 3 ?_
          refine aB 14 [inlL wcells 4 wr] (tf (risW wr)) _ rfl (hC14 _ _ _ _ (con_risingW_at wr (by first | omega | (simp; done) | (simp; omega)) _)) (fun h7 => ?_) (fun h7 => ?_)
          · have c8 : risW wr := tf_t h7
            clear h7
            refine aN ?_
            refine sk_ret ?_
            exact ⟨[.bool true], by kernel_rfl, fs_to (fs_clo rfl) (congrArg Value.bool (by first | exact (tf_true ⟨by omega, by assumption, by assumption⟩).symm | exact (tf_false (fun h => absurd h.1 (by omega))).symm | exact (tf_false (fun h => absurd h.2.1 (by assumption))).symm | exact (tf_false (fun h => absurd h.2.2 (by assumption))).symm)), Nat.le_of_ble_eq_true (by kernel_rfl)⟩
          · have c8 : ¬ (risW wr) := tf_f h7
            clear h7
            refine aN ?_
            refine sk_ret ?_
            exact ⟨[.bool false], by kernel_rfl, fs_to (fs_clo rfl) (congrArg Value.bool (by first | exact (tf_true ⟨by omega, by assumption, by assumption⟩).symm | exact (tf_false (fun h => absurd h.1 (by omega))).symm | exact (tf_false (fun h => absurd h.2.1 (by assumption))).symm | exact (tf_false (fun h => absurd h.2.2 (by assumption))).symm)), Nat.le_of_ble_eq_true (by kernel_rfl)⟩
        · have c6 : ¬ (fu = 0 ∧ co.length = 0 ∧ rs.length + ss.length + ws.length = 0) := of_decide_eq_false h5
          clear h5
          refine aN ?_
          refine sk_ret ?_
          exact ⟨[.bool false], by kernel_rfl, fs_to (fs_clo rfl) (congrArg Value.bool (by first | exact (tf_true ⟨by omega, by assumption, by assumption⟩).symm | exact (tf_false (fun h => absurd h.1 (by omega))).symm | exact (tf_false (fun h => absurd h.2.1 (by assumption))).symm | exact (tf_false (fun h => absurd h.2.2 (by assumption))).symm)), Nat.le_of_ble_eq_true (by kernel_rfl)⟩
noncomputable def con_rgood : Con Try.prog 0 := Con.pure (α := Int × Bool × Int × (List Code) × (List Key) × (List Span) × (List Key) × (List Wr)) 9 (fun z9 => [.agg #[.int .i64 z9.1, .bool z9.2.1, .int .i64 z9.2.2.1, inlL ccells 6 z9.2.2.2.1, inlL kcells 2 z9.2.2.2.2.1, inlL scells 3 z9.2.2.2.2.2.1, inlL kcells 2 z9.2.2.2.2.2.2.1, inlL wcells 4 z9.2.2.2.2.2.2.2]]) (fun z9 => .bool (tf ((1 ≤ z9.1 ∧ z9.1 ≤ 281474976710655) ∧ (z9.2.2.1 = 0 ∧ z9.2.2.2.1.length = 0 ∧ z9.2.2.2.2.1.length + z9.2.2.2.2.2.1.length + z9.2.2.2.2.2.2.1.length = 0) ∧ risW z9.2.2.2.2.2.2.2))) (fun z9 => (z9.2.1 = true) ∧ (z9.2.2.2.1.length ≤ 1000000) ∧ (z9.2.2.2.2.1.length ≤ 1000000) ∧ (z9.2.2.2.2.2.1.length ≤ 1000000) ∧ (z9.2.2.2.2.2.2.1.length ≤ 1000000) ∧ (z9.2.2.2.2.2.2.2.length ≤ 1000000)) (by
  rintro ⟨a0, a1, a2, a3, a4, a5, a6, a7⟩ ⟨b0, b1, b2, b3, b4, b5, b6, b7⟩ h
  simp only [List.cons.injEq, and_true, Int.natCast_inj, UInt8.toNat_inj, Value.int.injEq, Value.bool.injEq, Value.string.injEq, Value.agg.injEq, Array.mk.injEq, true_and, ccells_iff, kcells_iff, scells_iff, wcells_iff] at h
  first | exact h | (simp only [Prod.ext_iff, h, and_self, and_true, true_and]; done) | simp_all [Prod.ext_iff]) (fun _ => rfl) (fun _ => rfl) 400 (by
  rintro ⟨a0, a1, a2, a3, a4, a5, a6, a7⟩ ⟨p0, p1, p2, p3, p4, p5⟩
  exact rgood_sc a0 a1 a2 a3 a4 a5 a6 a7 p0 p1 p2 p3 p4 p5)
theorem con_rgood_at (sq : Int) (vl : Bool) (fu : Int) (co : List Code) (rs : List Key) (ss : List Span) (ws : List Key) (wr : List Wr) (h0 : vl = true) (h1 : co.length ≤ 1000000) (h2 : rs.length ≤ 1000000) (h3 : ss.length ≤ 1000000) (h4 : ws.length ≤ 1000000) (h5 : wr.length ≤ 1000000) (s : St) : con_rgood.rel [.agg #[.int .i64 sq, .bool vl, .int .i64 fu, inlL ccells 6 co, inlL kcells 2 rs, inlL scells 3 ss, inlL kcells 2 ws, inlL wcells 4 wr]] s (.bool (tf ((1 ≤ sq ∧ sq ≤ 281474976710655) ∧ (fu = 0 ∧ co.length = 0 ∧ rs.length + ss.length + ws.length = 0) ∧ risW wr))) s := con_pure (sq, vl, fu, co, rs, ss, ws, wr) ⟨h0, h1, h2, h3, h4, h5⟩ s
end Go.Proofs.Ytfpkfcdeoiofiaa