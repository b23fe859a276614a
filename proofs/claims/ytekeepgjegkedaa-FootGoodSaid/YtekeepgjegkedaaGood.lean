/- Good feet. -/
import Derived.Test.YtekeepgjegkedaaRise
set_option linter.unusedVariables false
set_option linter.unusedSimpArgs false
set_option linter.unnecessarySimpa false
namespace Go.Proofs.Ytekeepgjegkedaa
open Go.Ai
def badF (l : List Span) (i : Nat) : Prop := ∃ x, l[i]? = some x ∧ (¬ (0 ≤ x.1 ∧ x.1 < 4) ∨ x.2.1 > x.2.2 ∨ 0 < i ∧ ∃ y, l[i - 1]? = some y ∧ (¬ orL [cmpI y.1 x.1, cmpI y.2.1 x.2.1, cmpI y.2.2 x.2.2] < 0 ∨ ¬ (¬ y.1 = x.1 ∨ y.2.2 < 9223372036854775806 ∧ IntKind.wrap .i64 (y.2.2 + 1) < x.2.1)))
theorem badF_iff {l : List Span} {i : Nat} {x : Span} (hx : l[i]? = some x) : badF l i ↔ (¬ (0 ≤ x.1 ∧ x.1 < 4) ∨ x.2.1 > x.2.2 ∨ 0 < i ∧ ∃ y, l[i - 1]? = some y ∧ (¬ orL [cmpI y.1 x.1, cmpI y.2.1 x.2.1, cmpI y.2.2 x.2.2] < 0 ∨ ¬ (¬ y.1 = x.1 ∨ y.2.2 < 9223372036854775806 ∧ IntKind.wrap .i64 (y.2.2 + 1) < x.2.1))) :=
  ⟨fun ⟨z, h1, h2⟩ => by rw [hx] at h1; obtain rfl := Option.some.inj h1; exact h2, fun h => ⟨x, hx, h⟩⟩
theorem badF_iff2 {l : List Span} {i : Nat} {x y : Span} (hx : l[i]? = some x) (hy : l[i - 1]? = some y) : badF l i ↔ (¬ (0 ≤ x.1 ∧ x.1 < 4) ∨ x.2.1 > x.2.2 ∨ 0 < i ∧ (¬ orL [cmpI y.1 x.1, cmpI y.2.1 x.2.1, cmpI y.2.2 x.2.2] < 0 ∨ ¬ (¬ y.1 = x.1 ∨ y.2.2 < 9223372036854775806 ∧ IntKind.wrap .i64 (y.2.2 + 1) < x.2.1))) := by
  rw [badF_iff hx, hy]
  simp only [Option.some.injEq, exists_eq_left']
abbrev badFL (l : List Span) : Prop := ∃ i, i < l.length ∧ badF l i
abbrev goodP (rs : List Key) (ss : List Span) (ws : List Key) : Prop := (¬ badFL ss) ∧ risingL rs ∧ risingL ws
theorem goodP__fn : Try.cfg.fn 11 = some Try.f11 := by kernel_rfl
set_option maxHeartbeats 4000000 in
set_option maxRecDepth 100000 in
theorem goodP__sc (rs : List Key) (ss : List Span) (ws : List Key) (h0 : rs.length ≤ 1000000) (h1 : ss.length ≤ 1000000) (h2 : ws.length ≤ 1000000) : SC Try.prog 0 11 [.agg #[inlL kcells 2 rs, inlL scells 3 ss, inlL kcells 2 ws]] (St.empty 0) fun v s' => v = .bool (tf (goodP rs ss ws)) ∧ s'.n ≤ 400 := by
  obtain ⟨rc, hS, hC⟩ := rc_con (sound_run Try.cfgOk 300) [con_table, con_bySpan, con_apart, con_risingP] (by kernel_rfl)
  have hC34 := hC con_table (.head _)
  have hC35 := hC con_bySpan (.tail _ (.head _))
  have hC36 := hC con_apart (.tail _ (.tail _ (.head _)))
  have hC37 := hC con_risingP (.tail _ (.tail _ (.tail _ (.head _))))
  refine sc_ice0 (N := 400) (v2 := .bool (tf (goodP rs ss ws))) (Q := fun v s' => FS 0 s' v (.bool (tf (goodP rs ss ws))) ∧ s'.n ≤ 400) ?_ (fun _ _ h => h)
  refine sc_body Try.cfgOk goodP__fn rfl ?_
  refine sk_seq ?_
  refine kK Try.cfgOk hS ?_
  refine sk_seq (sk_seq ?_)
  refine sk_regionL Try.cfgOk hS ?_
  refine aK 2 ?_
  refine aM (lenB Try.cfg (St.empty 0) 23 (inlL scells 3 ss)) (.int .i64 ((ss.length : Nat) : Int)) (len_inl tokC (by kernel_rfl)) ?_
  refine aN ?_
  refine sk_block ?_
  refine sk_live 59 ((fun a : Nat => [(1, .pointer (some ⟨0, 0, none⟩)), (6, inlL scells 3 ss), (7, .int .i64 ((ss.length : Nat) : Int)), (8, .int .i64 ((a : Nat) : Int))]) 0) (by kernel_rfl) ⟨by kernel_rfl, by kernel_rfl, by kernel_rfl, by kernel_rfl, trivial⟩ fun m1 => ?_
  refine sk_st ((fun a : Nat => ((St.empty 0).new (.cells [inlL kcells 2 rs, inlL scells 3 ss, inlL kcells 2 ws]))) 0) (by kernel_rfl) ?_
  refine (sk_while (k := 1) (N := 400) (live := (fun a : Nat => [(1, .pointer (some ⟨0, 0, none⟩)), (6, inlL scells 3 ss), (7, .int .i64 ((ss.length : Nat) : Int)), (8, .int .i64 ((a : Nat) : Int))])) (M := (fun a : Nat => ((St.empty 0).new (.cells [inlL kcells 2 rs, inlL scells 3 ss, inlL kcells 2 ws])))) (fun a : Nat => (a ≤ ss.length) ∧ (NoI (fun a : Nat => badF ss a) a)) (fun a : Nat => ss.length - a) (fun (a : Nat) (o : Out) (lv : List (Nat × Value)) (M : St) => (o = .exit 0 ∧ (¬ a < ss.length) ∧ lv = [(1, .pointer (some ⟨0, 0, none⟩)), (6, inlL scells 3 ss), (7, .int .i64 ((ss.length : Nat) : Int)), (8, .int .i64 ((a : Nat) : Int))] ∧ M = ((St.empty 0).new (.cells [inlL kcells 2 rs, inlL scells 3 ss, inlL kcells 2 ws]))) ∨ (o = .ret ∧ (a < ss.length ∧ (badF ss a)) ∧ lv = [(2, .bool false)] ∧ M = ((St.empty 0).new (.cells [inlL kcells 2 rs, inlL scells 3 ss, inlL kcells 2 ws])))) (Nat.zero_le _) (fun a ha => ?_) (fun a ha => ?_) (fun a m ha => ?_) (fun a m ha => ?_) 0 m1 ?_).up ?_
  · exact ⟨by kernel_rfl, ((wf_empty 0).new _), (selfs (all_cons (o := .cells [inlL kcells 2 rs, inlL scells 3 ss, inlL kcells 2 ws]) (by kernel_rfl) (OSub.cells (.cons (sub_clo rfl) (.cons (sub_clo rfl) (.cons (sub_clo rfl) .nil)))) (all_none)))⟩
  · exact ⟨.ptr ⟨by decide, rfl⟩, sub_clo rfl, sub_clo rfl, sub_clo rfl, trivial⟩
  · exact ⟨by kernel_rfl, by kernel_rfl, by kernel_rfl, by kernel_rfl, trivial⟩
  · obtain ⟨i, ea⟩ : ∃ z, z = a := ⟨_, rfl⟩
    subst ea
    obtain ⟨i0, i1⟩ := ha
    refine sk_seq ?_
    refine sk_regionL Try.cfgOk hS ?_
    refine aT (fun h2 => ?_) (fun h2 => ?_)
    · have c3e : (decide ((((i : Nat) : Int) : Int) < ((ss.length : Nat) : Int))) = true := Eq.trans (by kernel_rfl) h2
      clear h2
      have c3 : (((i : Nat) : Int) : Int) < ((ss.length : Nat) : Int) := of_decide_eq_true c3e
      clear c3e
      refine al_nil ?_
      refine sk_seq ?_
      refine kT ?_
      refine sk_skip (sk_seq (sk_block (sk_seq ?_)))
      refine sk_regionL Try.cfgOk hS ?_
      refine aK 1 ?_
      refine aM (indexAddrV Try.cfg 23 (inlL scells 3 ss) (.int .i64 ((i : Nat) : Int))) (elt (flatL scells ss) (i * 3)) (idx_inlL tokC (by kernel_rfl) (by first | omega | simp)) ?_
      have hx4l : i < ss.length := by omega
      refine Exists.elim (get_ex hx4l) fun x4 hx4 => ?_
      clear hx4l
      refine aM (loadV Try.cfg (St.empty 0) 32 (elt (flatL scells ss) (i * 3))) (.agg #[.int .i64 x4.1, .int .i64 x4.2.1, .int .i64 x4.2.2]) (load_el tokC (by kernel_rfl) scells_len hx4) ?_
      refine aN ?_
      refine sk_seq ?_
      refine sk_drawL Try.cfgOk hS ?_
      refine dK 2 ?_
      refine dB 34 [.int .i64 x4.1] (decide (0 ≤ x4.1 ∧ x4.1 < 4)) _ rfl (hC34 _ _ _ _ (con_table_at x4.1  _)) (fun h5 => ?_) (fun h5 => ?_)
      · have c6 : 0 ≤ x4.1 ∧ x4.1 < 4 := of_decide_eq_true h5
        clear h5
        refine dK 6 ?_
        refine dT (fun h7 => ?_) (fun h7 => ?_)
        · have c8e : (decide ((x4.2.1 : Int) > x4.2.2)) = true := Eq.trans (by kernel_rfl) h7
          clear h7
          have c8 : (x4.2.1 : Int) > x4.2.2 := of_decide_eq_true c8e
          clear c8e
          refine dK 27 ?_
          refine ald_nil ?_
          refine kT ?_
          refine sk_seq ?_
          refine kK Try.cfgOk hS ?_
          refine sk_ret ?_
          refine .inr ⟨_, _, (fun h => by cases h), .inr ⟨rfl, ?_, rfl, rfl⟩, ⟨by kernel_rfl, ⟨by kernel_rfl, trivial⟩, ⟨sub_clo rfl, trivial⟩, Nat.le_of_ble_eq_true (by kernel_rfl), ⟨by kernel_rfl, ((wf_empty 0).new _), (selfs (all_cons (o := .cells [inlL kcells 2 rs, inlL scells 3 ss, inlL kcells 2 ws]) (by kernel_rfl) (OSub.cells (.cons (sub_clo rfl) (.cons (sub_clo rfl) (.cons (sub_clo rfl) .nil)))) (all_none)))⟩, mem_all (by kernel_rfl)⟩⟩
          · first | (refine ⟨by omega, ?_⟩; first | (rw [badF_iff2 (by assumption) (by assumption)]; omega) | (rw [badF_iff (by assumption)]; first | exact .inl (by omega) | exact .inr (.inl (by omega)))) | (rw [badF_iff2 (by assumption) (by assumption)]; omega) | (rw [badF_iff (by assumption)]; rintro (h | h | ⟨h, _⟩) <;> omega)
        · have c8e : (decide ((x4.2.1 : Int) > x4.2.2)) = false := Eq.trans (by kernel_rfl) h7
          clear h7
          have c8 : ¬ (x4.2.1 : Int) > x4.2.2 := of_decide_eq_false c8e
          clear c8e
          refine dK 3 ?_
          refine dT (fun h9 => ?_) (fun h9 => ?_)
          · have c10e : (decide ((((i : Nat) : Int) : Int) > 0)) = true := Eq.trans (by kernel_rfl) h9
            clear h9
            have c10 : (((i : Nat) : Int) : Int) > 0 := of_decide_eq_true c10e
            clear c10e
            refine dK 4 ?_
            refine dE (v := .int .i64 (IntKind.wrap .i64 (((i : Nat) : Int) - 1))) (.int .i64 ((i - 1 : Nat) : Int)) (congrArg (Value.int .i64) (wrap_to (by omega) (by omega))) ?_
            refine dM (indexAddrV Try.cfg 23 (inlL scells 3 ss) (.int .i64 ((i - 1 : Nat) : Int))) (elt (flatL scells ss) ((i - 1) * 3)) (idx_inlL tokC (by kernel_rfl) (by first | omega | simp)) ?_
            have hx11l : (i - 1) < ss.length := by omega
            refine Exists.elim (get_ex hx11l) fun x11 hx11 => ?_
            clear hx11l
            refine dM (loadV Try.cfg (St.empty 0) 32 (elt (flatL scells ss) ((i - 1) * 3))) (.agg #[.int .i64 x11.1, .int .i64 x11.2.1, .int .i64 x11.2.2]) (load_el tokC (by kernel_rfl) scells_len hx11) ?_
            refine dK 1 ?_
            refine dC 35 [.agg #[.int .i64 x11.1, .int .i64 x11.2.1, .int .i64 x11.2.2], .agg #[.int .i64 x4.1, .int .i64 x4.2.1, .int .i64 x4.2.2]] (.int .i64 (orL [cmpI x11.1 x4.1, cmpI x11.2.1 x4.2.1, cmpI x11.2.2 x4.2.2])) _ rfl (hC35 _ _ _ _ (con_bySpan_at x11.1 x11.2.1 x11.2.2 x4.1 x4.2.1 x4.2.2  _)) ?_
            refine dT (fun h12 => ?_) (fun h12 => ?_)
            · have c13e : (decide (((orL [cmpI x11.1 x4.1, cmpI x11.2.1 x4.2.1, cmpI x11.2.2 x4.2.2]) : Int) ≥ 0)) = true := Eq.trans (by kernel_rfl) h12
              clear h12
              have c13 : ((orL [cmpI x11.1 x4.1, cmpI x11.2.1 x4.2.1, cmpI x11.2.2 x4.2.2]) : Int) ≥ 0 := of_decide_eq_true c13e
              clear c13e
              refine dK 13 ?_
              refine ald_nil ?_
              refine kT ?_
              refine sk_seq ?_
              refine kK Try.cfgOk hS ?_
              refine sk_ret ?_
              refine .inr ⟨_, _, (fun h => by cases h), .inr ⟨rfl, ?_, rfl, rfl⟩, ⟨by kernel_rfl, ⟨by kernel_rfl, trivial⟩, ⟨sub_clo rfl, trivial⟩, Nat.le_of_ble_eq_true (by kernel_rfl), ⟨by kernel_rfl, ((wf_empty 0).new _), (selfs (all_cons (o := .cells [inlL kcells 2 rs, inlL scells 3 ss, inlL kcells 2 ws]) (by kernel_rfl) (OSub.cells (.cons (sub_clo rfl) (.cons (sub_clo rfl) (.cons (sub_clo rfl) .nil)))) (all_none)))⟩, mem_all (by kernel_rfl)⟩⟩
              · first | (refine ⟨by omega, ?_⟩; first | (rw [badF_iff2 (by assumption) (by assumption)]; omega) | (rw [badF_iff (by assumption)]; first | exact .inl (by omega) | exact .inr (.inl (by omega)))) | (rw [badF_iff2 (by assumption) (by assumption)]; omega) | (rw [badF_iff (by assumption)]; rintro (h | h | ⟨h, _⟩) <;> omega)
            · have c13e : (decide (((orL [cmpI x11.1 x4.1, cmpI x11.2.1 x4.2.1, cmpI x11.2.2 x4.2.2]) : Int) ≥ 0)) = false := Eq.trans (by kernel_rfl) h12
              clear h12
              have c13 : ¬ ((orL [cmpI x11.1 x4.1, cmpI x11.2.1 x4.2.1, cmpI x11.2.2 x4.2.2]) : Int) ≥ 0 := of_decide_eq_false c13e
              clear c13e
              refine dK 4 ?_
              refine dE (v := .int .i64 (IntKind.wrap .i64 (((i : Nat) : Int) - 1))) (.int .i64 ((i - 1 : Nat) : Int)) (congrArg (Value.int .i64) (wrap_to (by omega) (by omega))) ?_
              refine dM (indexAddrV Try.cfg 23 (inlL scells 3 ss) (.int .i64 ((i - 1 : Nat) : Int))) (elt (flatL scells ss) ((i - 1) * 3)) (idx_inlL tokC (by kernel_rfl) (by first | omega | simp)) ?_
              refine dM (loadV Try.cfg (St.empty 0) 32 (elt (flatL scells ss) ((i - 1) * 3))) (.agg #[.int .i64 x11.1, .int .i64 x11.2.1, .int .i64 x11.2.2]) (load_el tokC (by kernel_rfl) scells_len hx11) ?_
              refine dK 1 ?_
              refine dB 36 [.agg #[.int .i64 x11.1, .int .i64 x11.2.1, .int .i64 x11.2.2], .agg #[.int .i64 x4.1, .int .i64 x4.2.1, .int .i64 x4.2.2]] (decide (¬ x11.1 = x4.1 ∨ x11.2.2 < 9223372036854775806 ∧ IntKind.wrap .i64 (x11.2.2 + 1) < x4.2.1)) _ rfl (hC36 _ _ _ _ (con_apart_at x11.1 x11.2.1 x11.2.2 x4.1 x4.2.1 x4.2.2  _)) (fun h14 => ?_) (fun h14 => ?_)
              · have c15 : ¬ x11.1 = x4.1 ∨ x11.2.2 < 9223372036854775806 ∧ IntKind.wrap .i64 (x11.2.2 + 1) < x4.2.1 := of_decide_eq_true h14
                clear h14
                refine dK 4 ?_
                refine ald_nil ?_
                refine kF ?_
                refine sk_skip ?_
                refine sk_regionL Try.cfgOk hS ?_
                refine aE (v := .int .i64 (IntKind.wrap .i64 (((i : Nat) : Int) + 1))) (.int .i64 ((i + 1 : Nat) : Int)) (congrArg (Value.int .i64) (wrap_to (by omega) (by omega))) ?_
                refine aN ?_
                refine .inl ⟨i + 1, rfl, ⟨?_, ?_⟩, ?_, ⟨by kernel_rfl, ⟨by kernel_rfl, by kernel_rfl, by kernel_rfl, by kernel_rfl, trivial⟩, ⟨.ptr ⟨by decide, rfl⟩, sub_clo rfl, sub_clo rfl, sub_clo rfl, trivial⟩, Nat.le_of_ble_eq_true (by kernel_rfl), ⟨by kernel_rfl, ((wf_empty 0).new _), (selfs (all_cons (o := .cells [inlL kcells 2 rs, inlL scells 3 ss, inlL kcells 2 ws]) (by kernel_rfl) (OSub.cells (.cons (sub_clo rfl) (.cons (sub_clo rfl) (.cons (sub_clo rfl) .nil)))) (all_none)))⟩, mem_all (by kernel_rfl)⟩⟩
                · (try dsimp only); omega
                · (try dsimp only); exact NoI.succ (p := (fun i : Nat => badF ss i)) (by assumption) (by first | (refine ⟨by omega, ?_⟩; first | (rw [badF_iff2 (by assumption) (by assumption)]; omega) | (rw [badF_iff (by assumption)]; first | exact .inl (by omega) | exact .inr (.inl (by omega)))) | (rw [badF_iff2 (by assumption) (by assumption)]; omega) | (rw [badF_iff (by assumption)]; rintro (h | h | ⟨h, _⟩) <;> omega))
                · omega
              · have c15 : ¬ (¬ x11.1 = x4.1 ∨ x11.2.2 < 9223372036854775806 ∧ IntKind.wrap .i64 (x11.2.2 + 1) < x4.2.1) := of_decide_eq_false h14
                clear h14
                refine dK 4 ?_
                refine ald_nil ?_
                refine kT ?_
                refine sk_seq ?_
                refine kK Try.cfgOk hS ?_
                refine sk_ret ?_
                refine .inr ⟨_, _, (fun h => by cases h), .inr ⟨rfl, ?_, rfl, rfl⟩, ⟨by kernel_rfl, ⟨by kernel_rfl, trivial⟩, ⟨sub_clo rfl, trivial⟩, Nat.le_of_ble_eq_true (by kernel_rfl), ⟨by kernel_rfl, ((wf_empty 0).new _), (selfs (all_cons (o := .cells [inlL kcells 2 rs, inlL scells 3 ss, inlL kcells 2 ws]) (by kernel_rfl) (OSub.cells (.cons (sub_clo rfl) (.cons (sub_clo rfl) (.cons (sub_clo rfl) .nil)))) (all_none)))⟩, mem_all (by kernel_rfl)⟩⟩
                · first | (refine ⟨by omega, ?_⟩; first | (rw [badF_iff2 (by assumption) (by assumption)]; omega) | (rw [badF_iff (by assumption)]; first | exact .inl (by omega) | exact .inr (.inl (by omega)))) | (rw [badF_iff2 (by assumption) (by assumption)]; omega) | (rw [badF_iff (by assumption)]; rintro (h | h | ⟨h, _⟩) <;> omega)
          · have c10e : (decide ((((i : Nat) : Int) : Int) > 0)) = false := Eq.trans (by kernel_rfl) h9
            clear h9
            have c10 : ¬ (((i : Nat) : Int) : Int) > 0 := of_decide_eq_false c10e
            clear c10e
            refine dK 23 ?_
            refine ald_nil ?_
            refine kF ?_
            refine sk_skip ?_
            refine sk_regionL Try.cfgOk hS ?_
            refine aE (v := .int .i64 (IntKind.wrap .i64 (((i : Nat) : Int) + 1))) (.int .i64 ((i + 1 : Nat) : Int)) (congrArg (Value.int .i64) (wrap_to (by omega) (by omega))) ?_
            refine aN ?_
            refine .inl ⟨i + 1, rfl, ⟨?_, ?_⟩, ?_, ⟨by kernel_rfl, ⟨by kernel_rfl, by kernel_rfl, by kernel_rfl, by kernel_rfl, trivial⟩, ⟨.ptr ⟨by decide, rfl⟩, sub_clo rfl, sub_clo rfl, sub_clo rfl, trivial⟩, Nat.le_of_ble_eq_true (by kernel_rfl), ⟨by kernel_rfl, ((wf_empty 0).new _), (selfs (all_cons (o := .cells [inlL kcells 2 rs, inlL scells 3 ss, inlL kcells 2 ws]) (by kernel_rfl) (OSub.cells (.cons (sub_clo rfl) (.cons (sub_clo rfl) (.cons (sub_clo rfl) .nil)))) (all_none)))⟩, mem_all (by kernel_rfl)⟩⟩
            · (try dsimp only); omega
            · (try dsimp only); exact NoI.succ (p := (fun i : Nat => badF ss i)) (by assumption) (by first | (refine ⟨by omega, ?_⟩; first | (rw [badF_iff2 (by assumption) (by assumption)]; omega) | (rw [badF_iff (by assumption)]; first | exact .inl (by omega) | exact .inr (.inl (by omega)))) | (rw [badF_iff2 (by assumption) (by assumption)]; omega) | (rw [badF_iff (by assumption)]; rintro (h | h | ⟨h, _⟩) <;> omega))
            · omega
      · have c6 : ¬ (0 ≤ x4.1 ∧ x4.1 < 4) := of_decide_eq_false h5
        clear h5
        refine dK 34 ?_
        refine ald_nil ?_
        refine kT ?_
        refine sk_seq ?_
        refine kK Try.cfgOk hS ?_
        refine sk_ret ?_
        refine .inr ⟨_, _, (fun h => by cases h), .inr ⟨rfl, ?_, rfl, rfl⟩, ⟨by kernel_rfl, ⟨by kernel_rfl, trivial⟩, ⟨sub_clo rfl, trivial⟩, Nat.le_of_ble_eq_true (by kernel_rfl), ⟨by kernel_rfl, ((wf_empty 0).new _), (selfs (all_cons (o := .cells [inlL kcells 2 rs, inlL scells 3 ss, inlL kcells 2 ws]) (by kernel_rfl) (OSub.cells (.cons (sub_clo rfl) (.cons (sub_clo rfl) (.cons (sub_clo rfl) .nil)))) (all_none)))⟩, mem_all (by kernel_rfl)⟩⟩
        · first | (refine ⟨by omega, ?_⟩; first | (rw [badF_iff2 (by assumption) (by assumption)]; omega) | (rw [badF_iff (by assumption)]; first | exact .inl (by omega) | exact .inr (.inl (by omega)))) | (rw [badF_iff2 (by assumption) (by assumption)]; omega) | (rw [badF_iff (by assumption)]; rintro (h | h | ⟨h, _⟩) <;> omega)
    · have c3e : (decide ((((i : Nat) : Int) : Int) < ((ss.length : Nat) : Int))) = false := Eq.trans (by kernel_rfl) h2
      clear h2
      have c3 : ¬ (((i : Nat) : Int) : Int) < ((ss.length : Nat) : Int) := of_decide_eq_false c3e
      clear c3e
      refine al_nil ?_
      refine sk_seq ?_
      refine kF ?_
      refine sk_exit ?_
      dsimp only
      refine .inr ⟨_, _, (fun h => by cases h), .inl ⟨rfl, ?_, rfl, rfl⟩, ⟨by kernel_rfl, ⟨by kernel_rfl, by kernel_rfl, by kernel_rfl, by kernel_rfl, trivial⟩, ⟨.ptr ⟨by decide, rfl⟩, sub_clo rfl, sub_clo rfl, sub_clo rfl, trivial⟩, Nat.le_of_ble_eq_true (by kernel_rfl), ⟨by kernel_rfl, ((wf_empty 0).new _), (selfs (all_cons (o := .cells [inlL kcells 2 rs, inlL scells 3 ss, inlL kcells 2 ws]) (by kernel_rfl) (OSub.cells (.cons (sub_clo rfl) (.cons (sub_clo rfl) (.cons (sub_clo rfl) .nil)))) (all_none)))⟩, mem_all (by kernel_rfl)⟩⟩
      · omega
  · exact ⟨by ((try dsimp only); first | done | (omega)), by ((try dsimp only); first | done | (exact NoI.zero))⟩
  rintro o e1 s1 ⟨a, lv1, M1, m1, ha, (⟨rfl, hx, rfl, rfl⟩ | ⟨rfl, hx, rfl, rfl⟩), rfl, rfl⟩
  ·
    obtain ⟨i, ea⟩ : ∃ z, z = a := ⟨_, rfl⟩
    subst ea
    obtain ⟨i0, i1⟩ := ha
    dsimp only
    try rw [if_pos rfl]
    refine sk_seq ?_
    refine sk_regionL Try.cfgOk hS ?_
    refine aK 2 ?_
    refine aB 37 [inlL kcells 2 rs] (tf (risingL rs)) _ rfl (hC37 _ _ _ _ (con_risingP_at rs (by first | omega | (simp; done) | (simp; omega)) _)) (fun h16 => ?_) (fun h16 => ?_)
    · have c17 : risingL rs := tf_t h16
      clear h16
      refine aK 3 ?_
      refine aB 37 [inlL kcells 2 ws] (tf (risingL ws)) _ rfl (hC37 _ _ _ _ (con_risingP_at ws (by first | omega | (simp; done) | (simp; omega)) _)) (fun h18 => ?_) (fun h18 => ?_)
      · have c19 : risingL ws := tf_t h18
        clear h18
        refine aN ?_
        refine sk_ret ?_
        exact ⟨[.bool true], by kernel_rfl, fs_to (fs_clo rfl) (congrArg Value.bool (by first | (obtain ⟨q1, q2⟩ := hx; refine Eq.symm (tf_false fun h => ?_); exact h.1 ⟨_, q1, q2⟩) | exact (tf_true ⟨NoI.none (by assumption) hx, by assumption, by assumption⟩).symm | (refine Eq.symm (tf_false fun h => ?_); obtain ⟨_, h1, h2⟩ := h; first | exact absurd h1 (by assumption) | exact absurd h2 (by assumption)))), Nat.le_of_ble_eq_true (by kernel_rfl)⟩
      · have c19 : ¬ (risingL ws) := tf_f h18
        clear h18
        refine aN ?_
        refine sk_ret ?_
        exact ⟨[.bool false], by kernel_rfl, fs_to (fs_clo rfl) (congrArg Value.bool (by first | (obtain ⟨q1, q2⟩ := hx; refine Eq.symm (tf_false fun h => ?_); exact h.1 ⟨_, q1, q2⟩) | exact (tf_true ⟨NoI.none (by assumption) hx, by assumption, by assumption⟩).symm | (refine Eq.symm (tf_false fun h => ?_); obtain ⟨_, h1, h2⟩ := h; first | exact absurd h1 (by assumption) | exact absurd h2 (by assumption)))), Nat.le_of_ble_eq_true (by kernel_rfl)⟩
    · have c17 : ¬ (risingL rs) := tf_f h16
      clear h16
      refine aN ?_
      refine sk_ret ?_
      exact ⟨[.bool false], by kernel_rfl, fs_to (fs_clo rfl) (congrArg Value.bool (by first | (obtain ⟨q1, q2⟩ := hx; refine Eq.symm (tf_false fun h => ?_); exact h.1 ⟨_, q1, q2⟩) | exact (tf_true ⟨NoI.none (by assumption) hx, by assumption, by assumption⟩).symm | (refine Eq.symm (tf_false fun h => ?_); obtain ⟨_, h1, h2⟩ := h; first | exact absurd h1 (by assumption) | exact absurd h2 (by assumption)))), Nat.le_of_ble_eq_true (by kernel_rfl)⟩
  ·
    obtain ⟨i, ea⟩ : ∃ z, z = a := ⟨_, rfl⟩
    subst ea
    obtain ⟨i0, i1⟩ := ha
    dsimp only
    exact ⟨[.bool false], by kernel_rfl, fs_to (fs_clo rfl) (congrArg Value.bool (by first | (obtain ⟨q1, q2⟩ := hx; refine Eq.symm (tf_false fun h => ?_); exact h.1 ⟨_, q1, q2⟩) | exact (tf_true ⟨NoI.none (by assumption) hx, by assumption, by assumption⟩).symm | (refine Eq.symm (tf_false fun h => ?_); obtain ⟨_, h1, h2⟩ := h; first | exact absurd h1 (by assumption) | exact absurd h2 (by assumption)))), Nat.le_of_ble_eq_true (by kernel_rfl)⟩
noncomputable def con_goodP_ : Con Try.prog 0 := Con.pure (α := (List Key) × (List Span) × (List Key)) 11 (fun z9 => [.agg #[inlL kcells 2 z9.1, inlL scells 3 z9.2.1, inlL kcells 2 z9.2.2]]) (fun z9 => .bool (tf (goodP z9.1 z9.2.1 z9.2.2))) (fun z9 => (z9.1.length ≤ 1000000) ∧ (z9.2.1.length ≤ 1000000) ∧ (z9.2.2.length ≤ 1000000)) (by
  rintro ⟨a0, a1, a2⟩ ⟨b0, b1, b2⟩ h
  simp only [List.cons.injEq, and_true, Int.natCast_inj, UInt8.toNat_inj, Value.int.injEq, Value.bool.injEq, Value.string.injEq, Value.agg.injEq, Array.mk.injEq, true_and, kcells_iff, scells_iff] at h
  first | exact h | (simp only [Prod.ext_iff, h, and_self, and_true, true_and]; done) | simp_all [Prod.ext_iff]) (fun _ => rfl) (fun _ => rfl) 400 (by
  rintro ⟨a0, a1, a2⟩ ⟨p0, p1, p2⟩
  exact goodP__sc a0 a1 a2 p0 p1 p2)
theorem con_goodP__at (rs : List Key) (ss : List Span) (ws : List Key) (h0 : rs.length ≤ 1000000) (h1 : ss.length ≤ 1000000) (h2 : ws.length ≤ 1000000) (s : St) : con_goodP_.rel [.agg #[inlL kcells 2 rs, inlL scells 3 ss, inlL kcells 2 ws]] s (.bool (tf (goodP rs ss ws))) s := con_pure (rs, ss, ws) ⟨h0, h1, h2⟩ s
end Go.Proofs.Ytekeepgjegkedaa