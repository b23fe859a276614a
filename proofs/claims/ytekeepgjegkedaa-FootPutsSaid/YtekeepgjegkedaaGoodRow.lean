/- A foot whose spans are a row: good? its bytes. -/
import Derived.Test.YtekeepgjegkedaaTakeKeys
import Derived.Test.YtekeepgjegkedaaGood
set_option linter.unusedVariables false
set_option linter.unusedSimpArgs false
set_option linter.unnecessarySimpa false
namespace Go.Proofs.Ytekeepgjegkedaa
open Go.Ai
theorem goodPr_fn : Try.cfg.fn 11 = some Try.f11 := by kernel_rfl
set_option maxHeartbeats 4000000 in
set_option maxRecDepth 100000 in
theorem goodPr_sc (rs : List Key) (ss : List Span) (ws : List Key) (h0 : rs.length ≤ 1000000) (h1 : ss.length ≤ 1000000) (h2 : ws.length ≤ 1000000) : SC Try.prog 0 11 [.agg #[inlL kcells 2 rs, slL 0 3 ss.length, inlL kcells 2 ws]] ((St.empty 0).new (rowL scells ss)) fun v s' => v = .bool (tf (goodP rs ss ws)) ∧ s'.n ≤ 400 ∧ ∀ a, a < 1 → s'.get a = some (objL [rowL scells ss] a) := by
  obtain ⟨rc, hS, hC⟩ := rc_con (sound_run Try.cfgOk 300) [con_table, con_bySpan, con_apart, con_risingP] (by kernel_rfl)
  have hC34 := hC con_table (.head _)
  have hC35 := hC con_bySpan (.tail _ (.head _))
  have hC36 := hC con_apart (.tail _ (.tail _ (.head _)))
  have hC37 := hC con_risingP (.tail _ (.tail _ (.tail _ (.head _))))
  refine sc_body Try.cfgOk goodPr_fn rfl ?_
  repeat' (with_reducible first | refine sk_seq ?_ | refine sk_block ?_ | refine sk_skip ?_ | refine sk_scope ?_)
  refine sk_regionK Try.cfgOk hS (by kernel_rfl) ?_
  repeat' (with_reducible first | refine sk_seq ?_ | refine sk_block ?_ | refine sk_skip ?_ | refine sk_scope ?_)
  refine sk_regionK Try.cfgOk hS (by kernel_rfl) ?_
  repeat' (with_reducible first | refine sk_seq ?_ | refine sk_block ?_ | refine sk_skip ?_ | refine sk_scope ?_)
  refine sk_live 59 ((fun a : Nat => [(1, .pointer (some ⟨1, 0, none⟩)), (6, slL 0 3 ss.length), (7, .int .i64 ((ss.length : Nat) : Int)), (8, .int .i64 ((a : Nat) : Int))]) 0) (by kernel_rfl) ⟨by kernel_rfl, by kernel_rfl, by kernel_rfl, by kernel_rfl, trivial⟩ fun m1 => ?_
  refine sk_st ((fun a : Nat => (((St.empty 0).new (rowL scells ss)).new (.cells [inlL kcells 2 rs, slL 0 3 ss.length, inlL kcells 2 ws]))) 0) (by kernel_rfl) ?_
  refine (sk_while (k := 2) (N := 400) (live := (fun a : Nat => [(1, .pointer (some ⟨1, 0, none⟩)), (6, slL 0 3 ss.length), (7, .int .i64 ((ss.length : Nat) : Int)), (8, .int .i64 ((a : Nat) : Int))])) (M := (fun a : Nat => (((St.empty 0).new (rowL scells ss)).new (.cells [inlL kcells 2 rs, slL 0 3 ss.length, inlL kcells 2 ws])))) (fun a : Nat => (a ≤ ss.length) ∧ (NoI (fun a : Nat => badF ss a) a)) (fun a : Nat => ss.length - a) (fun (a : Nat) (o : Out) (lv : List (Nat × Value)) (M : St) => (o = .exit 0 ∧ (¬ a < ss.length) ∧ lv = [(1, .pointer (some ⟨1, 0, none⟩)), (6, slL 0 3 ss.length), (7, .int .i64 ((ss.length : Nat) : Int)), (8, .int .i64 ((a : Nat) : Int))] ∧ M = (((St.empty 0).new (rowL scells ss)).new (.cells [inlL kcells 2 rs, slL 0 3 ss.length, inlL kcells 2 ws]))) ∨ (o = .ret ∧ (a < ss.length ∧ (badF ss a)) ∧ lv = [(2, .bool false)] ∧ M = (((St.empty 0).new (rowL scells ss)).new (.cells [inlL kcells 2 rs, slL 0 3 ss.length, inlL kcells 2 ws])))) (Nat.zero_le _) (fun a ha => ?_) (fun a ha => ?_) (fun a m ha => ?_) (fun a m ha => ?_) 0 m1 ?_).up ?_
  · exact ⟨by kernel_rfl, (((wf_empty 0).new _).new _), (selfs (all_cons (o := rowL scells ss) (by kernel_rfl) (OSub.arr (subs_clo (flatL_clo scells_clo))) (all_cons (o := .cells [inlL kcells 2 rs, slL 0 3 ss.length, inlL kcells 2 ws]) (by kernel_rfl) (OSub.cells (.cons (sub_clo rfl) (.cons (.slice ⟨by decide, rfl⟩) (.cons (sub_clo rfl) .nil)))) (all_none))))⟩
  · exact ⟨.ptr ⟨by decide, rfl⟩, .slice ⟨by decide, rfl⟩, sub_clo rfl, sub_clo rfl, trivial⟩
  · exact ⟨by kernel_rfl, by kernel_rfl, by kernel_rfl, by kernel_rfl, trivial⟩
  · obtain ⟨i, ea⟩ : ∃ z, z = a := ⟨_, rfl⟩
    subst ea
    obtain ⟨i0, i1⟩ := ha
    repeat' (with_reducible first | refine sk_seq ?_ | refine sk_block ?_ | refine sk_skip ?_ | refine sk_scope ?_)
    refine sk_regionL Try.cfgOk hS ?_
    refine al_test (by kernel_rfl) (by kernel_rfl) (by kernel_rfl) (fun h2 => ?_) (fun h2 => ?_)
    · have c3e : (decide ((((i : Nat) : Int) : Int) < ((ss.length : Nat) : Int))) = true := Eq.trans (by kernel_rfl) h2
      clear h2
      have c3 : (((i : Nat) : Int) : Int) < ((ss.length : Nat) : Int) := of_decide_eq_true c3e
      clear c3e
      refine al_nil ?_
      repeat' (with_reducible first | refine sk_seq ?_ | refine sk_block ?_ | refine sk_skip ?_ | refine sk_scope ?_)
      refine sk_true (by kernel_rfl) ?_
      repeat' (with_reducible first | refine sk_seq ?_ | refine sk_block ?_ | refine sk_skip ?_ | refine sk_scope ?_)
      refine sk_regionL Try.cfgOk hS ?_
      refine al_chunk 1 (by kernel_rfl) ?_
      refine al_map (indexAddrV Try.cfg 23 (slL 0 3 ss.length) (.int .i64 ((i : Nat) : Int))) (.pointer (some ⟨0, i * 3, some (ss.length * 3)⟩)) (by kernel_rfl) (by kernel_rfl) (by kernel_rfl) (idx_rowL (by kernel_rfl) (by omega)) ?_
      obtain ⟨x4, hx4⟩ := get_ex (l := ss) (i := i) (by omega)
      refine al_map (loadV Try.cfg (((St.empty 0).new (rowL scells ss)).new (.cells [inlL kcells 2 rs, slL 0 3 ss.length, inlL kcells 2 ws])) 32 (.pointer (some ⟨0, i * 3, some (ss.length * 3)⟩))) (.agg #[.int .i64 x4.1, .int .i64 x4.2.1, .int .i64 x4.2.2]) (by kernel_rfl) (by kernel_rfl) (by kernel_rfl) (load_rowL (l := ss) (by kernel_rfl) scells_len (by kernel_rfl) hx4) ?_
      refine al_known (by kernel_rfl) ?_
      repeat' (with_reducible first | refine sk_seq ?_ | refine sk_block ?_ | refine sk_skip ?_ | refine sk_scope ?_)
      refine sk_drawL Try.cfgOk hS ?_
      refine ald_chunk 2 (by kernel_rfl) ?_
      refine ald_callB 34 [.int .i64 x4.1] (decide (0 ≤ x4.1 ∧ x4.1 < 4)) _ rfl (fun b h => by cases h) (by kernel_rfl) (by kernel_rfl) (hC34 _ _ _ _ (con_table_at x4.1  _)) (fun b => by kernel_rfl) (fun h5 => ?_) (fun h5 => ?_)
      · have c6 : 0 ≤ x4.1 ∧ x4.1 < 4 := of_decide_eq_true h5
        clear h5
        refine ald_chunk 6 (by kernel_rfl) ?_
        refine ald_test (by kernel_rfl) (by kernel_rfl) (by kernel_rfl) (fun b => by kernel_rfl) (fun h7 => ?_) (fun h7 => ?_)
        · have c8e : (decide ((x4.2.1 : Int) > x4.2.2)) = true := Eq.trans (by kernel_rfl) h7
          clear h7
          have c8 : (x4.2.1 : Int) > x4.2.2 := of_decide_eq_true c8e
          clear c8e
          refine ald_chunk 27 (by kernel_rfl) ?_
          refine ald_nil ?_
          repeat' (with_reducible first | refine sk_seq ?_ | refine sk_block ?_ | refine sk_skip ?_ | refine sk_scope ?_)
          refine sk_true (by kernel_rfl) ?_
          repeat' (with_reducible first | refine sk_seq ?_ | refine sk_block ?_ | refine sk_skip ?_ | refine sk_scope ?_)
          refine sk_regionK Try.cfgOk hS (by kernel_rfl) ?_
          repeat' (with_reducible first | refine sk_seq ?_ | refine sk_block ?_ | refine sk_skip ?_ | refine sk_scope ?_)
          refine sk_ret ?_
          refine .inr ⟨_, _, (fun h => by cases h), .inr ⟨rfl, ?_, rfl, rfl⟩, ⟨by kernel_rfl, ⟨by kernel_rfl, trivial⟩, ⟨sub_clo rfl, trivial⟩, Nat.le_of_ble_eq_true (by kernel_rfl), ⟨by kernel_rfl, (((wf_empty 0).new _).new _), (selfs (all_cons (o := rowL scells ss) (by kernel_rfl) (OSub.arr (subs_clo (flatL_clo scells_clo))) (all_cons (o := .cells [inlL kcells 2 rs, slL 0 3 ss.length, inlL kcells 2 ws]) (by kernel_rfl) (OSub.cells (.cons (sub_clo rfl) (.cons (.slice ⟨by decide, rfl⟩) (.cons (sub_clo rfl) .nil)))) (all_none))))⟩, mem_all (by kernel_rfl)⟩⟩
          · first | (refine ⟨by omega, ?_⟩; first | (rw [badF_iff2 (by assumption) (by assumption)]; omega) | (rw [badF_iff (by assumption)]; first | exact .inl (by omega) | exact .inr (.inl (by omega)))) | (rw [badF_iff2 (by assumption) (by assumption)]; omega) | (rw [badF_iff (by assumption)]; rintro (h | h | ⟨h, _⟩) <;> omega)
        · have c8e : (decide ((x4.2.1 : Int) > x4.2.2)) = false := Eq.trans (by kernel_rfl) h7
          clear h7
          have c8 : ¬ (x4.2.1 : Int) > x4.2.2 := of_decide_eq_false c8e
          clear c8e
          refine ald_chunk 3 (by kernel_rfl) ?_
          refine ald_test (by kernel_rfl) (by kernel_rfl) (by kernel_rfl) (fun b => by kernel_rfl) (fun h9 => ?_) (fun h9 => ?_)
          · have c10e : (decide ((((i : Nat) : Int) : Int) > 0)) = true := Eq.trans (by kernel_rfl) h9
            clear h9
            have c10 : (((i : Nat) : Int) : Int) > 0 := of_decide_eq_true c10e
            clear c10e
            refine ald_chunk 4 (by kernel_rfl) ?_
            refine ald_eqv (v := .int .i64 (IntKind.wrap .i64 (((i : Nat) : Int) - 1))) (.int .i64 ((i - 1 : Nat) : Int)) (by kernel_rfl) (by kernel_rfl) (by kernel_rfl) (congrArg (Value.int .i64) (wrap_to (by omega) (by omega))) (by kernel_rfl) ?_
            refine ald_mapL (indexAddrV Try.cfg 23 (slL 0 3 ss.length) (.int .i64 ((i - 1 : Nat) : Int))) (.pointer (some ⟨0, (i - 1) * 3, some (ss.length * 3)⟩)) (by kernel_rfl) (by kernel_rfl) (by kernel_rfl) (idx_rowL (by kernel_rfl) (by omega)) (by kernel_rfl) ?_
            obtain ⟨x11, hx11⟩ := get_ex (l := ss) (i := (i - 1)) (by omega)
            refine ald_mapL (loadV Try.cfg ((((St.empty 0).new (rowL scells ss)).new (.cells [inlL kcells 2 rs, slL 0 3 ss.length, inlL kcells 2 ws])).new (.cells [.int .i64 x4.1, .int .i64 x4.2.1, .int .i64 x4.2.2])) 32 (.pointer (some ⟨0, (i - 1) * 3, some (ss.length * 3)⟩))) (.agg #[.int .i64 x11.1, .int .i64 x11.2.1, .int .i64 x11.2.2]) (by kernel_rfl) (by kernel_rfl) (by kernel_rfl) (load_rowL (l := ss) (by kernel_rfl) scells_len (by kernel_rfl) hx11) (by kernel_rfl) ?_
            refine ald_chunk 1 (by kernel_rfl) ?_
            refine ald_callH 35 [.agg #[.int .i64 x11.1, .int .i64 x11.2.1, .int .i64 x11.2.2], .agg #[.int .i64 x4.1, .int .i64 x4.2.1, .int .i64 x4.2.2]] (.int .i64 (orL [cmpI x11.1 x4.1, cmpI x11.2.1 x4.2.1, cmpI x11.2.2 x4.2.2])) _ rfl (fun b h => by cases h) (by kernel_rfl) (by kernel_rfl) (hC35 _ _ _ _ (con_bySpan_at x11.1 x11.2.1 x11.2.2 x4.1 x4.2.1 x4.2.2  _)) (by kernel_rfl) ?_
            refine ald_test (by kernel_rfl) (by kernel_rfl) (by kernel_rfl) (fun b => by kernel_rfl) (fun h12 => ?_) (fun h12 => ?_)
            · have c13e : (decide (((orL [cmpI x11.1 x4.1, cmpI x11.2.1 x4.2.1, cmpI x11.2.2 x4.2.2]) : Int) ≥ 0)) = true := Eq.trans (by kernel_rfl) h12
              clear h12
              have c13 : ((orL [cmpI x11.1 x4.1, cmpI x11.2.1 x4.2.1, cmpI x11.2.2 x4.2.2]) : Int) ≥ 0 := of_decide_eq_true c13e
              clear c13e
              refine ald_chunk 13 (by kernel_rfl) ?_
              refine ald_nil ?_
              repeat' (with_reducible first | refine sk_seq ?_ | refine sk_block ?_ | refine sk_skip ?_ | refine sk_scope ?_)
              refine sk_true (by kernel_rfl) ?_
              repeat' (with_reducible first | refine sk_seq ?_ | refine sk_block ?_ | refine sk_skip ?_ | refine sk_scope ?_)
              refine sk_regionK Try.cfgOk hS (by kernel_rfl) ?_
              repeat' (with_reducible first | refine sk_seq ?_ | refine sk_block ?_ | refine sk_skip ?_ | refine sk_scope ?_)
              refine sk_ret ?_
              refine .inr ⟨_, _, (fun h => by cases h), .inr ⟨rfl, ?_, rfl, rfl⟩, ⟨by kernel_rfl, ⟨by kernel_rfl, trivial⟩, ⟨sub_clo rfl, trivial⟩, Nat.le_of_ble_eq_true (by kernel_rfl), ⟨by kernel_rfl, (((wf_empty 0).new _).new _), (selfs (all_cons (o := rowL scells ss) (by kernel_rfl) (OSub.arr (subs_clo (flatL_clo scells_clo))) (all_cons (o := .cells [inlL kcells 2 rs, slL 0 3 ss.length, inlL kcells 2 ws]) (by kernel_rfl) (OSub.cells (.cons (sub_clo rfl) (.cons (.slice ⟨by decide, rfl⟩) (.cons (sub_clo rfl) .nil)))) (all_none))))⟩, mem_all (by kernel_rfl)⟩⟩
              · first | (refine ⟨by omega, ?_⟩; first | (rw [badF_iff2 (by assumption) (by assumption)]; omega) | (rw [badF_iff (by assumption)]; first | exact .inl (by omega) | exact .inr (.inl (by omega)))) | (rw [badF_iff2 (by assumption) (by assumption)]; omega) | (rw [badF_iff (by assumption)]; rintro (h | h | ⟨h, _⟩) <;> omega)
            · have c13e : (decide (((orL [cmpI x11.1 x4.1, cmpI x11.2.1 x4.2.1, cmpI x11.2.2 x4.2.2]) : Int) ≥ 0)) = false := Eq.trans (by kernel_rfl) h12
              clear h12
              have c13 : ¬ ((orL [cmpI x11.1 x4.1, cmpI x11.2.1 x4.2.1, cmpI x11.2.2 x4.2.2]) : Int) ≥ 0 := of_decide_eq_false c13e
              clear c13e
              refine ald_chunk 4 (by kernel_rfl) ?_
              refine ald_eqv (v := .int .i64 (IntKind.wrap .i64 (((i : Nat) : Int) - 1))) (.int .i64 ((i - 1 : Nat) : Int)) (by kernel_rfl) (by kernel_rfl) (by kernel_rfl) (congrArg (Value.int .i64) (wrap_to (by omega) (by omega))) (by kernel_rfl) ?_
              refine ald_mapL (indexAddrV Try.cfg 23 (slL 0 3 ss.length) (.int .i64 ((i - 1 : Nat) : Int))) (.pointer (some ⟨0, (i - 1) * 3, some (ss.length * 3)⟩)) (by kernel_rfl) (by kernel_rfl) (by kernel_rfl) (idx_rowL (by kernel_rfl) (by omega)) (by kernel_rfl) ?_
              refine ald_mapL (loadV Try.cfg ((((St.empty 0).new (rowL scells ss)).new (.cells [inlL kcells 2 rs, slL 0 3 ss.length, inlL kcells 2 ws])).new (.cells [.int .i64 x4.1, .int .i64 x4.2.1, .int .i64 x4.2.2])) 32 (.pointer (some ⟨0, (i - 1) * 3, some (ss.length * 3)⟩))) (.agg #[.int .i64 x11.1, .int .i64 x11.2.1, .int .i64 x11.2.2]) (by kernel_rfl) (by kernel_rfl) (by kernel_rfl) (load_rowL (l := ss) (by kernel_rfl) scells_len (by kernel_rfl) hx11) (by kernel_rfl) ?_
              refine ald_chunk 1 (by kernel_rfl) ?_
              refine ald_callB 36 [.agg #[.int .i64 x11.1, .int .i64 x11.2.1, .int .i64 x11.2.2], .agg #[.int .i64 x4.1, .int .i64 x4.2.1, .int .i64 x4.2.2]] (decide (¬ x11.1 = x4.1 ∨ x11.2.2 < 9223372036854775806 ∧ IntKind.wrap .i64 (x11.2.2 + 1) < x4.2.1)) _ rfl (fun b h => by cases h) (by kernel_rfl) (by kernel_rfl) (hC36 _ _ _ _ (con_apart_at x11.1 x11.2.1 x11.2.2 x4.1 x4.2.1 x4.2.2  _)) (fun b => by kernel_rfl) (fun h14 => ?_) (fun h14 => ?_)
              · have c15 : ¬ x11.1 = x4.1 ∨ x11.2.2 < 9223372036854775806 ∧ IntKind.wrap .i64 (x11.2.2 + 1) < x4.2.1 := of_decide_eq_true h14
                clear h14
                refine ald_chunk 4 (by kernel_rfl) ?_
                refine ald_nil ?_
                repeat' (with_reducible first | refine sk_seq ?_ | refine sk_block ?_ | refine sk_skip ?_ | refine sk_scope ?_)
                refine sk_false (by kernel_rfl) ?_
                repeat' (with_reducible first | refine sk_seq ?_ | refine sk_block ?_ | refine sk_skip ?_ | refine sk_scope ?_)
                refine sk_regionL Try.cfgOk hS ?_
                refine al_eqv (v := .int .i64 (IntKind.wrap .i64 (((i : Nat) : Int) + 1))) (.int .i64 ((i + 1 : Nat) : Int)) (by kernel_rfl) (by kernel_rfl) (by kernel_rfl) (congrArg (Value.int .i64) (wrap_to (by omega) (by omega))) ?_
                refine al_known (by kernel_rfl) ?_
                repeat' (with_reducible first | refine sk_seq ?_ | refine sk_block ?_ | refine sk_skip ?_ | refine sk_scope ?_)
                refine .inl ⟨i + 1, rfl, ⟨?_, ?_⟩, ?_, ⟨by kernel_rfl, ⟨by kernel_rfl, by kernel_rfl, by kernel_rfl, by kernel_rfl, trivial⟩, ⟨.ptr ⟨by decide, rfl⟩, .slice ⟨by decide, rfl⟩, sub_clo rfl, sub_clo rfl, trivial⟩, Nat.le_of_ble_eq_true (by kernel_rfl), ⟨by kernel_rfl, (((wf_empty 0).new _).new _), (selfs (all_cons (o := rowL scells ss) (by kernel_rfl) (OSub.arr (subs_clo (flatL_clo scells_clo))) (all_cons (o := .cells [inlL kcells 2 rs, slL 0 3 ss.length, inlL kcells 2 ws]) (by kernel_rfl) (OSub.cells (.cons (sub_clo rfl) (.cons (.slice ⟨by decide, rfl⟩) (.cons (sub_clo rfl) .nil)))) (all_none))))⟩, mem_all (by kernel_rfl)⟩⟩
                · (try dsimp only); omega
                · (try dsimp only); exact NoI.succ (p := (fun i : Nat => badF ss i)) (by assumption) (by first | (refine ⟨by omega, ?_⟩; first | (rw [badF_iff2 (by assumption) (by assumption)]; omega) | (rw [badF_iff (by assumption)]; first | exact .inl (by omega) | exact .inr (.inl (by omega)))) | (rw [badF_iff2 (by assumption) (by assumption)]; omega) | (rw [badF_iff (by assumption)]; rintro (h | h | ⟨h, _⟩) <;> omega))
                · omega
              · have c15 : ¬ (¬ x11.1 = x4.1 ∨ x11.2.2 < 9223372036854775806 ∧ IntKind.wrap .i64 (x11.2.2 + 1) < x4.2.1) := of_decide_eq_false h14
                clear h14
                refine ald_chunk 4 (by kernel_rfl) ?_
                refine ald_nil ?_
                repeat' (with_reducible first | refine sk_seq ?_ | refine sk_block ?_ | refine sk_skip ?_ | refine sk_scope ?_)
                refine sk_true (by kernel_rfl) ?_
                repeat' (with_reducible first | refine sk_seq ?_ | refine sk_block ?_ | refine sk_skip ?_ | refine sk_scope ?_)
                refine sk_regionK Try.cfgOk hS (by kernel_rfl) ?_
                repeat' (with_reducible first | refine sk_seq ?_ | refine sk_block ?_ | refine sk_skip ?_ | refine sk_scope ?_)
                refine sk_ret ?_
                refine .inr ⟨_, _, (fun h => by cases h), .inr ⟨rfl, ?_, rfl, rfl⟩, ⟨by kernel_rfl, ⟨by kernel_rfl, trivial⟩, ⟨sub_clo rfl, trivial⟩, Nat.le_of_ble_eq_true (by kernel_rfl), ⟨by kernel_rfl, (((wf_empty 0).new _).new _), (selfs (all_cons (o := rowL scells ss) (by kernel_rfl) (OSub.arr (subs_clo (flatL_clo scells_clo))) (all_cons (o := .cells [inlL kcells 2 rs, slL 0 3 ss.length, inlL kcells 2 ws]) (by kernel_rfl) (OSub.cells (.cons (sub_clo rfl) (.cons (.slice ⟨by decide, rfl⟩) (.cons (sub_clo rfl) .nil)))) (all_none))))⟩, mem_all (by kernel_rfl)⟩⟩
                · first | (refine ⟨by omega, ?_⟩; first | (rw [badF_iff2 (by assumption) (by assumption)]; omega) | (rw [badF_iff (by assumption)]; first | exact .inl (by omega) | exact .inr (.inl (by omega)))) | (rw [badF_iff2 (by assumption) (by assumption)]; omega) | (rw [badF_iff (by assumption)]; rintro (h | h | ⟨h, _⟩) <;> omega)
          · have c10e : (decide ((((i : Nat) : Int) : Int) > 0)) = false := Eq.trans (by kernel_rfl) h9
            clear h9
            have c10 : ¬ (((i : Nat) : Int) : Int) > 0 := of_decide_eq_false c10e
            clear c10e
            refine ald_chunk 23 (by kernel_rfl) ?_
            refine ald_nil ?_
            repeat' (with_reducible first | refine sk_seq ?_ | refine sk_block ?_ | refine sk_skip ?_ | refine sk_scope ?_)
            refine sk_false (by kernel_rfl) ?_
            repeat' (with_reducible first | refine sk_seq ?_ | refine sk_block ?_ | refine sk_skip ?_ | refine sk_scope ?_)
            refine sk_regionL Try.cfgOk hS ?_
            refine al_eqv (v := .int .i64 (IntKind.wrap .i64 (((i : Nat) : Int) + 1))) (.int .i64 ((i + 1 : Nat) : Int)) (by kernel_rfl) (by kernel_rfl) (by kernel_rfl) (congrArg (Value.int .i64) (wrap_to (by omega) (by omega))) ?_
            refine al_known (by kernel_rfl) ?_
            repeat' (with_reducible first | refine sk_seq ?_ | refine sk_block ?_ | refine sk_skip ?_ | refine sk_scope ?_)
            refine .inl ⟨i + 1, rfl, ⟨?_, ?_⟩, ?_, ⟨by kernel_rfl, ⟨by kernel_rfl, by kernel_rfl, by kernel_rfl, by kernel_rfl, trivial⟩, ⟨.ptr ⟨by decide, rfl⟩, .slice ⟨by decide, rfl⟩, sub_clo rfl, sub_clo rfl, trivial⟩, Nat.le_of_ble_eq_true (by kernel_rfl), ⟨by kernel_rfl, (((wf_empty 0).new _).new _), (selfs (all_cons (o := rowL scells ss) (by kernel_rfl) (OSub.arr (subs_clo (flatL_clo scells_clo))) (all_cons (o := .cells [inlL kcells 2 rs, slL 0 3 ss.length, inlL kcells 2 ws]) (by kernel_rfl) (OSub.cells (.cons (sub_clo rfl) (.cons (.slice ⟨by decide, rfl⟩) (.cons (sub_clo rfl) .nil)))) (all_none))))⟩, mem_all (by kernel_rfl)⟩⟩
            · (try dsimp only); omega
            · (try dsimp only); exact NoI.succ (p := (fun i : Nat => badF ss i)) (by assumption) (by first | (refine ⟨by omega, ?_⟩; first | (rw [badF_iff2 (by assumption) (by assumption)]; omega) | (rw [badF_iff (by assumption)]; first | exact .inl (by omega) | exact .inr (.inl (by omega)))) | (rw [badF_iff2 (by assumption) (by assumption)]; omega) | (rw [badF_iff (by assumption)]; rintro (h | h | ⟨h, _⟩) <;> omega))
            · omega
      · have c6 : ¬ (0 ≤ x4.1 ∧ x4.1 < 4) := of_decide_eq_false h5
        clear h5
        refine ald_chunk 34 (by kernel_rfl) ?_
        refine ald_nil ?_
        repeat' (with_reducible first | refine sk_seq ?_ | refine sk_block ?_ | refine sk_skip ?_ | refine sk_scope ?_)
        refine sk_true (by kernel_rfl) ?_
        repeat' (with_reducible first | refine sk_seq ?_ | refine sk_block ?_ | refine sk_skip ?_ | refine sk_scope ?_)
        refine sk_regionK Try.cfgOk hS (by kernel_rfl) ?_
        repeat' (with_reducible first | refine sk_seq ?_ | refine sk_block ?_ | refine sk_skip ?_ | refine sk_scope ?_)
        refine sk_ret ?_
        refine .inr ⟨_, _, (fun h => by cases h), .inr ⟨rfl, ?_, rfl, rfl⟩, ⟨by kernel_rfl, ⟨by kernel_rfl, trivial⟩, ⟨sub_clo rfl, trivial⟩, Nat.le_of_ble_eq_true (by kernel_rfl), ⟨by kernel_rfl, (((wf_empty 0).new _).new _), (selfs (all_cons (o := rowL scells ss) (by kernel_rfl) (OSub.arr (subs_clo (flatL_clo scells_clo))) (all_cons (o := .cells [inlL kcells 2 rs, slL 0 3 ss.length, inlL kcells 2 ws]) (by kernel_rfl) (OSub.cells (.cons (sub_clo rfl) (.cons (.slice ⟨by decide, rfl⟩) (.cons (sub_clo rfl) .nil)))) (all_none))))⟩, mem_all (by kernel_rfl)⟩⟩
        · first | (refine ⟨by omega, ?_⟩; first | (rw [badF_iff2 (by assumption) (by assumption)]; omega) | (rw [badF_iff (by assumption)]; first | exact .inl (by omega) | exact .inr (.inl (by omega)))) | (rw [badF_iff2 (by assumption) (by assumption)]; omega) | (rw [badF_iff (by assumption)]; rintro (h | h | ⟨h, _⟩) <;> omega)
    · have c3e : (decide ((((i : Nat) : Int) : Int) < ((ss.length : Nat) : Int))) = false := Eq.trans (by kernel_rfl) h2
      clear h2
      have c3 : ¬ (((i : Nat) : Int) : Int) < ((ss.length : Nat) : Int) := of_decide_eq_false c3e
      clear c3e
      refine al_nil ?_
      repeat' (with_reducible first | refine sk_seq ?_ | refine sk_block ?_ | refine sk_skip ?_ | refine sk_scope ?_)
      refine sk_false (by kernel_rfl) ?_
      repeat' (with_reducible first | refine sk_seq ?_ | refine sk_block ?_ | refine sk_skip ?_ | refine sk_scope ?_)
      refine sk_exit ?_
      dsimp only
      refine .inr ⟨_, _, (fun h => by cases h), .inl ⟨rfl, ?_, rfl, rfl⟩, ⟨by kernel_rfl, ⟨by kernel_rfl, by kernel_rfl, by kernel_rfl, by kernel_rfl, trivial⟩, ⟨.ptr ⟨by decide, rfl⟩, .slice ⟨by decide, rfl⟩, sub_clo rfl, sub_clo rfl, trivial⟩, Nat.le_of_ble_eq_true (by kernel_rfl), ⟨by kernel_rfl, (((wf_empty 0).new _).new _), (selfs (all_cons (o := rowL scells ss) (by kernel_rfl) (OSub.arr (subs_clo (flatL_clo scells_clo))) (all_cons (o := .cells [inlL kcells 2 rs, slL 0 3 ss.length, inlL kcells 2 ws]) (by kernel_rfl) (OSub.cells (.cons (sub_clo rfl) (.cons (.slice ⟨by decide, rfl⟩) (.cons (sub_clo rfl) .nil)))) (all_none))))⟩, mem_all (by kernel_rfl)⟩⟩
      · omega
  · exact ⟨by ((try dsimp only); first | done | (omega)), by ((try dsimp only); first | done | (exact NoI.zero))⟩
  rintro o e1 s1 ⟨a, lv1, M1, m1, ha, (⟨rfl, hx, rfl, rfl⟩ | ⟨rfl, hx, rfl, rfl⟩), rfl, rfl⟩
  ·
    obtain ⟨i, ea⟩ : ∃ z, z = a := ⟨_, rfl⟩
    subst ea
    obtain ⟨i0, i1⟩ := ha
    dsimp only
    try rw [if_pos rfl]
    repeat' (with_reducible first | refine sk_seq ?_ | refine sk_block ?_ | refine sk_skip ?_ | refine sk_scope ?_)
    refine sk_regionL Try.cfgOk hS ?_
    refine al_chunk 2 (by kernel_rfl) ?_
    refine al_callB 37 [inlL kcells 2 rs] (tf (risingL rs)) _ rfl (fun b h => by cases h) (by kernel_rfl) (by kernel_rfl) (hC37 _ _ _ _ (con_risingP_at rs (by first | omega | (simp; done) | (simp; omega)) _)) (fun h16 => ?_) (fun h16 => ?_)
    · have c17 : risingL rs := tf_t h16
      clear h16
      refine al_chunk 3 (by kernel_rfl) ?_
      refine al_callB 37 [inlL kcells 2 ws] (tf (risingL ws)) _ rfl (fun b h => by cases h) (by kernel_rfl) (by kernel_rfl) (hC37 _ _ _ _ (con_risingP_at ws (by first | omega | (simp; done) | (simp; omega)) _)) (fun h18 => ?_) (fun h18 => ?_)
      · have c19 : risingL ws := tf_t h18
        clear h18
        refine al_known (by kernel_rfl) ?_
        repeat' (with_reducible first | refine sk_seq ?_ | refine sk_block ?_ | refine sk_skip ?_ | refine sk_scope ?_)
        refine sk_ret ?_
        exact ⟨[.bool true], by kernel_rfl, congrArg Value.bool (by first | (obtain ⟨q1, q2⟩ := hx; refine Eq.symm (tf_false fun h => ?_); exact h.1 ⟨_, q1, q2⟩) | exact (tf_true ⟨NoI.none (by assumption) hx, by assumption, by assumption⟩).symm | (refine Eq.symm (tf_false fun h => ?_); obtain ⟨_, h1, h2⟩ := h; first | exact absurd h1 (by assumption) | exact absurd h2 (by assumption))), Nat.le_of_ble_eq_true (by kernel_rfl), all1 (by kernel_rfl)⟩
      · have c19 : ¬ (risingL ws) := tf_f h18
        clear h18
        refine al_known (by kernel_rfl) ?_
        repeat' (with_reducible first | refine sk_seq ?_ | refine sk_block ?_ | refine sk_skip ?_ | refine sk_scope ?_)
        refine sk_ret ?_
        exact ⟨[.bool false], by kernel_rfl, congrArg Value.bool (by first | (obtain ⟨q1, q2⟩ := hx; refine Eq.symm (tf_false fun h => ?_); exact h.1 ⟨_, q1, q2⟩) | exact (tf_true ⟨NoI.none (by assumption) hx, by assumption, by assumption⟩).symm | (refine Eq.symm (tf_false fun h => ?_); obtain ⟨_, h1, h2⟩ := h; first | exact absurd h1 (by assumption) | exact absurd h2 (by assumption))), Nat.le_of_ble_eq_true (by kernel_rfl), all1 (by kernel_rfl)⟩
    · have c17 : ¬ (risingL rs) := tf_f h16
      clear h16
      refine al_known (by kernel_rfl) ?_
      repeat' (with_reducible first | refine sk_seq ?_ | refine sk_block ?_ | refine sk_skip ?_ | refine sk_scope ?_)
      refine sk_ret ?_
      exact ⟨[.bool false], by kernel_rfl, congrArg Value.bool (by first | (obtain ⟨q1, q2⟩ := hx; refine Eq.symm (tf_false fun h => ?_); exact h.1 ⟨_, q1, q2⟩) | exact (tf_true ⟨NoI.none (by assumption) hx, by assumption, by assumption⟩).symm | (refine Eq.symm (tf_false fun h => ?_); obtain ⟨_, h1, h2⟩ := h; first | exact absurd h1 (by assumption) | exact absurd h2 (by assumption))), Nat.le_of_ble_eq_true (by kernel_rfl), all1 (by kernel_rfl)⟩
  ·
    obtain ⟨i, ea⟩ : ∃ z, z = a := ⟨_, rfl⟩
    subst ea
    obtain ⟨i0, i1⟩ := ha
    dsimp only
    exact ⟨[.bool false], by kernel_rfl, congrArg Value.bool (by first | (obtain ⟨q1, q2⟩ := hx; refine Eq.symm (tf_false fun h => ?_); exact h.1 ⟨_, q1, q2⟩) | exact (tf_true ⟨NoI.none (by assumption) hx, by assumption, by assumption⟩).symm | (refine Eq.symm (tf_false fun h => ?_); obtain ⟨_, h1, h2⟩ := h; first | exact absurd h1 (by assumption) | exact absurd h2 (by assumption))), Nat.le_of_ble_eq_true (by kernel_rfl), all1 (by kernel_rfl)⟩
noncomputable def sm_goodPr : Small Try.prog 0 11 ((List Key) × (List Span) × (List Key)) where
  k := 1
  A := fun z9 ρ => [.agg #[inlL kcells 2 z9.1, slL (ρ 0) 3 z9.2.1.length, inlL kcells 2 z9.2.2]]
  M := fun z9 ρ => objL [rowL scells z9.2.1]
  M1 := fun z9 ρ => objL [rowL scells z9.2.1]
  V := fun z9 ρ => .bool (tf (goodP z9.1 z9.2.1 z9.2.2))
  Pre := fun z9 => (z9.1.length ≤ 1000000) ∧ (z9.2.1.length ≤ 1000000) ∧ (z9.2.2.length ≤ 1000000)
  ch := []
  N := 400
  s0 := fun z9 => ((St.empty 0).new (rowL scells z9.2.1))
  hch := by decide
  hsame := fun x ρ => all1 (fun _ => rfl)
  hG := rfl
  hn := fun x => rfl
  hwf := fun x => ((wf_empty 0).new _)
  hget := fun x => all1 (by kernel_rfl)
  noloop := fun x ρ => all1 (fun h => h.elim)
  inA := fun x ρ R hR => .cons (.agg (.cons (sub_clo rfl) (.cons (.slice (hR 0 _ (by decide))) (.cons (sub_clo rfl) .nil)))) .nil
  inM := fun x ρ R hR => all1 (OSub.arr (subs_clo (flatL_clo scells_clo)))
  outM := fun x ρ R hR => all1 (OSub.arr (subs_clo (flatL_clo scells_clo)))
  outV := fun x ρ R hR => sub_clo rfl
  dom := by
    intro x ρ a ha
    cases ha
  sc := by
    rintro ⟨a0, a1, a2⟩ ⟨p0, p1, p2⟩
    exact goodPr_sc a0 a1 a2 p0 p1 p2
  det := by
    rintro ⟨a0, a1, a2⟩ ρ ⟨b0, b1, b2⟩ σ s h hm hm'
    simp only [List.cons.injEq, and_true, Int.natCast_inj, Value.int.injEq, Value.bool.injEq, Value.string.injEq, Value.agg.injEq, Array.mk.injEq, true_and, Value.pointer.injEq, Option.some.injEq, Addr.mk.injEq, Value.func.injEq, AObj.cells.injEq, AObj.arr.injEq, slL_iff, kcells_iff, scells_row] at h
    have q0 : ρ 0 = σ 0 := by simp_all
    have e0 := (hm 0 (by decide)).symm.trans ((congrArg s.get q0).trans (hm' 0 (by decide)))
    simp only [objL, List.getD_cons_zero, List.getD_cons_succ, List.cons.injEq, and_true, Int.natCast_inj, Value.int.injEq, Value.bool.injEq, Value.string.injEq, Value.agg.injEq, Array.mk.injEq, true_and, Value.pointer.injEq, Option.some.injEq, Addr.mk.injEq, Value.func.injEq, AObj.cells.injEq, AObj.arr.injEq, slL_iff, kcells_iff, scells_row] at e0
    have q : ∀ a, a < 1 → ρ a = σ a := all1 q0
    clear hm hm'
    exact ⟨by first | rfl | (simp_all [Prod.ext_iff]; done) | exact e0, q⟩
  par := by
    intro x ρ σ h
    have h0 := h 0 (by decide)
    exact ⟨by first | rfl | simp only [h0], by first | exact fun _ _ => rfl | (intro a ha; simp only [h0])⟩
noncomputable def con_goodPr : Con Try.prog 0 := sm_goodPr.con
theorem con_goodPr_at (rs : List Key) (ss : List Span) (ws : List Key) (i0 : Nat) (h0 : rs.length ≤ 1000000) (h1 : ss.length ≤ 1000000) (h2 : ws.length ≤ 1000000) (s : St) (hn : nodupB [i0] = true) (m0 : s.get i0 = some (rowL scells ss)) : con_goodPr.rel [.agg #[inlL kcells 2 rs, slL i0 3 ss.length, inlL kcells 2 ws]] s (.bool (tf (goodP rs ss ws))) s :=
  sm_goodPr.at_ (rs, ss, ws) [i0] s _ ⟨h0, h1, h2⟩ rfl hn rfl (all1 m0) rfl rfl
theorem fputr_fn : Try.cfg.fn 24 = some Try.f24 := by kernel_rfl
set_option maxHeartbeats 4000000 in
set_option maxRecDepth 100000 in
theorem fputr_sc (rs : List Key) (ss : List Span) (ws : List Key) (h0 : okK rs) (h1 : okS ss) (h2 : okK ws) : SC Try.prog 0 24 [.agg #[inlL kcells 2 rs, slL 0 3 ss.length, inlL kcells 2 ws]] ((St.empty 0).new (rowL scells ss)) fun v s' => v = inlL bcells 1 (putP rs ss ws) ∧ s'.n ≤ 400 ∧ ∀ a, a < 1 → s'.get a = some (objL [rowL scells ss] a) := by
  obtain ⟨rc, hS, hC⟩ := rc_con (sound_run Try.cfgOk 300) [con_goodPr, con_putKeys, con_wcount, con_wnum, con_wout] (by kernel_rfl)
  have hC11 := hC con_goodPr (.head _)
  have hC50 := hC con_putKeys (.tail _ (.head _))
  have hC51 := hC con_wcount (.tail _ (.tail _ (.head _)))
  have hC52 := hC con_wnum (.tail _ (.tail _ (.tail _ (.head _))))
  have hC53 := hC con_wout (.tail _ (.tail _ (.tail _ (.tail _ (.head _)))))
  refine sc_iceK (k := 1) (N := 400) (v2 := inlL bcells 1 (putP rs ss ws)) (Ms := objL [rowL scells ss]) rfl ?_ (all1 (OSub.arr (subs_clo (flatL_clo scells_clo))))
  refine sc_body Try.cfgOk fputr_fn rfl ?_
  repeat' (with_reducible first | refine sk_seq ?_ | refine sk_block ?_ | refine sk_skip ?_ | refine sk_scope ?_)
  refine sk_regionK Try.cfgOk hS (by kernel_rfl) ?_
  repeat' (with_reducible first | refine sk_seq ?_ | refine sk_block ?_ | refine sk_skip ?_ | refine sk_scope ?_)
  refine sk_regionL Try.cfgOk hS ?_
  refine al_chunk 1 (by kernel_rfl) ?_
  refine al_callB 11 [.agg #[inlL kcells 2 rs, slL 0 3 ss.length, inlL kcells 2 ws]] (tf (goodP rs ss ws)) _ rfl (fun b h => by cases h) (by kernel_rfl) (by kernel_rfl) (hC11 _ _ _ _ (con_goodPr_at rs ss ws 0 (by first | omega | assumption | exact u64_lt _ | exact (h1.at_ (by assumption)).1 | exact (h1.at_ (by assumption)).2 | exact app_leN (by omega) (by have q := keysB_len h0; omega) | exact app_keys (by assumption) (by simp only [List.length_nil]; omega) | exact app_keys (by assumption) (by omega) | (exact app_le (by omega)) | exact app_leF (h1.at_ (by assumption)).1 (Nat.le_trans (Nat.add_le_add_right (app_le (Nat.le_refl _)) 10) (by omega)) | (have q := h0.1; omega) | (have q := h1.1; omega) | (have q := h2.1; omega) | simp) (by first | omega | assumption | exact u64_lt _ | exact (h1.at_ (by assumption)).1 | exact (h1.at_ (by assumption)).2 | exact app_leN (by omega) (by have q := keysB_len h0; omega) | exact app_keys (by assumption) (by simp only [List.length_nil]; omega) | exact app_keys (by assumption) (by omega) | (exact app_le (by omega)) | exact app_leF (h1.at_ (by assumption)).1 (Nat.le_trans (Nat.add_le_add_right (app_le (Nat.le_refl _)) 10) (by omega)) | (have q := h0.1; omega) | (have q := h1.1; omega) | (have q := h2.1; omega) | simp) (by first | omega | assumption | exact u64_lt _ | exact (h1.at_ (by assumption)).1 | exact (h1.at_ (by assumption)).2 | exact app_leN (by omega) (by have q := keysB_len h0; omega) | exact app_keys (by assumption) (by simp only [List.length_nil]; omega) | exact app_keys (by assumption) (by omega) | (exact app_le (by omega)) | exact app_leF (h1.at_ (by assumption)).1 (Nat.le_trans (Nat.add_le_add_right (app_le (Nat.le_refl _)) 10) (by omega)) | (have q := h0.1; omega) | (have q := h1.1; omega) | (have q := h2.1; omega) | simp) _ (by kernel_rfl) (by kernel_rfl) )) (fun h1 => ?_) (fun h1 => ?_)
  · have c2 : goodP rs ss ws := tf_t h1
    clear h1
    refine al_known (by kernel_rfl) ?_
    repeat' (with_reducible first | refine sk_seq ?_ | refine sk_block ?_ | refine sk_skip ?_ | refine sk_scope ?_)
    refine sk_false (by kernel_rfl) ?_
    repeat' (with_reducible first | refine sk_seq ?_ | refine sk_block ?_ | refine sk_skip ?_ | refine sk_scope ?_)
    refine sk_regionK Try.cfgOk hS (by kernel_rfl) ?_
    repeat' (with_reducible first | refine sk_seq ?_ | refine sk_block ?_ | refine sk_skip ?_ | refine sk_scope ?_)
    refine sk_live 48 [(1, .pointer (some ⟨1, 0, none⟩)), (3, .pointer (some ⟨2, 0, none⟩))] (by kernel_rfl) ⟨by kernel_rfl, by kernel_rfl, trivial⟩ fun m3 => ?_
    refine sk_st ((((St.empty 0).new (rowL scells ss)).new (.cells [inlL kcells 2 rs, slL 0 3 ss.length, inlL kcells 2 ws])).new (.cells [.slice none 0 0])) (by kernel_rfl) ?_
    refine virt_cell 3 2 0 1 [] [] (by decide) ((((wf_empty 0).new _).new _).new _) (by kernel_rfl) (by kernel_rfl) (by decide) ?_
    refine sk_st (((((St.empty 0).new (rowL scells ss)).new (.cells [inlL kcells 2 rs, slL 0 3 ss.length, inlL kcells 2 ws])).new (.cells [slL 3 1 (([] : List UInt8).length)])).new (rowL bcells ([] : List UInt8))) (by kernel_rfl) ?_
    repeat' (with_reducible first | refine sk_seq ?_ | refine sk_block ?_ | refine sk_skip ?_ | refine sk_scope ?_)
    refine sk_regionL Try.cfgOk hS ?_
    refine al_chunk 3 (by kernel_rfl) ?_
    refine al_callH 50 [.pointer (some ⟨2, 0, none⟩), inlL kcells 2 rs] (.tuple #[]) _ rfl (fun b h => by cases h) (by kernel_rfl) (by kernel_rfl) (hC50 _ _ _ _ (con_putKeys_at ([] : List UInt8) rs 2 3 (by first | omega | assumption | exact u64_lt _ | exact (h1.at_ (by assumption)).1 | exact (h1.at_ (by assumption)).2 | exact app_leN (by omega) (by have q := keysB_len h0; omega) | exact app_keys (by assumption) (by simp only [List.length_nil]; omega) | exact app_keys (by assumption) (by omega) | (exact app_le (by omega)) | exact app_leF (h1.at_ (by assumption)).1 (Nat.le_trans (Nat.add_le_add_right (app_le (Nat.le_refl _)) 10) (by omega)) | (have q := h0.1; omega) | (have q := h1.1; omega) | (have q := h2.1; omega) | simp) (by first | omega | assumption | exact u64_lt _ | exact (h1.at_ (by assumption)).1 | exact (h1.at_ (by assumption)).2 | exact app_leN (by omega) (by have q := keysB_len h0; omega) | exact app_keys (by assumption) (by simp only [List.length_nil]; omega) | exact app_keys (by assumption) (by omega) | (exact app_le (by omega)) | exact app_leF (h1.at_ (by assumption)).1 (Nat.le_trans (Nat.add_le_add_right (app_le (Nat.le_refl _)) 10) (by omega)) | (have q := h0.1; omega) | (have q := h1.1; omega) | (have q := h2.1; omega) | simp) _ (by kernel_rfl) (by kernel_rfl) (by kernel_rfl) )) ?_
    refine al_nil ?_
    repeat' (with_reducible first | refine sk_seq ?_ | refine sk_block ?_ | refine sk_skip ?_ | refine sk_scope ?_)
    refine sk_regionL Try.cfgOk hS ?_
    refine al_chunk 4 (by kernel_rfl) ?_
    refine al_eqv (v := .int .u64 (IntKind.wrap .u64 ((ss.length : Nat) : Int))) (.int .u64 ((ss.length : Nat) : Int)) (by kernel_rfl) (by kernel_rfl) (by kernel_rfl) (congrArg (Value.int .u64) ((wrap_u64 _).trans (congrArg Nat.cast (u64_nat (by first | omega | (have q := h1.1; omega)))))) ?_
    refine al_callH 51 [.pointer (some ⟨2, 0, none⟩), .int .u64 ((ss.length : Nat) : Int)] (.tuple #[]) _ rfl (fun b h => by cases h) (by kernel_rfl) (by kernel_rfl) (hC51 _ _ _ _ (con_wcount_at (([] : List UInt8) ++ keysB rs) ss.length 2 3 (by first | omega | assumption | exact u64_lt _ | exact (h1.at_ (by assumption)).1 | exact (h1.at_ (by assumption)).2 | exact app_leN (by omega) (by have q := keysB_len h0; omega) | exact app_keys (by assumption) (by simp only [List.length_nil]; omega) | exact app_keys (by assumption) (by omega) | (exact app_le (by omega)) | exact app_leF (h1.at_ (by assumption)).1 (Nat.le_trans (Nat.add_le_add_right (app_le (Nat.le_refl _)) 10) (by omega)) | (have q := h0.1; omega) | (have q := h1.1; omega) | (have q := h2.1; omega) | simp) (by first | omega | assumption | exact u64_lt _ | exact (h1.at_ (by assumption)).1 | exact (h1.at_ (by assumption)).2 | exact app_leN (by omega) (by have q := keysB_len h0; omega) | exact app_keys (by assumption) (by simp only [List.length_nil]; omega) | exact app_keys (by assumption) (by omega) | (exact app_le (by omega)) | exact app_leF (h1.at_ (by assumption)).1 (Nat.le_trans (Nat.add_le_add_right (app_le (Nat.le_refl _)) 10) (by omega)) | (have q := h0.1; omega) | (have q := h1.1; omega) | (have q := h2.1; omega) | simp) _ (by kernel_rfl) (by kernel_rfl) (by kernel_rfl) )) ?_
    refine al_nil ?_
    repeat' (with_reducible first | refine sk_seq ?_ | refine sk_block ?_ | refine sk_skip ?_ | refine sk_scope ?_)
    refine sk_regionK Try.cfgOk hS (by kernel_rfl) ?_
    repeat' (with_reducible first | refine sk_seq ?_ | refine sk_block ?_ | refine sk_skip ?_ | refine sk_scope ?_)
    refine sk_live 48 ((fun a : Nat × (List UInt8) => [(1, .pointer (some ⟨1, 0, none⟩)), (3, .pointer (some ⟨2, 0, none⟩)), (22, slL 0 3 ss.length), (23, .int .i64 ((ss.length : Nat) : Int)), (24, .int .i64 ((a.1 : Nat) : Int))]) (0, ((([] : List UInt8) ++ keysB rs) ++ uv ss.length))) (by kernel_rfl) ⟨by kernel_rfl, by kernel_rfl, by kernel_rfl, by kernel_rfl, by kernel_rfl, trivial⟩ fun m4 => ?_
    refine sk_st ((fun a : Nat × (List UInt8) => (((((St.empty 0).new (rowL scells ss)).new (.cells [inlL kcells 2 rs, slL 0 3 ss.length, inlL kcells 2 ws])).new (.cells [slL 3 1 a.2.length])).new (rowL bcells a.2))) (0, ((([] : List UInt8) ++ keysB rs) ++ uv ss.length))) (by kernel_rfl) ?_
    refine (sk_while (k := 4) (N := 400) (live := (fun a : Nat × (List UInt8) => [(1, .pointer (some ⟨1, 0, none⟩)), (3, .pointer (some ⟨2, 0, none⟩)), (22, slL 0 3 ss.length), (23, .int .i64 ((ss.length : Nat) : Int)), (24, .int .i64 ((a.1 : Nat) : Int))])) (M := (fun a : Nat × (List UInt8) => (((((St.empty 0).new (rowL scells ss)).new (.cells [inlL kcells 2 rs, slL 0 3 ss.length, inlL kcells 2 ws])).new (.cells [slL 3 1 a.2.length])).new (rowL bcells a.2)))) (fun a : Nat × (List UInt8) => (a.1 ≤ ss.length) ∧ (a.2 = keysB rs ++ (uv ss.length ++ catB sb (ss.take a.1))) ∧ (a.2.length ≤ 80020 + 30 * a.1) ∧ (ss.length ≤ 4000)) (fun a : Nat × (List UInt8) => ss.length - a.1) (fun (a : Nat × (List UInt8)) (o : Out) (lv : List (Nat × Value)) (M : St) => (o = .exit 0 ∧ (¬ a.1 < ss.length) ∧ lv = [(1, .pointer (some ⟨1, 0, none⟩)), (3, .pointer (some ⟨2, 0, none⟩)), (22, slL 0 3 ss.length), (23, .int .i64 ((ss.length : Nat) : Int)), (24, .int .i64 ((a.1 : Nat) : Int))] ∧ M = (((((St.empty 0).new (rowL scells ss)).new (.cells [inlL kcells 2 rs, slL 0 3 ss.length, inlL kcells 2 ws])).new (.cells [slL 3 1 a.2.length])).new (rowL bcells a.2)))) (Nat.zero_le _) (fun a ha => ?_) (fun a ha => ?_) (fun a m ha => ?_) (fun a m ha => ?_) (0, ((([] : List UInt8) ++ keysB rs) ++ uv ss.length)) m4 ?_).up ?_
    · exact ⟨by kernel_rfl, (((((wf_empty 0).new _).new _).new _).new _), (selfs (all_cons (o := rowL scells ss) (by kernel_rfl) (OSub.arr (subs_clo (flatL_clo scells_clo))) (all_cons (o := .cells [inlL kcells 2 rs, slL 0 3 ss.length, inlL kcells 2 ws]) (by kernel_rfl) (OSub.cells (.cons (sub_clo rfl) (.cons (.slice ⟨by decide, rfl⟩) (.cons (sub_clo rfl) .nil)))) (all_cons (o := .cells [slL 3 1 a.2.length]) (by kernel_rfl) (OSub.cells (.cons (.slice ⟨by decide, rfl⟩) .nil)) (all_cons (o := rowL bcells a.2) (by kernel_rfl) (OSub.arr (subs_clo (flatL_clo bcells_clo))) (all_none))))))⟩
    · exact ⟨.ptr ⟨by decide, rfl⟩, .ptr ⟨by decide, rfl⟩, .slice ⟨by decide, rfl⟩, sub_clo rfl, sub_clo rfl, trivial⟩
    · exact ⟨by kernel_rfl, by kernel_rfl, by kernel_rfl, by kernel_rfl, by kernel_rfl, trivial⟩
    · obtain ⟨i, l⟩ := a
      obtain ⟨i0, i1, i2, i3⟩ := ha
      dsimp only at i0 i1 i2 i3
      repeat' (with_reducible first | refine sk_seq ?_ | refine sk_block ?_ | refine sk_skip ?_ | refine sk_scope ?_)
      refine sk_regionL Try.cfgOk hS ?_
      refine al_test (by kernel_rfl) (by kernel_rfl) (by kernel_rfl) (fun h5 => ?_) (fun h5 => ?_)
      · have c6e : (decide ((((i : Nat) : Int) : Int) < ((ss.length : Nat) : Int))) = true := Eq.trans (by kernel_rfl) h5
        clear h5
        have c6 : (((i : Nat) : Int) : Int) < ((ss.length : Nat) : Int) := of_decide_eq_true c6e
        clear c6e
        refine al_nil ?_
        repeat' (with_reducible first | refine sk_seq ?_ | refine sk_block ?_ | refine sk_skip ?_ | refine sk_scope ?_)
        refine sk_true (by kernel_rfl) ?_
        repeat' (with_reducible first | refine sk_seq ?_ | refine sk_block ?_ | refine sk_skip ?_ | refine sk_scope ?_)
        refine sk_regionL Try.cfgOk hS ?_
        refine al_map (indexAddrV Try.cfg 23 (slL 0 3 ss.length) (.int .i64 ((i : Nat) : Int))) (.pointer (some ⟨0, i * 3, some (ss.length * 3)⟩)) (by kernel_rfl) (by kernel_rfl) (by kernel_rfl) (idx_rowL (by kernel_rfl) (by omega)) ?_
        obtain ⟨x7, hx7⟩ := get_ex (l := ss) (i := i) (by omega)
        refine al_map (loadV Try.cfg (((((St.empty 0).new (rowL scells ss)).new (.cells [inlL kcells 2 rs, slL 0 3 ss.length, inlL kcells 2 ws])).new (.cells [slL 3 1 l.length])).new (rowL bcells l)) 32 (.pointer (some ⟨0, i * 3, some (ss.length * 3)⟩))) (.agg #[.int .i64 x7.1, .int .i64 x7.2.1, .int .i64 x7.2.2]) (by kernel_rfl) (by kernel_rfl) (by kernel_rfl) (load_rowL (l := ss) (by kernel_rfl) scells_len (by kernel_rfl) hx7) ?_
        refine al_known (by kernel_rfl) ?_
        repeat' (with_reducible first | refine sk_seq ?_ | refine sk_block ?_ | refine sk_skip ?_ | refine sk_scope ?_)
        refine sk_regionL Try.cfgOk hS ?_
        refine al_chunk 3 (by kernel_rfl) ?_
        refine al_eqv (v := .int .u64 (IntKind.wrap .u64 x7.1)) (.int .u64 ((u64 x7.1 : Nat) : Int)) (by kernel_rfl) (by kernel_rfl) (by kernel_rfl) (congrArg (Value.int .u64) (wrap_u64 _)) ?_
        refine al_callH 51 [.pointer (some ⟨2, 0, none⟩), .int .u64 ((u64 x7.1 : Nat) : Int)] (.tuple #[]) _ rfl (fun b h => by cases h) (by kernel_rfl) (by kernel_rfl) (hC51 _ _ _ _ (con_wcount_at l (u64 x7.1) 2 3 (by first | omega | assumption | exact u64_lt _ | exact (h1.at_ (by assumption)).1 | exact (h1.at_ (by assumption)).2 | exact app_leN (by omega) (by have q := keysB_len h0; omega) | exact app_keys (by assumption) (by simp only [List.length_nil]; omega) | exact app_keys (by assumption) (by omega) | (exact app_le (by omega)) | exact app_leF (h1.at_ (by assumption)).1 (Nat.le_trans (Nat.add_le_add_right (app_le (Nat.le_refl _)) 10) (by omega)) | (have q := h0.1; omega) | (have q := h1.1; omega) | (have q := h2.1; omega) | simp) (by first | omega | assumption | exact u64_lt _ | exact (h1.at_ (by assumption)).1 | exact (h1.at_ (by assumption)).2 | exact app_leN (by omega) (by have q := keysB_len h0; omega) | exact app_keys (by assumption) (by simp only [List.length_nil]; omega) | exact app_keys (by assumption) (by omega) | (exact app_le (by omega)) | exact app_leF (h1.at_ (by assumption)).1 (Nat.le_trans (Nat.add_le_add_right (app_le (Nat.le_refl _)) 10) (by omega)) | (have q := h0.1; omega) | (have q := h1.1; omega) | (have q := h2.1; omega) | simp) _ (by kernel_rfl) (by kernel_rfl) (by kernel_rfl) )) ?_
        refine al_nil ?_
        repeat' (with_reducible first | refine sk_seq ?_ | refine sk_block ?_ | refine sk_skip ?_ | refine sk_scope ?_)
        refine sk_regionL Try.cfgOk hS ?_
        refine al_chunk 3 (by kernel_rfl) ?_
        refine al_callH 52 [.pointer (some ⟨2, 0, none⟩), .int .i64 x7.2.1] (.tuple #[]) _ rfl (fun b h => by cases h) (by kernel_rfl) (by kernel_rfl) (hC52 _ _ _ _ (con_wnum_at (l ++ uv (u64 x7.1)) x7.2.1 2 3 (by first | omega | assumption | exact u64_lt _ | exact (h1.at_ (by assumption)).1 | exact (h1.at_ (by assumption)).2 | exact app_leN (by omega) (by have q := keysB_len h0; omega) | exact app_keys (by assumption) (by simp only [List.length_nil]; omega) | exact app_keys (by assumption) (by omega) | (exact app_le (by omega)) | exact app_leF (h1.at_ (by assumption)).1 (Nat.le_trans (Nat.add_le_add_right (app_le (Nat.le_refl _)) 10) (by omega)) | (have q := h0.1; omega) | (have q := h1.1; omega) | (have q := h2.1; omega) | simp) (by first | omega | assumption | exact u64_lt _ | exact (h1.at_ (by assumption)).1 | exact (h1.at_ (by assumption)).2 | exact app_leN (by omega) (by have q := keysB_len h0; omega) | exact app_keys (by assumption) (by simp only [List.length_nil]; omega) | exact app_keys (by assumption) (by omega) | (exact app_le (by omega)) | exact app_leF (h1.at_ (by assumption)).1 (Nat.le_trans (Nat.add_le_add_right (app_le (Nat.le_refl _)) 10) (by omega)) | (have q := h0.1; omega) | (have q := h1.1; omega) | (have q := h2.1; omega) | simp) _ (by kernel_rfl) (by kernel_rfl) (by kernel_rfl) )) ?_
        refine al_nil ?_
        repeat' (with_reducible first | refine sk_seq ?_ | refine sk_block ?_ | refine sk_skip ?_ | refine sk_scope ?_)
        refine sk_regionL Try.cfgOk hS ?_
        refine al_chunk 3 (by kernel_rfl) ?_
        refine al_callH 52 [.pointer (some ⟨2, 0, none⟩), .int .i64 x7.2.2] (.tuple #[]) _ rfl (fun b h => by cases h) (by kernel_rfl) (by kernel_rfl) (hC52 _ _ _ _ (con_wnum_at ((l ++ uv (u64 x7.1)) ++ uv (fold x7.2.1)) x7.2.2 2 3 (by first | omega | assumption | exact u64_lt _ | exact (h1.at_ (by assumption)).1 | exact (h1.at_ (by assumption)).2 | exact app_leN (by omega) (by have q := keysB_len h0; omega) | exact app_keys (by assumption) (by simp only [List.length_nil]; omega) | exact app_keys (by assumption) (by omega) | (exact app_le (by omega)) | exact app_leF (h1.at_ (by assumption)).1 (Nat.le_trans (Nat.add_le_add_right (app_le (Nat.le_refl _)) 10) (by omega)) | (have q := h0.1; omega) | (have q := h1.1; omega) | (have q := h2.1; omega) | simp) (by first | omega | assumption | exact u64_lt _ | exact (h1.at_ (by assumption)).1 | exact (h1.at_ (by assumption)).2 | exact app_leN (by omega) (by have q := keysB_len h0; omega) | exact app_keys (by assumption) (by simp only [List.length_nil]; omega) | exact app_keys (by assumption) (by omega) | (exact app_le (by omega)) | exact app_leF (h1.at_ (by assumption)).1 (Nat.le_trans (Nat.add_le_add_right (app_le (Nat.le_refl _)) 10) (by omega)) | (have q := h0.1; omega) | (have q := h1.1; omega) | (have q := h2.1; omega) | simp) _ (by kernel_rfl) (by kernel_rfl) (by kernel_rfl) )) ?_
        refine al_nil ?_
        repeat' (with_reducible first | refine sk_seq ?_ | refine sk_block ?_ | refine sk_skip ?_ | refine sk_scope ?_)
        refine sk_regionL Try.cfgOk hS ?_
        refine al_eqv (v := .int .i64 (IntKind.wrap .i64 (((i : Nat) : Int) + 1))) (.int .i64 ((i + 1 : Nat) : Int)) (by kernel_rfl) (by kernel_rfl) (by kernel_rfl) (congrArg (Value.int .i64) (wrap_to (by omega) (by omega))) ?_
        refine al_known (by kernel_rfl) ?_
        repeat' (with_reducible first | refine sk_seq ?_ | refine sk_block ?_ | refine sk_skip ?_ | refine sk_scope ?_)
        refine .inl ⟨(i + 1, (((l ++ uv (u64 x7.1)) ++ uv (fold x7.2.1)) ++ uv (fold x7.2.2))), rfl, ⟨?_, ?_, ?_, ?_⟩, ?_, ⟨by kernel_rfl, ⟨by kernel_rfl, by kernel_rfl, by kernel_rfl, by kernel_rfl, by kernel_rfl, trivial⟩, ⟨.ptr ⟨by decide, rfl⟩, .ptr ⟨by decide, rfl⟩, .slice ⟨by decide, rfl⟩, sub_clo rfl, sub_clo rfl, trivial⟩, Nat.le_of_ble_eq_true (by kernel_rfl), ⟨by kernel_rfl, (((((wf_empty 0).new _).new _).new _).new _), (selfs (all_cons (o := rowL scells ss) (by kernel_rfl) (OSub.arr (subs_clo (flatL_clo scells_clo))) (all_cons (o := .cells [inlL kcells 2 rs, slL 0 3 ss.length, inlL kcells 2 ws]) (by kernel_rfl) (OSub.cells (.cons (sub_clo rfl) (.cons (.slice ⟨by decide, rfl⟩) (.cons (sub_clo rfl) .nil)))) (all_cons (o := .cells [slL 3 1 ((((l ++ uv (u64 x7.1)) ++ uv (fold x7.2.1)) ++ uv (fold x7.2.2)).length)]) (by kernel_rfl) (OSub.cells (.cons (.slice ⟨by decide, rfl⟩) .nil)) (all_cons (o := rowL bcells (((l ++ uv (u64 x7.1)) ++ uv (fold x7.2.1)) ++ uv (fold x7.2.2))) (by kernel_rfl) (OSub.arr (subs_clo (flatL_clo bcells_clo))) (all_none))))))⟩, mem_all (by kernel_rfl)⟩⟩
        · (try dsimp only); omega
        · (try dsimp only); rw [i1, catB_succ (by assumption)]; simp only [sb, List.append_assoc]
        · (try dsimp only); exact Nat.le_trans (sb_len (h1.at_ (by assumption))) (by omega)
        · (try dsimp only); assumption
        · omega
      · have c6e : (decide ((((i : Nat) : Int) : Int) < ((ss.length : Nat) : Int))) = false := Eq.trans (by kernel_rfl) h5
        clear h5
        have c6 : ¬ (((i : Nat) : Int) : Int) < ((ss.length : Nat) : Int) := of_decide_eq_false c6e
        clear c6e
        refine al_nil ?_
        repeat' (with_reducible first | refine sk_seq ?_ | refine sk_block ?_ | refine sk_skip ?_ | refine sk_scope ?_)
        refine sk_false (by kernel_rfl) ?_
        repeat' (with_reducible first | refine sk_seq ?_ | refine sk_block ?_ | refine sk_skip ?_ | refine sk_scope ?_)
        refine sk_exit ?_
        dsimp only
        refine .inr ⟨_, _, (fun h => by cases h), ⟨rfl, ?_, rfl, rfl⟩, ⟨by kernel_rfl, ⟨by kernel_rfl, by kernel_rfl, by kernel_rfl, by kernel_rfl, by kernel_rfl, trivial⟩, ⟨.ptr ⟨by decide, rfl⟩, .ptr ⟨by decide, rfl⟩, .slice ⟨by decide, rfl⟩, sub_clo rfl, sub_clo rfl, trivial⟩, Nat.le_of_ble_eq_true (by kernel_rfl), ⟨by kernel_rfl, (((((wf_empty 0).new _).new _).new _).new _), (selfs (all_cons (o := rowL scells ss) (by kernel_rfl) (OSub.arr (subs_clo (flatL_clo scells_clo))) (all_cons (o := .cells [inlL kcells 2 rs, slL 0 3 ss.length, inlL kcells 2 ws]) (by kernel_rfl) (OSub.cells (.cons (sub_clo rfl) (.cons (.slice ⟨by decide, rfl⟩) (.cons (sub_clo rfl) .nil)))) (all_cons (o := .cells [slL 3 1 l.length]) (by kernel_rfl) (OSub.cells (.cons (.slice ⟨by decide, rfl⟩) .nil)) (all_cons (o := rowL bcells l) (by kernel_rfl) (OSub.arr (subs_clo (flatL_clo bcells_clo))) (all_none))))))⟩, mem_all (by kernel_rfl)⟩⟩
        · omega
    · exact ⟨by ((try dsimp only); first | done | (omega)), by ((try dsimp only); first | done | (simp [catB])), by ((try dsimp only); first | done | (exact app_leN (by have := h1.1; omega) (by have := keysB_len h0; simp only [List.nil_append]; omega))), by ((try dsimp only); first | done | (exact h1.1))⟩
    rintro o e1 s1 ⟨a, lv1, M1, m4, ha, ⟨rfl, hx, rfl, rfl⟩, rfl, rfl⟩
    obtain ⟨i, l⟩ := a
    obtain ⟨i0, i1, i2, i3⟩ := ha
    dsimp only at hx i0 i1 i2 i3
    dsimp only
    try rw [if_pos rfl]
    repeat' (with_reducible first | refine sk_seq ?_ | refine sk_block ?_ | refine sk_skip ?_ | refine sk_scope ?_)
    refine sk_regionL Try.cfgOk hS ?_
    refine al_chunk 3 (by kernel_rfl) ?_
    refine al_callH 50 [.pointer (some ⟨2, 0, none⟩), inlL kcells 2 ws] (.tuple #[]) _ rfl (fun b h => by cases h) (by kernel_rfl) (by kernel_rfl) (hC50 _ _ _ _ (con_putKeys_at l ws 2 3 (by first | omega | assumption | exact u64_lt _ | exact (h1.at_ (by assumption)).1 | exact (h1.at_ (by assumption)).2 | exact app_leN (by omega) (by have q := keysB_len h0; omega) | exact app_keys (by assumption) (by simp only [List.length_nil]; omega) | exact app_keys (by assumption) (by omega) | (exact app_le (by omega)) | exact app_leF (h1.at_ (by assumption)).1 (Nat.le_trans (Nat.add_le_add_right (app_le (Nat.le_refl _)) 10) (by omega)) | (have q := h0.1; omega) | (have q := h1.1; omega) | (have q := h2.1; omega) | simp) (by first | omega | assumption | exact u64_lt _ | exact (h1.at_ (by assumption)).1 | exact (h1.at_ (by assumption)).2 | exact app_leN (by omega) (by have q := keysB_len h0; omega) | exact app_keys (by assumption) (by simp only [List.length_nil]; omega) | exact app_keys (by assumption) (by omega) | (exact app_le (by omega)) | exact app_leF (h1.at_ (by assumption)).1 (Nat.le_trans (Nat.add_le_add_right (app_le (Nat.le_refl _)) 10) (by omega)) | (have q := h0.1; omega) | (have q := h1.1; omega) | (have q := h2.1; omega) | simp) _ (by kernel_rfl) (by kernel_rfl) (by kernel_rfl) )) ?_
    refine al_nil ?_
    repeat' (with_reducible first | refine sk_seq ?_ | refine sk_block ?_ | refine sk_skip ?_ | refine sk_scope ?_)
    refine sk_regionL Try.cfgOk hS ?_
    refine al_chunk 1 (by kernel_rfl) ?_
    refine al_callH 53 [.pointer (some ⟨2, 0, none⟩)] (inlL bcells 1 (l ++ keysB ws)) _ rfl (fun b h => by cases h) (by kernel_rfl) (by kernel_rfl) (hC53 _ _ _ _ (con_wout_at (l ++ keysB ws) 2 3 (by first | omega | assumption | exact u64_lt _ | exact (h1.at_ (by assumption)).1 | exact (h1.at_ (by assumption)).2 | exact app_leN (by omega) (by have q := keysB_len h0; omega) | exact app_keys (by assumption) (by simp only [List.length_nil]; omega) | exact app_keys (by assumption) (by omega) | (exact app_le (by omega)) | exact app_leF (h1.at_ (by assumption)).1 (Nat.le_trans (Nat.add_le_add_right (app_le (Nat.le_refl _)) 10) (by omega)) | (have q := h0.1; omega) | (have q := h1.1; omega) | (have q := h2.1; omega) | simp) _ (by kernel_rfl) (by kernel_rfl) (by kernel_rfl) )) ?_
    refine al_known (by kernel_rfl) ?_
    repeat' (with_reducible first | refine sk_seq ?_ | refine sk_block ?_ | refine sk_skip ?_ | refine sk_scope ?_)
    refine sk_ret ?_
    exact ⟨[inlL bcells 1 (l ++ keysB ws)], by kernel_rfl, fs_to (fs_clo rfl) (congrArg (inlL bcells 1) (by first | (rw [putP, tf_false (by assumption)]; rfl) | (rw [putP, tf_true (by assumption), if_pos rfl, i1, List.take_of_length_le (by omega)]; simp only [footB, spansB, List.append_assoc]))), Nat.le_of_ble_eq_true (by kernel_rfl), all1 (by kernel_rfl)⟩
  · have c2 : ¬ (goodP rs ss ws) := tf_f h1
    clear h1
    refine al_known (by kernel_rfl) ?_
    repeat' (with_reducible first | refine sk_seq ?_ | refine sk_block ?_ | refine sk_skip ?_ | refine sk_scope ?_)
    refine sk_true (by kernel_rfl) ?_
    repeat' (with_reducible first | refine sk_seq ?_ | refine sk_block ?_ | refine sk_skip ?_ | refine sk_scope ?_)
    refine sk_regionK Try.cfgOk hS (by kernel_rfl) ?_
    repeat' (with_reducible first | refine sk_seq ?_ | refine sk_block ?_ | refine sk_skip ?_ | refine sk_scope ?_)
    refine sk_ret ?_
    exact ⟨[.slice none 0 0], by kernel_rfl, fs_to (fs_nilL (f := bcells) (sz := 1) (by decide)) (congrArg (inlL bcells 1) (by first | (rw [putP, tf_false (by assumption)]; rfl) | (rw [putP, tf_true (by assumption), if_pos rfl, i1, List.take_of_length_le (by omega)]; simp only [footB, spansB, List.append_assoc]))), Nat.le_of_ble_eq_true (by kernel_rfl), all1 (by kernel_rfl)⟩
noncomputable def sm_fputr : Small Try.prog 0 24 ((List Key) × (List Span) × (List Key)) where
  k := 1
  A := fun z9 ρ => [.agg #[inlL kcells 2 z9.1, slL (ρ 0) 3 z9.2.1.length, inlL kcells 2 z9.2.2]]
  M := fun z9 ρ => objL [rowL scells z9.2.1]
  M1 := fun z9 ρ => objL [rowL scells z9.2.1]
  V := fun z9 ρ => inlL bcells 1 (putP z9.1 z9.2.1 z9.2.2)
  Pre := fun z9 => (okK z9.1) ∧ (okS z9.2.1) ∧ (okK z9.2.2)
  ch := []
  N := 400
  s0 := fun z9 => ((St.empty 0).new (rowL scells z9.2.1))
  hch := by decide
  hsame := fun x ρ => all1 (fun _ => rfl)
  hG := rfl
  hn := fun x => rfl
  hwf := fun x => ((wf_empty 0).new _)
  hget := fun x => all1 (by kernel_rfl)
  noloop := fun x ρ => all1 (fun h => h.elim)
  inA := fun x ρ R hR => .cons (.agg (.cons (sub_clo rfl) (.cons (.slice (hR 0 _ (by decide))) (.cons (sub_clo rfl) .nil)))) .nil
  inM := fun x ρ R hR => all1 (OSub.arr (subs_clo (flatL_clo scells_clo)))
  outM := fun x ρ R hR => all1 (OSub.arr (subs_clo (flatL_clo scells_clo)))
  outV := fun x ρ R hR => sub_clo rfl
  dom := by
    intro x ρ a ha
    cases ha
  sc := by
    rintro ⟨a0, a1, a2⟩ ⟨p0, p1, p2⟩
    exact fputr_sc a0 a1 a2 p0 p1 p2
  det := by
    rintro ⟨a0, a1, a2⟩ ρ ⟨b0, b1, b2⟩ σ s h hm hm'
    simp only [List.cons.injEq, and_true, Int.natCast_inj, Value.int.injEq, Value.bool.injEq, Value.string.injEq, Value.agg.injEq, Array.mk.injEq, true_and, Value.pointer.injEq, Option.some.injEq, Addr.mk.injEq, Value.func.injEq, AObj.cells.injEq, AObj.arr.injEq, slL_iff, kcells_iff, scells_row] at h
    have q0 : ρ 0 = σ 0 := by simp_all
    have e0 := (hm 0 (by decide)).symm.trans ((congrArg s.get q0).trans (hm' 0 (by decide)))
    simp only [objL, List.getD_cons_zero, List.getD_cons_succ, List.cons.injEq, and_true, Int.natCast_inj, Value.int.injEq, Value.bool.injEq, Value.string.injEq, Value.agg.injEq, Array.mk.injEq, true_and, Value.pointer.injEq, Option.some.injEq, Addr.mk.injEq, Value.func.injEq, AObj.cells.injEq, AObj.arr.injEq, slL_iff, kcells_iff, scells_row] at e0
    have q : ∀ a, a < 1 → ρ a = σ a := all1 q0
    clear hm hm'
    exact ⟨by first | rfl | (simp_all [Prod.ext_iff]; done) | exact e0, q⟩
  par := by
    intro x ρ σ h
    have h0 := h 0 (by decide)
    exact ⟨by first | rfl | simp only [h0], by first | exact fun _ _ => rfl | (intro a ha; simp only [h0])⟩
noncomputable def con_fputr : Con Try.prog 0 := sm_fputr.con
theorem con_fputr_at (rs : List Key) (ss : List Span) (ws : List Key) (i0 : Nat) (h0 : okK rs) (h1 : okS ss) (h2 : okK ws) (s : St) (hn : nodupB [i0] = true) (m0 : s.get i0 = some (rowL scells ss)) : con_fputr.rel [.agg #[inlL kcells 2 rs, slL i0 3 ss.length, inlL kcells 2 ws]] s (inlL bcells 1 (putP rs ss ws)) s :=
  sm_fputr.at_ (rs, ss, ws) [i0] s _ ⟨h0, h1, h2⟩ rfl hn rfl (all1 m0) rfl rfl
end Go.Proofs.Ytekeepgjegkedaa