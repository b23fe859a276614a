/- AsmLines: the walk of the law. -/
import Derived.Test.YtgplkbfjlidinaaDoorPrint
set_option linter.unusedVariables false
set_option linter.unusedSimpArgs false
set_option linter.unnecessarySimpa false
namespace Go.Proofs.YtgplkbfjlidinaaDoor
open Go.Ai
noncomputable def con_alive : Con Tryd.prog 1001 := Con.pure (α := Unit) 5 (fun z9 => []) (fun z9 => .bool true) (fun z9 => True) (by
  intro x y _; rfl) (fun _ => rfl) (fun _ => rfl) 400 (by
  intro x hp; exact alive_sc)
theorem con_alive_at   (s : St) : con_alive.rel [] s (.bool true) s := con_pure () trivial s
theorem linesBad_fn : Tryd.cfg.fn 3 = some Tryd.f3 := by kernel_rfl
set_option maxHeartbeats 4000000 in
set_option maxRecDepth 100000 in
theorem linesBad_sc (op : Int) (qa : Int) (qb : Int) (qc : Int) (qt : Int) (qn : Int) (wo : Int) (h0 : ¬ (0 ≤ op ∧ op < 16)) : SC Tryd.prog 1001 3 [.agg #[.int .i64 op, .int .i64 qa, .int .i64 qb, .int .i64 qc, .int .i64 qt, .int .i64 qn], .int .i64 wo] (St.empty 0) fun v s' => v = .bool true ∧ s'.n ≤ 400 := by
  obtain ⟨rc, hS, hC, hR⟩ := rc_con2 (sound_run Tryd.cfgOk 300) [con_alive, con_lineBad, con_aword, con_rword] (by kernel_rfl)
  have hC5 := hC con_alive (.head _)
  have hC6 := hC con_lineBad (.tail _ (.head _))
  have hC7 := hC con_aword (.tail _ (.tail _ (.head _)))
  have hC8 := hC con_rword (.tail _ (.tail _ (.tail _ (.head _))))
  refine sc_ice0 (N := 400) (v2 := .bool true) (Q := fun v s' => FS 0 s' v (.bool true) ∧ s'.n ≤ 400) ?_ (fun _ _ h => h)
  refine sc_body Tryd.cfgOk linesBad_fn rfl ?_
  refine sk_seq ?_
  refine kK Tryd.cfgOk hS ?_
  refine sk_seq (sk_seq ?_)
  refine sk_regionL Tryd.cfgOk hS ?_
  refine aC 5 [] (.bool true) _ rfl (hC5 _ _ _ _ (con_alive_at   _)) ?_
  refine aN ?_
  refine kF ?_
  refine sk_skip (sk_seq ?_)
  refine sk_regionL Tryd.cfgOk hS ?_
  refine aK 1 ?_
  refine aC 6 [.agg #[.int .i64 op, .int .i64 qa, .int .i64 qb, .int .i64 qc, .int .i64 qt, .int .i64 qn]] (.tuple #[.string (bstr []), .iface 47 (.pointer (some ⟨1, 0, none⟩))]) _ rfl (hC6 _ _ _ _ (con_lineBad_at op qa qb qc qt qn 1 (by first | omega | (simp; done) | (simp; omega)) _ (by kernel_rfl) (by kernel_rfl) )) ?_
  refine aN ?_
  refine sk_seq ?_
  refine sk_regionL Tryd.cfgOk hS ?_
  refine aK 1 ?_
  by_cases q1 : 0 ≤ wo ∧ wo < 16
  ·
    refine aC 7 [.int .i64 wo] (.tuple #[.string (bstr (wordB wo)), .bool true]) _ rfl (rc_eq (hC7 _ _ _ _ (con_aword_at wo  _)) (word_t q1)) ?_
    refine aN ?_
    refine sk_seq ?_
    refine sk_regionL Tryd.cfgOk hS ?_
    refine aK 1 ?_
    refine aC 8 [.int .i64 wo] (.string (bstr (wordB wo))) _ rfl (hC8 _ _ _ _ (con_rword_at wo  _)) ?_
    refine aN ?_
    refine sk_seq (sk_seq ?_)
    refine sk_regionL Tryd.cfgOk hS ?_
    refine aK 2 ?_
    refine aT (fun h2 => ?_) (fun h2 => ?_)
    · have c3e : (!((bstr (wordB wo)).toList == (bstr (wordB wo)).toList)) = true := Eq.trans (by kernel_rfl) h2
      clear h2
      have c3 : ¬ wordB wo = wordB wo := bstr_f (not_t c3e)
      clear c3e
      exact absurd rfl c3
    · have c3e : (!((bstr (wordB wo)).toList == (bstr (wordB wo)).toList)) = false := Eq.trans (by kernel_rfl) h2
      clear h2
      have c3 : wordB wo = wordB wo := bstr_t (not_f c3e)
      clear c3e
      refine aK 3 ?_
      refine aT (fun h4 => ?_) (fun h4 => ?_)
      · have c5e : (!((bstr (wordB wo)).toList == (bstr []).toList)) = true := Eq.trans (by kernel_rfl) h4
        clear h4
        have c5 : ¬ wordB wo = [] := bstr_f (not_t c5e)
        clear c5e
        refine aN ?_
        refine kF ?_
        refine sk_skip (sk_seq (sk_seq ?_))
        refine sk_regionL Tryd.cfgOk hS ?_
        refine aK 2 ?_
        refine aC 8 [.int .i64 op] (.string (bstr (wordB op))) _ rfl (hC8 _ _ _ _ (con_rword_at op  _)) ?_
        refine aT (fun h6 => ?_) (fun h6 => ?_)
        · have c7e : (((bstr (wordB op)).toList == (bstr []).toList)) = true := Eq.trans (by kernel_rfl) h6
          clear h6
          have c7 : wordB op = [] := bstr_t c7e
          clear c7e
          refine al_nil ?_
          refine kT ?_
          refine sk_seq ?_
          refine sk_regionL Tryd.cfgOk hS ?_
          refine aK 1 ?_
          refine al_callH 9 [.iface 47 (.pointer (some ⟨1, 0, none⟩)), .int .i64 5] (.bool true) (((St.empty 0).new (.cells [.int .i64 op, .int .i64 qa, .int .i64 qb, .int .i64 qc, .int .i64 qt, .int .i64 qn])).new (.cells [.int .i64 0, .iface 33 (.int .i64 5)])) rfl (fun b h => by cases h) (by kernel_rfl) (by kernel_rfl) (Eq.trans (hR 9 _ _ (by kernel_rfl)) (by kernel_rfl)) ?_
          refine aK 2 ?_
          refine al_callH 10 [.iface 47 (.pointer (some ⟨1, 0, none⟩))] (.int .i64 0) (((St.empty 0).new (.cells [.int .i64 op, .int .i64 qa, .int .i64 qb, .int .i64 qc, .int .i64 qt, .int .i64 qn])).new (.cells [.int .i64 0, .iface 33 (.int .i64 5)])) rfl (fun b h => by cases h) (by kernel_rfl) (by kernel_rfl) (Eq.trans (hR 10 _ _ (by kernel_rfl)) (by kernel_rfl)) ?_
          refine aK 4 ?_
          refine aT (fun h8 => ?_) (fun h8 => ?_)
          · have c9e : (((bstr []).toList == (bstr []).toList)) = true := Eq.trans (by kernel_rfl) h8
            clear h8
            have c9 : [] = [] := bstr_t c9e
            clear c9e
            refine aN ?_
            refine sk_ret ?_
            exact ⟨[.bool true], by kernel_rfl, .same (sub_clo rfl), Nat.le_of_ble_eq_true (by kernel_rfl)⟩
          · have c9e : (((bstr []).toList == (bstr []).toList)) = false := Eq.trans (by kernel_rfl) h8
            clear h8
            have c9 : ¬ [] = [] := bstr_f c9e
            clear c9e
            exact absurd rfl c9
        · have c7e : (((bstr (wordB op)).toList == (bstr []).toList)) = false := Eq.trans (by kernel_rfl) h6
          clear h6
          have c7 : ¬ wordB op = [] := bstr_f c7e
          clear c7e
          exact absurd (wordB_no h0) c7
      · have c5e : (!((bstr (wordB wo)).toList == (bstr []).toList)) = false := Eq.trans (by kernel_rfl) h4
        clear h4
        have c5 : wordB wo = [] := bstr_t (not_f c5e)
        clear c5e
        refine aN ?_
        refine kT ?_
        refine sk_seq ?_
        refine kK Tryd.cfgOk hS ?_
        refine sk_ret ?_
        exact ⟨[.bool false], by kernel_rfl, fs_to (fs_clo rfl) (congrArg Value.bool (by first | rfl | (exfalso; first | exact absurd (by assumption) (wordB_yes (by assumption)) | exact absurd (wordB_no (by assumption)) (by assumption)))), Nat.le_of_ble_eq_true (by kernel_rfl)⟩
  ·
    refine aC 7 [.int .i64 wo] (.tuple #[.string (bstr (wordB wo)), .bool false]) _ rfl (rc_eq (hC7 _ _ _ _ (con_aword_at wo  _)) (word_f q1)) ?_
    refine aN ?_
    refine sk_seq ?_
    refine sk_regionL Tryd.cfgOk hS ?_
    refine aK 1 ?_
    refine aC 8 [.int .i64 wo] (.string (bstr (wordB wo))) _ rfl (hC8 _ _ _ _ (con_rword_at wo  _)) ?_
    refine aN ?_
    refine sk_seq (sk_seq ?_)
    refine sk_regionL Tryd.cfgOk hS ?_
    refine aK 2 ?_
    refine aT (fun h10 => ?_) (fun h10 => ?_)
    · have c11e : (!((bstr (wordB wo)).toList == (bstr (wordB wo)).toList)) = true := Eq.trans (by kernel_rfl) h10
      clear h10
      have c11 : ¬ wordB wo = wordB wo := bstr_f (not_t c11e)
      clear c11e
      exact absurd rfl c11
    · have c11e : (!((bstr (wordB wo)).toList == (bstr (wordB wo)).toList)) = false := Eq.trans (by kernel_rfl) h10
      clear h10
      have c11 : wordB wo = wordB wo := bstr_t (not_f c11e)
      clear c11e
      refine aK 3 ?_
      refine aT (fun h12 => ?_) (fun h12 => ?_)
      · have c13e : (!((bstr (wordB wo)).toList == (bstr []).toList)) = true := Eq.trans (by kernel_rfl) h12
        clear h12
        have c13 : ¬ wordB wo = [] := bstr_f (not_t c13e)
        clear c13e
        refine aN ?_
        refine kT ?_
        refine sk_seq ?_
        refine kK Tryd.cfgOk hS ?_
        refine sk_ret ?_
        exact ⟨[.bool false], by kernel_rfl, fs_to (fs_clo rfl) (congrArg Value.bool (by first | rfl | (exfalso; first | exact absurd (by assumption) (wordB_yes (by assumption)) | exact absurd (wordB_no (by assumption)) (by assumption)))), Nat.le_of_ble_eq_true (by kernel_rfl)⟩
      · have c13e : (!((bstr (wordB wo)).toList == (bstr []).toList)) = false := Eq.trans (by kernel_rfl) h12
        clear h12
        have c13 : wordB wo = [] := bstr_t (not_f c13e)
        clear c13e
        refine aN ?_
        refine kF ?_
        refine sk_skip (sk_seq (sk_seq ?_))
        refine sk_regionL Tryd.cfgOk hS ?_
        refine aK 2 ?_
        refine aC 8 [.int .i64 op] (.string (bstr (wordB op))) _ rfl (hC8 _ _ _ _ (con_rword_at op  _)) ?_
        refine aT (fun h14 => ?_) (fun h14 => ?_)
        · have c15e : (((bstr (wordB op)).toList == (bstr []).toList)) = true := Eq.trans (by kernel_rfl) h14
          clear h14
          have c15 : wordB op = [] := bstr_t c15e
          clear c15e
          refine al_nil ?_
          refine kT ?_
          refine sk_seq ?_
          refine sk_regionL Tryd.cfgOk hS ?_
          refine aK 1 ?_
          refine al_callH 9 [.iface 47 (.pointer (some ⟨1, 0, none⟩)), .int .i64 5] (.bool true) (((St.empty 0).new (.cells [.int .i64 op, .int .i64 qa, .int .i64 qb, .int .i64 qc, .int .i64 qt, .int .i64 qn])).new (.cells [.int .i64 0, .iface 33 (.int .i64 5)])) rfl (fun b h => by cases h) (by kernel_rfl) (by kernel_rfl) (Eq.trans (hR 9 _ _ (by kernel_rfl)) (by kernel_rfl)) ?_
          refine aK 2 ?_
          refine al_callH 10 [.iface 47 (.pointer (some ⟨1, 0, none⟩))] (.int .i64 0) (((St.empty 0).new (.cells [.int .i64 op, .int .i64 qa, .int .i64 qb, .int .i64 qc, .int .i64 qt, .int .i64 qn])).new (.cells [.int .i64 0, .iface 33 (.int .i64 5)])) rfl (fun b h => by cases h) (by kernel_rfl) (by kernel_rfl) (Eq.trans (hR 10 _ _ (by kernel_rfl)) (by kernel_rfl)) ?_
          refine aK 4 ?_
          refine aT (fun h16 => ?_) (fun h16 => ?_)
          · have c17e : (((bstr []).toList == (bstr []).toList)) = true := Eq.trans (by kernel_rfl) h16
            clear h16
            have c17 : [] = [] := bstr_t c17e
            clear c17e
            refine aN ?_
            refine sk_ret ?_
            exact ⟨[.bool true], by kernel_rfl, .same (sub_clo rfl), Nat.le_of_ble_eq_true (by kernel_rfl)⟩
          · have c17e : (((bstr []).toList == (bstr []).toList)) = false := Eq.trans (by kernel_rfl) h16
            clear h16
            have c17 : ¬ [] = [] := bstr_f c17e
            clear c17e
            exact absurd rfl c17
        · have c15e : (((bstr (wordB op)).toList == (bstr []).toList)) = false := Eq.trans (by kernel_rfl) h14
          clear h14
          have c15 : ¬ wordB op = [] := bstr_f c15e
          clear c15e
          exact absurd (wordB_no h0) c15
theorem linesGood_fn : Tryd.cfg.fn 3 = some Tryd.f3 := by kernel_rfl
set_option maxHeartbeats 4000000 in
set_option maxRecDepth 100000 in
theorem linesGood_sc (op : Int) (qa : Int) (qb : Int) (qc : Int) (qt : Int) (qn : Int) (wo : Int) (h0 : inC (op, qa, qb, qc, qt, qn)) (h1 : 0 ≤ op ∧ op < 16) : SC Tryd.prog 1001 3 [.agg #[.int .i64 op, .int .i64 qa, .int .i64 qb, .int .i64 qc, .int .i64 qt, .int .i64 qn], .int .i64 wo] (St.empty 0) fun v s' => v = .bool true ∧ s'.n ≤ 400 := by
  obtain ⟨rc, hS, hC⟩ := rc_con (sound_run Tryd.cfgOk 300) [con_alive, con_lineGood, con_aword, con_rword, con_rline] (by kernel_rfl)
  have hC5 := hC con_alive (.head _)
  have hC6 := hC con_lineGood (.tail _ (.head _))
  have hC7 := hC con_aword (.tail _ (.tail _ (.head _)))
  have hC8 := hC con_rword (.tail _ (.tail _ (.tail _ (.head _))))
  have hC11 := hC con_rline (.tail _ (.tail _ (.tail _ (.tail _ (.head _)))))
  refine sc_ice0 (N := 400) (v2 := .bool true) (Q := fun v s' => FS 0 s' v (.bool true) ∧ s'.n ≤ 400) ?_ (fun _ _ h => h)
  refine sc_body Tryd.cfgOk linesGood_fn rfl ?_
  refine sk_seq ?_
  refine kK Tryd.cfgOk hS ?_
  refine sk_seq (sk_seq ?_)
  refine sk_regionL Tryd.cfgOk hS ?_
  refine aC 5 [] (.bool true) _ rfl (hC5 _ _ _ _ (con_alive_at   _)) ?_
  refine aN ?_
  refine kF ?_
  refine sk_skip (sk_seq ?_)
  refine sk_regionL Tryd.cfgOk hS ?_
  refine aK 1 ?_
  refine aC 6 [.agg #[.int .i64 op, .int .i64 qa, .int .i64 qb, .int .i64 qc, .int .i64 qt, .int .i64 qn]] (.tuple #[.string (bstr (lineR (op, qa, qb, qc, qt, qn))), .nilIface]) _ rfl (hC6 _ _ _ _ (con_lineGood_at op qa qb qc qt qn (by first | omega | (simp; done) | (simp; omega)) (by first | omega | (simp; done) | (simp; omega)) _)) ?_
  refine aN ?_
  refine sk_seq ?_
  refine sk_regionL Tryd.cfgOk hS ?_
  refine aK 1 ?_
  by_cases q1 : 0 ≤ wo ∧ wo < 16
  ·
    refine aC 7 [.int .i64 wo] (.tuple #[.string (bstr (wordB wo)), .bool true]) _ rfl (rc_eq (hC7 _ _ _ _ (con_aword_at wo  _)) (word_t q1)) ?_
    refine aN ?_
    refine sk_seq ?_
    refine sk_regionL Tryd.cfgOk hS ?_
    refine aK 1 ?_
    refine aC 8 [.int .i64 wo] (.string (bstr (wordB wo))) _ rfl (hC8 _ _ _ _ (con_rword_at wo  _)) ?_
    refine aN ?_
    refine sk_seq (sk_seq ?_)
    refine sk_regionL Tryd.cfgOk hS ?_
    refine aK 2 ?_
    refine aT (fun h2 => ?_) (fun h2 => ?_)
    · have c3e : (!((bstr (wordB wo)).toList == (bstr (wordB wo)).toList)) = true := Eq.trans (by kernel_rfl) h2
      clear h2
      have c3 : ¬ wordB wo = wordB wo := bstr_f (not_t c3e)
      clear c3e
      exact absurd rfl c3
    · have c3e : (!((bstr (wordB wo)).toList == (bstr (wordB wo)).toList)) = false := Eq.trans (by kernel_rfl) h2
      clear h2
      have c3 : wordB wo = wordB wo := bstr_t (not_f c3e)
      clear c3e
      refine aK 3 ?_
      refine aT (fun h4 => ?_) (fun h4 => ?_)
      · have c5e : (!((bstr (wordB wo)).toList == (bstr []).toList)) = true := Eq.trans (by kernel_rfl) h4
        clear h4
        have c5 : ¬ wordB wo = [] := bstr_f (not_t c5e)
        clear c5e
        refine aN ?_
        refine kF ?_
        refine sk_skip (sk_seq (sk_seq ?_))
        refine sk_regionL Tryd.cfgOk hS ?_
        refine aK 2 ?_
        refine aC 8 [.int .i64 op] (.string (bstr (wordB op))) _ rfl (hC8 _ _ _ _ (con_rword_at op  _)) ?_
        refine aT (fun h6 => ?_) (fun h6 => ?_)
        · have c7e : (((bstr (wordB op)).toList == (bstr []).toList)) = true := Eq.trans (by kernel_rfl) h6
          clear h6
          have c7 : wordB op = [] := bstr_t c7e
          clear c7e
          exact absurd c7 (wordB_yes h1)
        · have c7e : (((bstr (wordB op)).toList == (bstr []).toList)) = false := Eq.trans (by kernel_rfl) h6
          clear h6
          have c7 : ¬ wordB op = [] := bstr_f c7e
          clear c7e
          refine al_nil ?_
          refine kF ?_
          refine sk_skip (sk_seq ?_)
          refine sk_regionL Tryd.cfgOk hS ?_
          refine aK 5 ?_
          refine aC 11 [.agg #[.int .i64 op, .int .i64 qa, .int .i64 qb, .int .i64 qc, .int .i64 qt, .int .i64 qn]] (.string (bstr (lineR (op, qa, qb, qc, qt, qn)))) _ rfl (hC11 _ _ _ _ (con_rline_at op qa qb qc qt qn (by first | omega | (simp; done) | (simp; omega)) _)) ?_
          refine aT (fun h8 => ?_) (fun h8 => ?_)
          · have c9e : (((bstr (lineR (op, qa, qb, qc, qt, qn))).toList == (bstr (lineR (op, qa, qb, qc, qt, qn))).toList)) = true := Eq.trans (by kernel_rfl) h8
            clear h8
            have c9 : lineR (op, qa, qb, qc, qt, qn) = lineR (op, qa, qb, qc, qt, qn) := bstr_t c9e
            clear c9e
            refine aN ?_
            refine sk_ret ?_
            exact ⟨[.bool true], by kernel_rfl, .same (sub_clo rfl), Nat.le_of_ble_eq_true (by kernel_rfl)⟩
          · have c9e : (((bstr (lineR (op, qa, qb, qc, qt, qn))).toList == (bstr (lineR (op, qa, qb, qc, qt, qn))).toList)) = false := Eq.trans (by kernel_rfl) h8
            clear h8
            have c9 : ¬ lineR (op, qa, qb, qc, qt, qn) = lineR (op, qa, qb, qc, qt, qn) := bstr_f c9e
            clear c9e
            exact absurd rfl c9
      · have c5e : (!((bstr (wordB wo)).toList == (bstr []).toList)) = false := Eq.trans (by kernel_rfl) h4
        clear h4
        have c5 : wordB wo = [] := bstr_t (not_f c5e)
        clear c5e
        refine aN ?_
        refine kT ?_
        refine sk_seq ?_
        refine kK Tryd.cfgOk hS ?_
        refine sk_ret ?_
        exact ⟨[.bool false], by kernel_rfl, fs_to (fs_clo rfl) (congrArg Value.bool (by first | rfl | (exfalso; first | exact absurd (by assumption) (wordB_yes (by assumption)) | exact absurd (wordB_no (by assumption)) (by assumption)))), Nat.le_of_ble_eq_true (by kernel_rfl)⟩
  ·
    refine aC 7 [.int .i64 wo] (.tuple #[.string (bstr (wordB wo)), .bool false]) _ rfl (rc_eq (hC7 _ _ _ _ (con_aword_at wo  _)) (word_f q1)) ?_
    refine aN ?_
    refine sk_seq ?_
    refine sk_regionL Tryd.cfgOk hS ?_
    refine aK 1 ?_
    refine aC 8 [.int .i64 wo] (.string (bstr (wordB wo))) _ rfl (hC8 _ _ _ _ (con_rword_at wo  _)) ?_
    refine aN ?_
    refine sk_seq (sk_seq ?_)
    refine sk_regionL Tryd.cfgOk hS ?_
    refine aK 2 ?_
    refine aT (fun h10 => ?_) (fun h10 => ?_)
    · have c11e : (!((bstr (wordB wo)).toList == (bstr (wordB wo)).toList)) = true := Eq.trans (by kernel_rfl) h10
      clear h10
      have c11 : ¬ wordB wo = wordB wo := bstr_f (not_t c11e)
      clear c11e
      exact absurd rfl c11
    · have c11e : (!((bstr (wordB wo)).toList == (bstr (wordB wo)).toList)) = false := Eq.trans (by kernel_rfl) h10
      clear h10
      have c11 : wordB wo = wordB wo := bstr_t (not_f c11e)
      clear c11e
      refine aK 3 ?_
      refine aT (fun h12 => ?_) (fun h12 => ?_)
      · have c13e : (!((bstr (wordB wo)).toList == (bstr []).toList)) = true := Eq.trans (by kernel_rfl) h12
        clear h12
        have c13 : ¬ wordB wo = [] := bstr_f (not_t c13e)
        clear c13e
        refine aN ?_
        refine kT ?_
        refine sk_seq ?_
        refine kK Tryd.cfgOk hS ?_
        refine sk_ret ?_
        exact ⟨[.bool false], by kernel_rfl, fs_to (fs_clo rfl) (congrArg Value.bool (by first | rfl | (exfalso; first | exact absurd (by assumption) (wordB_yes (by assumption)) | exact absurd (wordB_no (by assumption)) (by assumption)))), Nat.le_of_ble_eq_true (by kernel_rfl)⟩
      · have c13e : (!((bstr (wordB wo)).toList == (bstr []).toList)) = false := Eq.trans (by kernel_rfl) h12
        clear h12
        have c13 : wordB wo = [] := bstr_t (not_f c13e)
        clear c13e
        refine aN ?_
        refine kF ?_
        refine sk_skip (sk_seq (sk_seq ?_))
        refine sk_regionL Tryd.cfgOk hS ?_
        refine aK 2 ?_
        refine aC 8 [.int .i64 op] (.string (bstr (wordB op))) _ rfl (hC8 _ _ _ _ (con_rword_at op  _)) ?_
        refine aT (fun h14 => ?_) (fun h14 => ?_)
        · have c15e : (((bstr (wordB op)).toList == (bstr []).toList)) = true := Eq.trans (by kernel_rfl) h14
          clear h14
          have c15 : wordB op = [] := bstr_t c15e
          clear c15e
          exact absurd c15 (wordB_yes h1)
        · have c15e : (((bstr (wordB op)).toList == (bstr []).toList)) = false := Eq.trans (by kernel_rfl) h14
          clear h14
          have c15 : ¬ wordB op = [] := bstr_f c15e
          clear c15e
          refine al_nil ?_
          refine kF ?_
          refine sk_skip (sk_seq ?_)
          refine sk_regionL Tryd.cfgOk hS ?_
          refine aK 5 ?_
          refine aC 11 [.agg #[.int .i64 op, .int .i64 qa, .int .i64 qb, .int .i64 qc, .int .i64 qt, .int .i64 qn]] (.string (bstr (lineR (op, qa, qb, qc, qt, qn)))) _ rfl (hC11 _ _ _ _ (con_rline_at op qa qb qc qt qn (by first | omega | (simp; done) | (simp; omega)) _)) ?_
          refine aT (fun h16 => ?_) (fun h16 => ?_)
          · have c17e : (((bstr (lineR (op, qa, qb, qc, qt, qn))).toList == (bstr (lineR (op, qa, qb, qc, qt, qn))).toList)) = true := Eq.trans (by kernel_rfl) h16
            clear h16
            have c17 : lineR (op, qa, qb, qc, qt, qn) = lineR (op, qa, qb, qc, qt, qn) := bstr_t c17e
            clear c17e
            refine aN ?_
            refine sk_ret ?_
            exact ⟨[.bool true], by kernel_rfl, .same (sub_clo rfl), Nat.le_of_ble_eq_true (by kernel_rfl)⟩
          · have c17e : (((bstr (lineR (op, qa, qb, qc, qt, qn))).toList == (bstr (lineR (op, qa, qb, qc, qt, qn))).toList)) = false := Eq.trans (by kernel_rfl) h16
            clear h16
            have c17 : ¬ lineR (op, qa, qb, qc, qt, qn) = lineR (op, qa, qb, qc, qt, qn) := bstr_f c17e
            clear c17e
            exact absurd rfl c17
theorem linesLaw_sc (op qa qb qc qt qn wo : Int) (h0 : inC (op, qa, qb, qc, qt, qn)) : SC Tryd.prog 1001 3 [.agg #[.int .i64 op, .int .i64 qa, .int .i64 qb, .int .i64 qc, .int .i64 qt, .int .i64 qn], .int .i64 wo] (St.empty 0) fun v s' => v = .bool true ∧ s'.n ≤ 400 := by
  by_cases h : 0 ≤ op ∧ op < 16
  · exact linesGood_sc op qa qb qc qt qn wo h0 h
  · exact linesBad_sc op qa qb qc qt qn wo h
end Go.Proofs.YtgplkbfjlidinaaDoor