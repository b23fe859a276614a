/- Keys are read. -/
import Derived.Test.YtekeepgjegkedaaRead
import Derived.Test.YtekeepgjegkedaaReader
set_option linter.unusedVariables false
set_option linter.unusedSimpArgs false
set_option linter.unnecessarySimpa false
namespace Go.Proofs.Ytekeepgjegkedaa
open Go.Ai
theorem scells_row {a b : List Span} : rowL scells a = rowL scells b ↔ a = b := row_iff (by decide) scells_len scells_iff
def errForm : Value := .iface 53 (.int .i64 2)
def endV (b : List UInt8) (bad : Bool) : Value := if bad = true ∨ b ≠ [] then errForm else .nilIface
theorem endV_clo (b : List UInt8) (bad : Bool) : clo (endV b bad) = true := by unfold endV; split <;> rfl
theorem endV_t {b : List UInt8} {bad : Bool} (h : bad = true ∨ b ≠ []) : endV b bad = errForm := if_pos h
theorem endV_f {b : List UInt8} {bad : Bool} (h : ¬ (bad = true ∨ b ≠ [])) : endV b bad = .nilIface := if_neg h
theorem rend_fn : Try.cfg.fn 59 = some Try.f59 := by kernel_rfl
set_option maxHeartbeats 4000000 in
set_option maxRecDepth 100000 in
theorem rend_sc (b : List UInt8) (bad : Bool)  : SC Try.prog 0 59 [.pointer (some ⟨0, 0, none⟩)] ((St.empty 0).new (.cells [inlL bcells 1 b, .bool bad])) fun v s' => v = endV b bad ∧ s'.n ≤ 400 ∧ ∀ a, a < 1 → s'.get a = some (objL [.cells [inlL bcells 1 b, .bool bad]] a) := by
  have hS := sound_run Try.cfgOk 300
  cases bad
  ·
    refine sc_body Try.cfgOk rend_fn rfl ?_
    repeat' (with_reducible first | refine sk_seq ?_ | refine sk_block ?_ | refine sk_skip ?_ | refine sk_scope ?_)
    refine sk_regionK Try.cfgOk hS (by kernel_rfl) ?_
    repeat' (with_reducible first | refine sk_seq ?_ | refine sk_block ?_ | refine sk_skip ?_ | refine sk_scope ?_)
    refine sk_regionL Try.cfgOk hS ?_
    refine al_chunk 13 (by kernel_rfl) ?_
    refine al_map (lenB Try.cfg (St.empty 0) 42 (inlL bcells 1 b)) (.int .i64 ((b.length : Nat) : Int)) (by kernel_rfl) (by kernel_rfl) (by kernel_rfl) (len_inl tokC (by kernel_rfl)) ?_
    refine al_test (by kernel_rfl) (by kernel_rfl) (by kernel_rfl) (fun h1 => ?_) (fun h1 => ?_)
    · have c2e : (decide ((((b.length : Nat) : Int) : Int) > 0)) = true := Eq.trans (by kernel_rfl) h1
      clear h1
      have c2 : (((b.length : Nat) : Int) : Int) > 0 := of_decide_eq_true c2e
      clear c2e
      refine al_known (by kernel_rfl) ?_
      repeat' (with_reducible first | refine sk_seq ?_ | refine sk_block ?_ | refine sk_skip ?_ | refine sk_scope ?_)
      refine sk_true (by kernel_rfl) ?_
      repeat' (with_reducible first | refine sk_seq ?_ | refine sk_block ?_ | refine sk_skip ?_ | refine sk_scope ?_)
      refine sk_regionK Try.cfgOk hS (by kernel_rfl) ?_
      repeat' (with_reducible first | refine sk_seq ?_ | refine sk_block ?_ | refine sk_skip ?_ | refine sk_scope ?_)
      refine sk_ret ?_
      exact ⟨[.iface 53 (.int .i64 2)], by kernel_rfl, (show (.iface 53 (.int .i64 2) : Value) = endV b false by first | exact (endV_t (.inl rfl)).symm | exact (endV_t (.inr (fun e => by subst e; simp at *))).symm | exact (endV_f (fun e => e.elim (fun q => by cases q) (fun q => q (List.eq_nil_of_length_eq_zero (by omega))))).symm), Nat.le_of_ble_eq_true (by kernel_rfl), all1 (by kernel_rfl)⟩
    · have c2e : (decide ((((b.length : Nat) : Int) : Int) > 0)) = false := Eq.trans (by kernel_rfl) h1
      clear h1
      have c2 : ¬ (((b.length : Nat) : Int) : Int) > 0 := of_decide_eq_false c2e
      clear c2e
      refine al_known (by kernel_rfl) ?_
      repeat' (with_reducible first | refine sk_seq ?_ | refine sk_block ?_ | refine sk_skip ?_ | refine sk_scope ?_)
      refine sk_false (by kernel_rfl) ?_
      repeat' (with_reducible first | refine sk_seq ?_ | refine sk_block ?_ | refine sk_skip ?_ | refine sk_scope ?_)
      refine sk_regionK Try.cfgOk hS (by kernel_rfl) ?_
      repeat' (with_reducible first | refine sk_seq ?_ | refine sk_block ?_ | refine sk_skip ?_ | refine sk_scope ?_)
      refine sk_ret ?_
      exact ⟨[.nilIface], by kernel_rfl, (show (.nilIface : Value) = endV b false by first | exact (endV_t (.inl rfl)).symm | exact (endV_t (.inr (fun e => by subst e; simp at *))).symm | exact (endV_f (fun e => e.elim (fun q => by cases q) (fun q => q (List.eq_nil_of_length_eq_zero (by omega))))).symm), Nat.le_of_ble_eq_true (by kernel_rfl), all1 (by kernel_rfl)⟩
  ·
    refine sc_body Try.cfgOk rend_fn rfl ?_
    repeat' (with_reducible first | refine sk_seq ?_ | refine sk_block ?_ | refine sk_skip ?_ | refine sk_scope ?_)
    refine sk_regionK Try.cfgOk hS (by kernel_rfl) ?_
    repeat' (with_reducible first | refine sk_seq ?_ | refine sk_block ?_ | refine sk_skip ?_ | refine sk_scope ?_)
    refine sk_regionK Try.cfgOk hS (by kernel_rfl) ?_
    repeat' (with_reducible first | refine sk_seq ?_ | refine sk_block ?_ | refine sk_skip ?_ | refine sk_scope ?_)
    refine sk_true (by kernel_rfl) ?_
    repeat' (with_reducible first | refine sk_seq ?_ | refine sk_block ?_ | refine sk_skip ?_ | refine sk_scope ?_)
    refine sk_regionK Try.cfgOk hS (by kernel_rfl) ?_
    repeat' (with_reducible first | refine sk_seq ?_ | refine sk_block ?_ | refine sk_skip ?_ | refine sk_scope ?_)
    refine sk_ret ?_
    exact ⟨[.iface 53 (.int .i64 2)], by kernel_rfl, (show (.iface 53 (.int .i64 2) : Value) = endV b true by first | exact (endV_t (.inl rfl)).symm | exact (endV_t (.inr (fun e => by subst e; simp at *))).symm | exact (endV_f (fun e => e.elim (fun q => by cases q) (fun q => q (List.eq_nil_of_length_eq_zero (by omega))))).symm), Nat.le_of_ble_eq_true (by kernel_rfl), all1 (by kernel_rfl)⟩
noncomputable def sm_rend : Small Try.prog 0 59 ((List UInt8) × Bool) where
  k := 1
  A := fun z9 ρ => [.pointer (some ⟨(ρ 0), 0, none⟩)]
  M := fun z9 ρ => objL [.cells [inlL bcells 1 z9.1, .bool z9.2]]
  M1 := fun z9 ρ => objL [.cells [inlL bcells 1 z9.1, .bool z9.2]]
  V := fun z9 ρ => endV z9.1 z9.2
  Pre := fun z9 => True
  ch := []
  N := 400
  s0 := fun z9 => ((St.empty 0).new (.cells [inlL bcells 1 z9.1, .bool z9.2]))
  hch := by decide
  hsame := fun x ρ => all1 (fun _ => rfl)
  hG := rfl
  hn := fun x => rfl
  hwf := fun x => ((wf_empty 0).new _)
  hget := fun x => all1 (by kernel_rfl)
  noloop := fun x ρ => all1 (fun h => h.elim)
  inA := fun x ρ R hR => .cons (.ptr (hR 0 _ (by decide))) .nil
  inM := fun x ρ R hR => all1 (OSub.cells (.cons (sub_clo rfl) (.cons (sub_clo rfl) .nil)))
  outM := fun x ρ R hR => all1 (OSub.cells (.cons (sub_clo rfl) (.cons (sub_clo rfl) .nil)))
  outV := fun x ρ R hR => sub_clo (endV_clo x.1 x.2)
  dom := by
    intro x ρ a ha
    cases ha
  sc := by
    rintro ⟨a0, a1⟩ _
    exact rend_sc a0 a1 
  det := by
    rintro ⟨a0, a1⟩ ρ ⟨b0, b1⟩ σ s h hm hm'
    simp only [List.cons.injEq, and_true, Int.natCast_inj, Value.int.injEq, Value.bool.injEq, Value.string.injEq, Value.agg.injEq, Array.mk.injEq, true_and, Value.pointer.injEq, Option.some.injEq, Addr.mk.injEq, Value.func.injEq, AObj.cells.injEq, AObj.arr.injEq, slL_iff, bcells_iff] at h
    have q0 : ρ 0 = σ 0 := by simp_all
    have e0 := (hm 0 (by decide)).symm.trans ((congrArg s.get q0).trans (hm' 0 (by decide)))
    simp only [objL, List.getD_cons_zero, List.getD_cons_succ, List.cons.injEq, and_true, Int.natCast_inj, Value.int.injEq, Value.bool.injEq, Value.string.injEq, Value.agg.injEq, Array.mk.injEq, true_and, Value.pointer.injEq, Option.some.injEq, Addr.mk.injEq, Value.func.injEq, AObj.cells.injEq, AObj.arr.injEq, slL_iff, bcells_iff] at e0
    have q : ∀ a, a < 1 → ρ a = σ a := all1 q0
    clear hm hm'
    exact ⟨by first | rfl | (simp_all [Prod.ext_iff]; done) | exact e0, q⟩
  par := by
    intro x ρ σ h
    have h0 := h 0 (by decide)
    exact ⟨by first | rfl | simp only [h0], by first | exact fun _ _ => rfl | (intro a ha; simp only [h0])⟩
noncomputable def con_rend : Con Try.prog 0 := sm_rend.con
theorem con_rend_at (b : List UInt8) (bad : Bool) (i0 : Nat)  (s : St) (hn : nodupB [i0] = true) (m0 : s.get i0 = some (.cells [inlL bcells 1 b, .bool bad])) : con_rend.rel [.pointer (some ⟨i0, 0, none⟩)] s (endV b bad) s :=
  sm_rend.at_ (b, bad) [i0] s _ trivial rfl hn rfl (all1 m0) rfl rfl
theorem sequal_fn : Try.cfg.fn 60 = some Try.f60 := by kernel_rfl
set_option maxHeartbeats 4000000 in
set_option maxRecDepth 100000 in
theorem sequal_sc (la : List UInt8) (lb : List UInt8) (h0 : la.length ≤ 2 * 1000000000) (h1 : lb.length ≤ 2 * 1000000000) : SC Try.prog 0 60 [inlL bcells 1 la, inlL bcells 1 lb] (St.empty 0) fun v s' => v = .bool (decide (la = lb)) ∧ s'.n ≤ 400 := by
  have hS := sound_run Try.cfgOk 300
  refine sc_ice0 (N := 400) (v2 := .bool (decide (la = lb))) (Q := fun v s' => FS 0 s' v (.bool (decide (la = lb))) ∧ s'.n ≤ 400) ?_ (fun _ _ h => h)
  refine sc_body Try.cfgOk sequal_fn rfl ?_
  repeat' (with_reducible first | refine sk_seq ?_ | refine sk_block ?_ | refine sk_skip ?_ | refine sk_scope ?_)
  refine sk_regionK Try.cfgOk hS (by kernel_rfl) ?_
  repeat' (with_reducible first | refine sk_seq ?_ | refine sk_block ?_ | refine sk_skip ?_ | refine sk_scope ?_)
  refine sk_regionL Try.cfgOk hS ?_
  refine al_chunk 1 (by kernel_rfl) ?_
  refine al_map (lenB Try.cfg (St.empty 0) 42 (inlL bcells 1 la)) (.int .i64 ((la.length : Nat) : Int)) (by kernel_rfl) (by kernel_rfl) (by kernel_rfl) (len_inl tokC (by kernel_rfl)) ?_
  refine al_chunk 1 (by kernel_rfl) ?_
  refine al_map (lenB Try.cfg (St.empty 0) 42 (inlL bcells 1 lb)) (.int .i64 ((lb.length : Nat) : Int)) (by kernel_rfl) (by kernel_rfl) (by kernel_rfl) (len_inl tokC (by kernel_rfl)) ?_
  refine al_test (by kernel_rfl) (by kernel_rfl) (by kernel_rfl) (fun h1 => ?_) (fun h1 => ?_)
  · have c2e : ((((la.length : Nat) : Int) : Int) != ((lb.length : Nat) : Int)) = true := Eq.trans (by kernel_rfl) h1
    clear h1
    have c2 : ¬ (((la.length : Nat) : Int) : Int) = ((lb.length : Nat) : Int) := bne_iff_ne.1 c2e
    clear c2e
    refine al_nil ?_
    repeat' (with_reducible first | refine sk_seq ?_ | refine sk_block ?_ | refine sk_skip ?_ | refine sk_scope ?_)
    refine sk_true (by kernel_rfl) ?_
    repeat' (with_reducible first | refine sk_seq ?_ | refine sk_block ?_ | refine sk_skip ?_ | refine sk_scope ?_)
    refine sk_regionK Try.cfgOk hS (by kernel_rfl) ?_
    repeat' (with_reducible first | refine sk_seq ?_ | refine sk_block ?_ | refine sk_skip ?_ | refine sk_scope ?_)
    refine sk_ret ?_
    exact ⟨[.bool false], by kernel_rfl, fs_to (fs_clo rfl) (congrArg Value.bool (by first | exact (decide_eq_false (by assumption)).symm | exact (decide_eq_true (take_all (by assumption) (by assumption) (by omega))).symm | exact (decide_eq_false (fun e => by subst e; omega)).symm)), Nat.le_of_ble_eq_true (by kernel_rfl)⟩
  · have c2e : ((((la.length : Nat) : Int) : Int) != ((lb.length : Nat) : Int)) = false := Eq.trans (by kernel_rfl) h1
    clear h1
    have c2 : (((la.length : Nat) : Int) : Int) = ((lb.length : Nat) : Int) := bne_eq_false_iff_eq.1 c2e
    clear c2e
    refine al_nil ?_
    repeat' (with_reducible first | refine sk_seq ?_ | refine sk_block ?_ | refine sk_skip ?_ | refine sk_scope ?_)
    refine sk_false (by kernel_rfl) ?_
    repeat' (with_reducible first | refine sk_seq ?_ | refine sk_block ?_ | refine sk_skip ?_ | refine sk_scope ?_)
    refine sk_regionL Try.cfgOk hS ?_
    refine al_chunk 1 (by kernel_rfl) ?_
    refine al_map (lenB Try.cfg (St.empty 0) 42 (inlL bcells 1 la)) (.int .i64 ((la.length : Nat) : Int)) (by kernel_rfl) (by kernel_rfl) (by kernel_rfl) (len_inl tokC (by kernel_rfl)) ?_
    refine al_known (by kernel_rfl) ?_
    repeat' (with_reducible first | refine sk_seq ?_ | refine sk_block ?_ | refine sk_skip ?_ | refine sk_scope ?_)
    refine sk_live 26 ((fun a : Nat => [(0, inlL bcells 1 la), (1, inlL bcells 1 lb), (12, .int .i64 ((la.length : Nat) : Int)), (13, .int .i64 ((a : Nat) : Int))]) 0) (by kernel_rfl) ⟨by kernel_rfl, by kernel_rfl, by kernel_rfl, by kernel_rfl, trivial⟩ fun m3 => ?_
    refine sk_st ((fun a : Nat => (St.empty 0)) 0) (by kernel_rfl) ?_
    refine (sk_while (k := 0) (N := 400) (live := (fun a : Nat => [(0, inlL bcells 1 la), (1, inlL bcells 1 lb), (12, .int .i64 ((la.length : Nat) : Int)), (13, .int .i64 ((a : Nat) : Int))])) (M := (fun a : Nat => (St.empty 0))) (fun a : Nat => (a ≤ la.length) ∧ (la.take a = lb.take a)) (fun a : Nat => la.length - a) (fun (a : Nat) (o : Out) (lv : List (Nat × Value)) (M : St) => (o = .exit 0 ∧ (¬ a < la.length) ∧ lv = [(0, inlL bcells 1 la), (1, inlL bcells 1 lb), (12, .int .i64 ((la.length : Nat) : Int)), (13, .int .i64 ((a : Nat) : Int))] ∧ M = (St.empty 0)) ∨ (o = .ret ∧ (¬ la = lb) ∧ lv = [(4, .bool false)] ∧ M = (St.empty 0))) (Nat.zero_le _) (fun a ha => ?_) (fun a ha => ?_) (fun a m ha => ?_) (fun a m ha => ?_) 0 m3 ?_).up ?_
    · exact ⟨by kernel_rfl, (wf_empty 0), (fun i hi => absurd hi (Nat.not_lt_zero i))⟩
    · exact ⟨sub_clo rfl, sub_clo rfl, sub_clo rfl, sub_clo rfl, trivial⟩
    · exact ⟨by kernel_rfl, by kernel_rfl, by kernel_rfl, by kernel_rfl, trivial⟩
    · obtain ⟨i, ea⟩ : ∃ z, z = a := ⟨_, rfl⟩
      subst ea
      obtain ⟨i0, i1⟩ := ha
      repeat' (with_reducible first | refine sk_seq ?_ | refine sk_block ?_ | refine sk_skip ?_ | refine sk_scope ?_)
      refine sk_regionL Try.cfgOk hS ?_
      refine al_test (by kernel_rfl) (by kernel_rfl) (by kernel_rfl) (fun h4 => ?_) (fun h4 => ?_)
      · have c5e : (decide ((((i : Nat) : Int) : Int) < ((la.length : Nat) : Int))) = true := Eq.trans (by kernel_rfl) h4
        clear h4
        have c5 : (((i : Nat) : Int) : Int) < ((la.length : Nat) : Int) := of_decide_eq_true c5e
        clear c5e
        refine al_nil ?_
        repeat' (with_reducible first | refine sk_seq ?_ | refine sk_block ?_ | refine sk_skip ?_ | refine sk_scope ?_)
        refine sk_true (by kernel_rfl) ?_
        repeat' (with_reducible first | refine sk_seq ?_ | refine sk_block ?_ | refine sk_skip ?_ | refine sk_scope ?_)
        refine sk_regionK Try.cfgOk hS (by kernel_rfl) ?_
        repeat' (with_reducible first | refine sk_seq ?_ | refine sk_block ?_ | refine sk_skip ?_ | refine sk_scope ?_)
        refine sk_drawL Try.cfgOk hS ?_
        refine ald_chunk 2 (by kernel_rfl) ?_
        refine ald_mapL (indexAddrV Try.cfg 42 (inlL bcells 1 la) (.int .i64 ((i : Nat) : Int))) (elt (flatL bcells la) (i * 1)) (by kernel_rfl) (by kernel_rfl) (by kernel_rfl) (idx_inlL tokC (by kernel_rfl) (by first | omega | simp)) (by kernel_rfl) ?_
        obtain ⟨x6, hx6⟩ := get_ex (l := la) (i := i) (by omega)
        refine ald_mapL (loadV Try.cfg (St.empty 0) 5 (elt (flatL bcells la) (i * 1))) (.int .u8 ((x6.toNat : Nat) : Int)) (by kernel_rfl) (by kernel_rfl) (by kernel_rfl) (load_el1 (o := 0) tokC (by kernel_rfl) bcells_len hx6 rfl) (by kernel_rfl) ?_
        refine ald_chunk 2 (by kernel_rfl) ?_
        refine ald_mapL (indexAddrV Try.cfg 42 (inlL bcells 1 lb) (.int .i64 ((i : Nat) : Int))) (elt (flatL bcells lb) (i * 1)) (by kernel_rfl) (by kernel_rfl) (by kernel_rfl) (idx_inlL tokC (by kernel_rfl) (by first | omega | simp)) (by kernel_rfl) ?_
        obtain ⟨x7, hx7⟩ := get_ex (l := lb) (i := i) (by omega)
        refine ald_mapL (loadV Try.cfg (St.empty 0) 5 (elt (flatL bcells lb) (i * 1))) (.int .u8 ((x7.toNat : Nat) : Int)) (by kernel_rfl) (by kernel_rfl) (by kernel_rfl) (load_el1 (o := 0) tokC (by kernel_rfl) bcells_len hx7 rfl) (by kernel_rfl) ?_
        refine ald_test (by kernel_rfl) (by kernel_rfl) (by kernel_rfl) (fun b => by kernel_rfl) (fun h8 => ?_) (fun h8 => ?_)
        · have c9e : ((((x6.toNat : Nat) : Int) : Int) != ((x7.toNat : Nat) : Int)) = true := Eq.trans (by kernel_rfl) h8
          clear h8
          have c9 : ¬ (((x6.toNat : Nat) : Int) : Int) = ((x7.toNat : Nat) : Int) := bne_iff_ne.1 c9e
          clear c9e
          refine ald_nil ?_
          repeat' (with_reducible first | refine sk_seq ?_ | refine sk_block ?_ | refine sk_skip ?_ | refine sk_scope ?_)
          refine sk_true (by kernel_rfl) ?_
          repeat' (with_reducible first | refine sk_seq ?_ | refine sk_block ?_ | refine sk_skip ?_ | refine sk_scope ?_)
          refine sk_regionK Try.cfgOk hS (by kernel_rfl) ?_
          repeat' (with_reducible first | refine sk_seq ?_ | refine sk_block ?_ | refine sk_skip ?_ | refine sk_scope ?_)
          refine sk_ret ?_
          refine .inr ⟨_, _, (fun h => by cases h), .inr ⟨rfl, ?_, rfl, rfl⟩, ⟨by kernel_rfl, ⟨by kernel_rfl, trivial⟩, ⟨sub_clo rfl, trivial⟩, Nat.le_of_ble_eq_true (by kernel_rfl), ⟨by kernel_rfl, (wf_empty 0), (fun i hi => absurd hi (Nat.not_lt_zero i))⟩, mem_all (by kernel_rfl)⟩⟩
          · exact ne_at (by assumption) (by assumption) (fun e => by subst e; omega)
        · have c9e : ((((x6.toNat : Nat) : Int) : Int) != ((x7.toNat : Nat) : Int)) = false := Eq.trans (by kernel_rfl) h8
          clear h8
          have c9 : (((x6.toNat : Nat) : Int) : Int) = ((x7.toNat : Nat) : Int) := bne_eq_false_iff_eq.1 c9e
          clear c9e
          refine ald_nil ?_
          repeat' (with_reducible first | refine sk_seq ?_ | refine sk_block ?_ | refine sk_skip ?_ | refine sk_scope ?_)
          refine sk_false (by kernel_rfl) ?_
          repeat' (with_reducible first | refine sk_seq ?_ | refine sk_block ?_ | refine sk_skip ?_ | refine sk_scope ?_)
          refine sk_regionL Try.cfgOk hS ?_
          refine al_eqv (v := .int .i64 (IntKind.wrap .i64 (((i : Nat) : Int) + 1))) (.int .i64 ((i + 1 : Nat) : Int)) (by kernel_rfl) (by kernel_rfl) (by kernel_rfl) (congrArg (Value.int .i64) (wrap_to (by omega) (by omega))) ?_
          refine al_known (by kernel_rfl) ?_
          repeat' (with_reducible first | refine sk_seq ?_ | refine sk_block ?_ | refine sk_skip ?_ | refine sk_scope ?_)
          refine .inl ⟨i + 1, rfl, ⟨?_, ?_⟩, ?_, ⟨by kernel_rfl, ⟨by kernel_rfl, by kernel_rfl, by kernel_rfl, by kernel_rfl, trivial⟩, ⟨sub_clo rfl, sub_clo rfl, sub_clo rfl, sub_clo rfl, trivial⟩, Nat.le_of_ble_eq_true (by kernel_rfl), ⟨by kernel_rfl, (wf_empty 0), (fun i hi => absurd hi (Nat.not_lt_zero i))⟩, mem_all (by kernel_rfl)⟩⟩
          · (try dsimp only); omega
          · (try dsimp only); exact take_eq_succ (by assumption) (by assumption) (by assumption) (UInt8.toNat_inj.1 (by omega))
          · omega
      · have c5e : (decide ((((i : Nat) : Int) : Int) < ((la.length : Nat) : Int))) = false := Eq.trans (by kernel_rfl) h4
        clear h4
        have c5 : ¬ (((i : Nat) : Int) : Int) < ((la.length : Nat) : Int) := of_decide_eq_false c5e
        clear c5e
        refine al_nil ?_
        repeat' (with_reducible first | refine sk_seq ?_ | refine sk_block ?_ | refine sk_skip ?_ | refine sk_scope ?_)
        refine sk_false (by kernel_rfl) ?_
        repeat' (with_reducible first | refine sk_seq ?_ | refine sk_block ?_ | refine sk_skip ?_ | refine sk_scope ?_)
        refine sk_exit ?_
        dsimp only
        refine .inr ⟨_, _, (fun h => by cases h), .inl ⟨rfl, ?_, rfl, rfl⟩, ⟨by kernel_rfl, ⟨by kernel_rfl, by kernel_rfl, by kernel_rfl, by kernel_rfl, trivial⟩, ⟨sub_clo rfl, sub_clo rfl, sub_clo rfl, sub_clo rfl, trivial⟩, Nat.le_of_ble_eq_true (by kernel_rfl), ⟨by kernel_rfl, (wf_empty 0), (fun i hi => absurd hi (Nat.not_lt_zero i))⟩, mem_all (by kernel_rfl)⟩⟩
        · omega
    · exact ⟨by ((try dsimp only); first | done | (omega)), by ((try dsimp only); first | done | (rfl))⟩
    rintro o e1 s1 ⟨a, lv1, M1, m3, ha, (⟨rfl, hx, rfl, rfl⟩ | ⟨rfl, hx, rfl, rfl⟩), rfl, rfl⟩
    ·
      obtain ⟨i, ea⟩ : ∃ z, z = a := ⟨_, rfl⟩
      subst ea
      obtain ⟨i0, i1⟩ := ha
      dsimp only
      try rw [if_pos rfl]
      repeat' (with_reducible first | refine sk_seq ?_ | refine sk_block ?_ | refine sk_skip ?_ | refine sk_scope ?_)
      refine sk_regionK Try.cfgOk hS (by kernel_rfl) ?_
      repeat' (with_reducible first | refine sk_seq ?_ | refine sk_block ?_ | refine sk_skip ?_ | refine sk_scope ?_)
      refine sk_ret ?_
      exact ⟨[.bool true], by kernel_rfl, fs_to (fs_clo rfl) (congrArg Value.bool (by first | exact (decide_eq_false (by assumption)).symm | exact (decide_eq_true (take_all (by assumption) (by assumption) (by omega))).symm | exact (decide_eq_false (fun e => by subst e; omega)).symm)), Nat.le_of_ble_eq_true (by kernel_rfl)⟩
    ·
      obtain ⟨i, ea⟩ : ∃ z, z = a := ⟨_, rfl⟩
      subst ea
      obtain ⟨i0, i1⟩ := ha
      dsimp only
      exact ⟨[.bool false], by kernel_rfl, fs_to (fs_clo rfl) (congrArg Value.bool (by first | exact (decide_eq_false (by assumption)).symm | exact (decide_eq_true (take_all (by assumption) (by assumption) (by omega))).symm | exact (decide_eq_false (fun e => by subst e; omega)).symm)), Nat.le_of_ble_eq_true (by kernel_rfl)⟩
noncomputable def con_sequal : Con Try.prog 0 := Con.pure (α := (List UInt8) × (List UInt8)) 60 (fun z9 => [inlL bcells 1 z9.1, inlL bcells 1 z9.2]) (fun z9 => .bool (decide (z9.1 = z9.2))) (fun z9 => (z9.1.length ≤ 2 * 1000000000) ∧ (z9.2.length ≤ 2 * 1000000000)) (by
  rintro ⟨a0, a1⟩ ⟨b0, b1⟩ h
  simp only [List.cons.injEq, and_true, Int.natCast_inj, Value.int.injEq, Value.bool.injEq, Value.string.injEq, Value.agg.injEq, Array.mk.injEq, true_and, bcells_iff] at h
  first | exact h | (simp only [Prod.ext_iff, h, and_self, and_true, true_and]; done) | simp_all [Prod.ext_iff]) (fun _ => rfl) (fun _ => rfl) 400 (by
  rintro ⟨a0, a1⟩ ⟨p0, p1⟩
  exact sequal_sc a0 a1 p0 p1)
theorem con_sequal_at (la : List UInt8) (lb : List UInt8) (h0 : la.length ≤ 2 * 1000000000) (h1 : lb.length ≤ 2 * 1000000000) (s : St) : con_sequal.rel [inlL bcells 1 la, inlL bcells 1 lb] s (.bool (decide (la = lb))) s := con_pure (la, lb) ⟨h0, h1⟩ s
theorem takeKeys_fn : Try.cfg.fn 55 = some Try.f55 := by kernel_rfl
set_option maxHeartbeats 4000000 in
set_option maxRecDepth 100000 in
theorem takeKeys_sc (b : List UInt8) (bad : Bool) (h0 : b.length ≤ 1000000000) (h1 : RdI b bad) : SC Try.prog 0 55 [.pointer (some ⟨0, 0, none⟩)] ((St.empty 0).new (.cells [inlL bcells 1 b, .bool bad])) fun v s' => v = inlL kcells 2 ((tkeys b bad).1) ∧ s'.n ≤ 400 ∧ ∀ a, a < 1 → s'.get a = some (objL [.cells [inlL bcells 1 ((tkeys b bad).2.1), .bool ((tkeys b bad).2.2)]] a) := by
  obtain ⟨rc, hS, hC⟩ := rc_con (sound_run Try.cfgOk 300) [con_fsmall, con_rleft, con_rdnum] (by kernel_rfl)
  have hC56 := hC con_fsmall (.head _)
  have hC57 := hC con_rleft (.tail _ (.head _))
  have hC58 := hC con_rdnum (.tail _ (.tail _ (.head _)))
  refine sc_iceK (k := 1) (N := 400) (v2 := inlL kcells 2 ((tkeys b bad).1)) (Ms := objL [.cells [inlL bcells 1 ((tkeys b bad).2.1), .bool ((tkeys b bad).2.2)]]) rfl ?_ (all1 (OSub.cells (.cons (sub_clo rfl) (.cons (sub_clo rfl) .nil))))
  refine sc_body Try.cfgOk takeKeys_fn rfl ?_
  repeat' (with_reducible first | refine sk_seq ?_ | refine sk_block ?_ | refine sk_skip ?_ | refine sk_scope ?_)
  refine sk_regionK Try.cfgOk hS (by kernel_rfl) ?_
  repeat' (with_reducible first | refine sk_seq ?_ | refine sk_block ?_ | refine sk_skip ?_ | refine sk_scope ?_)
  refine sk_regionK Try.cfgOk hS (by kernel_rfl) ?_
  repeat' (with_reducible first | refine sk_seq ?_ | refine sk_block ?_ | refine sk_skip ?_ | refine sk_scope ?_)
  refine sk_regionL Try.cfgOk hS ?_
  refine al_chunk 1 (by kernel_rfl) ?_
  refine al_callH 56 [.pointer (some ⟨0, 0, none⟩)] (.int .i64 ((min (rdV b bad) 4294967295 : Nat) : Int)) _ rfl (fun b h => by cases h) (by kernel_rfl) (by kernel_rfl) (hC56 _ _ _ _ (con_fsmall_at b bad 0 (by first | omega | assumption | (have q := rdR_le b bad; omega) | (have q := rdR_le cb cbad; omega)) _ (by kernel_rfl) (by kernel_rfl) )) ?_
  refine al_known (by kernel_rfl) ?_
  repeat' (with_reducible first | refine sk_seq ?_ | refine sk_block ?_ | refine sk_skip ?_ | refine sk_scope ?_)
  refine sk_live 25 [(0, .pointer (some ⟨0, 0, none⟩)), (3, .slice none 0 0), (4, .int .i64 ((min (rdV b bad) 4294967295 : Nat) : Int))] (by kernel_rfl) ⟨by kernel_rfl, by kernel_rfl, by kernel_rfl, trivial⟩ fun m1 => ?_
  refine sk_st ((St.empty 0).new (.cells [inlL bcells 1 (rdR b bad), .bool (rdB b bad)])) (by kernel_rfl) ?_
  refine virt_at (n := 25) (t := 3) (sz := 2) [(0, .pointer (some ⟨0, 0, none⟩)), (3, slL 1 2 0), (4, .int .i64 ((min (rdV b bad) 4294967295 : Nat) : Int))] (by decide) ((wf_empty 0).new _) (by kernel_rfl) (by kernel_rfl) (by kernel_rfl) fun m1v => ?_
  refine sk_live 25 ((fun a : (List Key) × (List UInt8) × Bool => [(0, .pointer (some ⟨0, 0, none⟩)), (3, slL 1 2 a.1.length), (4, .int .i64 ((min (rdV b bad) 4294967295 : Nat) : Int))]) (([] : List Key), (rdR b bad), (rdB b bad))) (by kernel_rfl) ⟨by kernel_rfl, by kernel_rfl, by kernel_rfl, trivial⟩ fun m2 => ?_
  refine sk_st ((fun a : (List Key) × (List UInt8) × Bool => (((St.empty 0).new (.cells [inlL bcells 1 a.2.1, .bool a.2.2])).new (rowL kcells a.1))) (([] : List Key), (rdR b bad), (rdB b bad))) (by kernel_rfl) ?_
  refine (sk_while (k := 2) (N := 400) (live := (fun a : (List Key) × (List UInt8) × Bool => [(0, .pointer (some ⟨0, 0, none⟩)), (3, slL 1 2 a.1.length), (4, .int .i64 ((min (rdV b bad) 4294967295 : Nat) : Int))])) (M := (fun a : (List Key) × (List UInt8) × Bool => (((St.empty 0).new (.cells [inlL bcells 1 a.2.1, .bool a.2.2])).new (rowL kcells a.1)))) (fun a : (List Key) × (List UInt8) × Bool => ((a.1 ++ (tks (min (rdV b bad) 4294967295 - a.1.length) a.2.1 a.2.2).1, (tks (min (rdV b bad) 4294967295 - a.1.length) a.2.1 a.2.2).2) = tkeys b bad) ∧ (a.1.length + a.2.1.length ≤ b.length) ∧ (RdI a.2.1 a.2.2)) (fun a : (List Key) × (List UInt8) × Bool => a.2.1.length) (fun (a : (List Key) × (List UInt8) × Bool) (o : Out) (lv : List (Nat × Value)) (M : St) => (o = .exit 0 ∧ (a.2.1 = [] ∨ min (rdV b bad) 4294967295 - a.1.length = 0) ∧ lv = [(0, .pointer (some ⟨0, 0, none⟩)), (3, slL 1 2 a.1.length), (4, .int .i64 ((min (rdV b bad) 4294967295 : Nat) : Int))] ∧ M = (((St.empty 0).new (.cells [inlL bcells 1 a.2.1, .bool a.2.2])).new (rowL kcells a.1)))) (Nat.zero_le _) (fun a ha => ?_) (fun a ha => ?_) (fun a m ha => ?_) (fun a m ha => ?_) (([] : List Key), (rdR b bad), (rdB b bad)) m2 ?_).up ?_
  · exact ⟨by kernel_rfl, (((wf_empty 0).new _).new _), (selfs (all_cons (o := .cells [inlL bcells 1 a.2.1, .bool a.2.2]) (by kernel_rfl) (OSub.cells (.cons (sub_clo rfl) (.cons (sub_clo rfl) .nil))) (all_cons (o := rowL kcells a.1) (by kernel_rfl) (OSub.arr (subs_clo (flatL_clo kcells_clo))) (all_none))))⟩
  · exact ⟨.ptr ⟨by decide, rfl⟩, .slice ⟨by decide, rfl⟩, sub_clo rfl, trivial⟩
  · exact ⟨by kernel_rfl, by kernel_rfl, by kernel_rfl, trivial⟩
  · obtain ⟨acc, cb, cbad⟩ := a
    obtain ⟨i0, i1, i2⟩ := ha
    dsimp only at i0 i1 i2
    repeat' (with_reducible first | refine sk_seq ?_ | refine sk_block ?_ | refine sk_skip ?_ | refine sk_scope ?_)
    refine sk_regionL Try.cfgOk hS ?_
    refine al_chunk 3 (by kernel_rfl) ?_
    refine al_test (by kernel_rfl) (by kernel_rfl) (by kernel_rfl) (fun h3 => ?_) (fun h3 => ?_)
    · have c4e : (decide ((((acc.length : Nat) : Int) : Int) < ((min (rdV b bad) 4294967295 : Nat) : Int))) = true := Eq.trans (by kernel_rfl) h3
      clear h3
      have c4 : (((acc.length : Nat) : Int) : Int) < ((min (rdV b bad) 4294967295 : Nat) : Int) := of_decide_eq_true c4e
      clear c4e
      refine al_chunk 2 (by kernel_rfl) ?_
      refine al_callH 57 [.pointer (some ⟨0, 0, none⟩)] (.int .i64 ((cb.length : Nat) : Int)) _ rfl (fun b h => by cases h) (by kernel_rfl) (by kernel_rfl) (hC57 _ _ _ _ (con_rleft_at cb cbad 0  _ (by kernel_rfl) (by kernel_rfl) )) ?_
      refine al_test (by kernel_rfl) (by kernel_rfl) (by kernel_rfl) (fun h5 => ?_) (fun h5 => ?_)
      · have c6e : (decide ((((cb.length : Nat) : Int) : Int) > 0)) = true := Eq.trans (by kernel_rfl) h5
        clear h5
        have c6 : (((cb.length : Nat) : Int) : Int) > 0 := of_decide_eq_true c6e
        clear c6e
        refine al_known (by kernel_rfl) ?_
        repeat' (with_reducible first | refine sk_seq ?_ | refine sk_block ?_ | refine sk_skip ?_ | refine sk_scope ?_)
        refine sk_true (by kernel_rfl) ?_
        repeat' (with_reducible first | refine sk_seq ?_ | refine sk_block ?_ | refine sk_skip ?_ | refine sk_scope ?_)
        refine sk_regionL Try.cfgOk hS ?_
        refine al_chunk 2 (by kernel_rfl) ?_
        refine al_callH 56 [.pointer (some ⟨0, 0, none⟩)] (.int .i64 ((min (rdV cb cbad) 4294967295 : Nat) : Int)) _ rfl (fun b h => by cases h) (by kernel_rfl) (by kernel_rfl) (hC56 _ _ _ _ (con_fsmall_at cb cbad 0 (by first | omega | assumption | (have q := rdR_le b bad; omega) | (have q := rdR_le cb cbad; omega)) _ (by kernel_rfl) (by kernel_rfl) )) ?_
        refine al_chunk 1 (by kernel_rfl) ?_
        refine al_callH 58 [.pointer (some ⟨0, 0, none⟩)] (.int .i64 (unf (rdV (rdR cb cbad) (rdB cb cbad)))) _ rfl (fun b h => by cases h) (by kernel_rfl) (by kernel_rfl) (hC58 _ _ _ _ (con_rdnum_at (rdR cb cbad) (rdB cb cbad) 0 (by first | omega | assumption | (have q := rdR_le b bad; omega) | (have q := rdR_le cb cbad; omega)) _ (by kernel_rfl) (by kernel_rfl) )) ?_
        refine al_chunk 2 (by kernel_rfl) ?_
        refine al_opF (v := slL 1 2 (acc ++ [(((min (rdV cb cbad) 4294967295 : Nat) : Int), (unf (rdV (rdR cb cbad) (rdB cb cbad))))]).length) (s1 := ((((St.empty 0).new (.cells [inlL bcells 1 (rdR (rdR cb cbad) (rdB cb cbad)), .bool (rdB (rdR cb cbad) (rdB cb cbad))])).new (rowL kcells acc)).new (.arr [.int .i64 ((min (rdV cb cbad) 4294967295 : Nat) : Int), .int .i64 (unf (rdV (rdR cb cbad) (rdB cb cbad)))] 0 false)).set 1 (rowL kcells (acc ++ [(((min (rdV cb cbad) 4294967295 : Nat) : Int), (unf (rdV (rdR cb cbad) (rdB cb cbad))))]))) (by kernel_rfl) (by kernel_rfl) (Eq.trans (b := appendV Try.cfg ((((St.empty 0).new (.cells [inlL bcells 1 (rdR (rdR cb cbad) (rdB cb cbad)), .bool (rdB (rdR cb cbad) (rdB cb cbad))])).new (rowL kcells acc)).new (.arr [.int .i64 ((min (rdV cb cbad) 4294967295 : Nat) : Int), .int .i64 (unf (rdV (rdR cb cbad) (rdB cb cbad)))] 0 false)) 22 (slL 1 2 acc.length) (.slice (some ⟨2, 0, some 2⟩) 1 2)) (by kernel_rfl) (app_rowL (l := acc) (l2 := [(((min (rdV cb cbad) 4294967295 : Nat) : Int), (unf (rdV (rdR cb cbad) (rdB cb cbad))))]) (bytes := 16) tokC (by kernel_rfl) kcells_len kcells_one (by kernel_rfl) (by kernel_rfl) (by kernel_rfl) (by (try simp only [List.length_cons, List.length_nil, List.length_append]); omega))) ?_
        refine al_known (by kernel_rfl) ?_
        repeat' (with_reducible first | refine sk_seq ?_ | refine sk_block ?_ | refine sk_skip ?_ | refine sk_scope ?_)
        refine .inl ⟨((acc ++ [(((min (rdV cb cbad) 4294967295 : Nat) : Int), (unf (rdV (rdR cb cbad) (rdB cb cbad))))]), (rdR (rdR cb cbad) (rdB cb cbad)), (rdB (rdR cb cbad) (rdB cb cbad))), rfl, ⟨?_, ?_, ?_⟩, ?_, ⟨by kernel_rfl, ⟨by kernel_rfl, by kernel_rfl, by kernel_rfl, trivial⟩, ⟨.ptr ⟨by decide, rfl⟩, .slice ⟨by decide, rfl⟩, sub_clo rfl, trivial⟩, Nat.le_of_ble_eq_true (by kernel_rfl), ⟨by kernel_rfl, (((wf_empty 0).new _).new _), (selfs (all_cons (o := .cells [inlL bcells 1 (rdR (rdR cb cbad) (rdB cb cbad)), .bool (rdB (rdR cb cbad) (rdB cb cbad))]) (by kernel_rfl) (OSub.cells (.cons (sub_clo rfl) (.cons (sub_clo rfl) .nil))) (all_cons (o := rowL kcells (acc ++ [(((min (rdV cb cbad) 4294967295 : Nat) : Int), (unf (rdV (rdR cb cbad) (rdB cb cbad))))])) (by kernel_rfl) (OSub.arr (subs_clo (flatL_clo kcells_clo))) (all_none))))⟩, mem_all (by kernel_rfl)⟩⟩
        · (try dsimp only); rw [show ∀ x : Key, (acc ++ [x]).length = acc.length + 1 from fun x => by simp]; exact (tks_step (by omega) (by intro e; have q := congrArg List.length e; simp only [List.length_nil] at q; omega)).trans i0
        · (try dsimp only); have l1 := rdR_lt' i2 (by intro e; have q := congrArg List.length e; simp only [List.length_nil] at q; omega); have l2 := rdR_le (rdR cb cbad) (rdB cb cbad); simp only [List.length_append, List.length_cons, List.length_nil]; omega
        · (try dsimp only); exact rdI_step (rdI_step i2)
        · dsimp only; have l1 := rdR_lt' i2 (by intro e; have q := congrArg List.length e; simp only [List.length_nil] at q; omega); have l2 := rdR_le (rdR cb cbad) (rdB cb cbad); omega
      · have c6e : (decide ((((cb.length : Nat) : Int) : Int) > 0)) = false := Eq.trans (by kernel_rfl) h5
        clear h5
        have c6 : ¬ (((cb.length : Nat) : Int) : Int) > 0 := of_decide_eq_false c6e
        clear c6e
        refine al_known (by kernel_rfl) ?_
        repeat' (with_reducible first | refine sk_seq ?_ | refine sk_block ?_ | refine sk_skip ?_ | refine sk_scope ?_)
        refine sk_false (by kernel_rfl) ?_
        repeat' (with_reducible first | refine sk_seq ?_ | refine sk_block ?_ | refine sk_skip ?_ | refine sk_scope ?_)
        refine sk_exit ?_
        dsimp only
        refine .inr ⟨_, _, (fun h => by cases h), ⟨rfl, ?_, rfl, rfl⟩, ⟨by kernel_rfl, ⟨by kernel_rfl, by kernel_rfl, by kernel_rfl, trivial⟩, ⟨.ptr ⟨by decide, rfl⟩, .slice ⟨by decide, rfl⟩, sub_clo rfl, trivial⟩, Nat.le_of_ble_eq_true (by kernel_rfl), ⟨by kernel_rfl, (((wf_empty 0).new _).new _), (selfs (all_cons (o := .cells [inlL bcells 1 cb, .bool cbad]) (by kernel_rfl) (OSub.cells (.cons (sub_clo rfl) (.cons (sub_clo rfl) .nil))) (all_cons (o := rowL kcells acc) (by kernel_rfl) (OSub.arr (subs_clo (flatL_clo kcells_clo))) (all_none))))⟩, mem_all (by kernel_rfl)⟩⟩
        · first | exact .inl (List.eq_nil_of_length_eq_zero (by omega)) | exact .inr (by omega)
    · have c4e : (decide ((((acc.length : Nat) : Int) : Int) < ((min (rdV b bad) 4294967295 : Nat) : Int))) = false := Eq.trans (by kernel_rfl) h3
      clear h3
      have c4 : ¬ (((acc.length : Nat) : Int) : Int) < ((min (rdV b bad) 4294967295 : Nat) : Int) := of_decide_eq_false c4e
      clear c4e
      refine al_known (by kernel_rfl) ?_
      repeat' (with_reducible first | refine sk_seq ?_ | refine sk_block ?_ | refine sk_skip ?_ | refine sk_scope ?_)
      refine sk_false (by kernel_rfl) ?_
      repeat' (with_reducible first | refine sk_seq ?_ | refine sk_block ?_ | refine sk_skip ?_ | refine sk_scope ?_)
      refine sk_exit ?_
      dsimp only
      refine .inr ⟨_, _, (fun h => by cases h), ⟨rfl, ?_, rfl, rfl⟩, ⟨by kernel_rfl, ⟨by kernel_rfl, by kernel_rfl, by kernel_rfl, trivial⟩, ⟨.ptr ⟨by decide, rfl⟩, .slice ⟨by decide, rfl⟩, sub_clo rfl, trivial⟩, Nat.le_of_ble_eq_true (by kernel_rfl), ⟨by kernel_rfl, (((wf_empty 0).new _).new _), (selfs (all_cons (o := .cells [inlL bcells 1 cb, .bool cbad]) (by kernel_rfl) (OSub.cells (.cons (sub_clo rfl) (.cons (sub_clo rfl) .nil))) (all_cons (o := rowL kcells acc) (by kernel_rfl) (OSub.arr (subs_clo (flatL_clo kcells_clo))) (all_none))))⟩, mem_all (by kernel_rfl)⟩⟩
      · first | exact .inl (List.eq_nil_of_length_eq_zero (by omega)) | exact .inr (by omega)
  · exact ⟨by ((try dsimp only); first | done | (rfl)), by ((try dsimp only); first | done | (have q := rdR_le b bad; simpa using q)), by ((try dsimp only); first | done | (exact rdI_step h1))⟩
  rintro o e1 s1 ⟨a, lv1, M1, m2, ha, ⟨rfl, hx, rfl, rfl⟩, rfl, rfl⟩
  obtain ⟨acc, cb, cbad⟩ := a
  obtain ⟨i0, i1, i2⟩ := ha
  dsimp only at hx i0 i1 i2
  dsimp only
  try rw [if_pos rfl]
  repeat' (with_reducible first | refine sk_seq ?_ | refine sk_block ?_ | refine sk_skip ?_ | refine sk_scope ?_)
  refine sk_regionK Try.cfgOk hS (by kernel_rfl) ?_
  repeat' (with_reducible first | refine sk_seq ?_ | refine sk_block ?_ | refine sk_skip ?_ | refine sk_scope ?_)
  refine sk_ret ?_
  exact ⟨[slL 1 2 acc.length], by kernel_rfl, fs_to (fs_rowL (by decide) kcells_len kcells_clo kcells_one (Nat.le_of_ble_eq_true (by kernel_rfl)) (by kernel_rfl)) (congrArg (inlL kcells 2) (by have q := i0; rw [tks_stop hx, List.append_nil] at q; rw [← q])), Nat.le_of_ble_eq_true (by kernel_rfl), all1 (Eq.trans (b := some (.cells [inlL bcells 1 cb, .bool cbad])) (by kernel_rfl) (congrArg some (show ((.cells [inlL bcells 1 cb, .bool cbad]) : AObj) = .cells [inlL bcells 1 ((tkeys b bad).2.1), .bool ((tkeys b bad).2.2)] by have q := i0; rw [tks_stop hx, List.append_nil] at q; rw [← q])))⟩
noncomputable def sm_takeKeys : Small Try.prog 0 55 ((List UInt8) × Bool) where
  k := 1
  A := fun z9 ρ => [.pointer (some ⟨(ρ 0), 0, none⟩)]
  M := fun z9 ρ => objL [.cells [inlL bcells 1 z9.1, .bool z9.2]]
  M1 := fun z9 ρ => objL [.cells [inlL bcells 1 ((tkeys z9.1 z9.2).2.1), .bool ((tkeys z9.1 z9.2).2.2)]]
  V := fun z9 ρ => inlL kcells 2 ((tkeys z9.1 z9.2).1)
  Pre := fun z9 => (z9.1.length ≤ 1000000000) ∧ (RdI z9.1 z9.2)
  ch := [0]
  N := 400
  s0 := fun z9 => ((St.empty 0).new (.cells [inlL bcells 1 z9.1, .bool z9.2]))
  hch := by decide
  hsame := fun x ρ => all1 (fun h => absurd (by decide) h)
  hG := rfl
  hn := fun x => rfl
  hwf := fun x => ((wf_empty 0).new _)
  hget := fun x => all1 (by kernel_rfl)
  noloop := fun x ρ => all1 (fun h => h.elim)
  inA := fun x ρ R hR => .cons (.ptr (hR 0 _ (by decide))) .nil
  inM := fun x ρ R hR => all1 (OSub.cells (.cons (sub_clo rfl) (.cons (sub_clo rfl) .nil)))
  outM := fun x ρ R hR => all1 (OSub.cells (.cons (sub_clo rfl) (.cons (sub_clo rfl) .nil)))
  outV := fun x ρ R hR => sub_clo rfl
  dom := by
    intro x ρ a ha
    obtain rfl := List.mem_singleton.1 ha
    refine .inl fun β y h => ?_
    obtain ⟨_, _, _, h, _⟩ := h.cons_inv
    exact h.dom_ptr
  sc := by
    rintro ⟨a0, a1⟩ ⟨p0, p1⟩
    exact takeKeys_sc a0 a1 p0 p1
  det := by
    rintro ⟨a0, a1⟩ ρ ⟨b0, b1⟩ σ s h hm hm'
    simp only [List.cons.injEq, and_true, Int.natCast_inj, Value.int.injEq, Value.bool.injEq, Value.string.injEq, Value.agg.injEq, Array.mk.injEq, true_and, Value.pointer.injEq, Option.some.injEq, Addr.mk.injEq, Value.func.injEq, AObj.cells.injEq, AObj.arr.injEq, slL_iff, bcells_iff] at h
    have q0 : ρ 0 = σ 0 := by simp_all
    have e0 := (hm 0 (by decide)).symm.trans ((congrArg s.get q0).trans (hm' 0 (by decide)))
    simp only [objL, List.getD_cons_zero, List.getD_cons_succ, List.cons.injEq, and_true, Int.natCast_inj, Value.int.injEq, Value.bool.injEq, Value.string.injEq, Value.agg.injEq, Array.mk.injEq, true_and, Value.pointer.injEq, Option.some.injEq, Addr.mk.injEq, Value.func.injEq, AObj.cells.injEq, AObj.arr.injEq, slL_iff, bcells_iff] at e0
    have q : ∀ a, a < 1 → ρ a = σ a := all1 q0
    clear hm hm'
    exact ⟨by first | rfl | (simp_all [Prod.ext_iff]; done) | exact e0, q⟩
  par := by
    intro x ρ σ h
    have h0 := h 0 (by decide)
    exact ⟨by first | rfl | simp only [h0], by first | exact fun _ _ => rfl | (intro a ha; simp only [h0])⟩
noncomputable def con_takeKeys : Con Try.prog 0 := sm_takeKeys.con
theorem con_takeKeys_at (b : List UInt8) (bad : Bool) (i0 : Nat) (h0 : b.length ≤ 1000000000) (h1 : RdI b bad) (s : St) (hn : nodupB [i0] = true) (m0 : s.get i0 = some (.cells [inlL bcells 1 b, .bool bad])) : con_takeKeys.rel [.pointer (some ⟨i0, 0, none⟩)] s (inlL kcells 2 ((tkeys b bad).1)) (s.set i0 (.cells [inlL bcells 1 ((tkeys b bad).2.1), .bool ((tkeys b bad).2.2)])) :=
  sm_takeKeys.at_ (b, bad) [i0] s _ ⟨h0, h1⟩ rfl hn rfl (all1 m0) rfl rfl
end Go.Proofs.Ytekeepgjegkedaa