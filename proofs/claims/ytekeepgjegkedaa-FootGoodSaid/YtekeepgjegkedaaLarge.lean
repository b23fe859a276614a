/- The law. -/
import Derived.Test.YtekeepgjegkedaaGood
import Derived.Test.YtekeepgjegkedaaMeet
set_option linter.unusedVariables false
set_option linter.unusedSimpArgs false
set_option linter.unnecessarySimpa false
namespace Go.Proofs.Ytekeepgjegkedaa
open Go.Ai
def bigF (l : List Foot) (i : Nat) : Prop := ∃ x, l[i]? = some x ∧ (i > 10 ∨ x.1.length > 60 ∨ x.2.1.length > 60 ∨ x.2.2.length > 60)
theorem bigF_iff {l : List Foot} {i : Nat} {x : Foot} (hx : l[i]? = some x) : bigF l i ↔ (i > 10 ∨ x.1.length > 60 ∨ x.2.1.length > 60 ∨ x.2.2.length > 60) :=
  ⟨fun ⟨z, h1, h2⟩ => by rw [hx] at h1; obtain rfl := Option.some.inj h1; exact h2, fun h => ⟨x, hx, h⟩⟩
abbrev largeL (l : List Foot) : Prop := ∃ i, i < l.length ∧ bigF l i

theorem large_fn : Try.cfg.fn 9 = some Try.f9 := by kernel_rfl
set_option maxHeartbeats 4000000 in
set_option maxRecDepth 100000 in
theorem large_sc (l : List Foot) (h0 : l.length ≤ 1000000) : SC Try.prog 0 9 [slL 0 3 l.length] ((St.empty 0).new (rowL fcells l)) fun v s' => v = .bool (tf (largeL l)) ∧ s'.n ≤ 400 ∧ ∀ a, a < 1 → s'.get a = some (objL [rowL fcells l] a) := by
  have hS := sound_run Try.cfgOk 300
  refine sc_body Try.cfgOk large_fn rfl ?_
  refine sk_seq ?_
  refine kK Try.cfgOk hS ?_
  refine sk_seq (sk_seq ?_)
  refine kK Try.cfgOk hS ?_
  refine sk_block ?_
  refine sk_live 33 ((fun a : Nat => [(5, slL 0 3 l.length), (6, .int .i64 ((l.length : Nat) : Int)), (7, .int .i64 ((a : Nat) : Int))]) 0) (by kernel_rfl) ⟨by kernel_rfl, by kernel_rfl, by kernel_rfl, trivial⟩ fun m1 => ?_
  refine sk_st ((fun a : Nat => ((St.empty 0).new (rowL fcells l))) 0) (by kernel_rfl) ?_
  refine (sk_while (k := 1) (N := 400) (live := (fun a : Nat => [(5, slL 0 3 l.length), (6, .int .i64 ((l.length : Nat) : Int)), (7, .int .i64 ((a : Nat) : Int))])) (M := (fun a : Nat => ((St.empty 0).new (rowL fcells l)))) (fun a : Nat => (a ≤ l.length) ∧ (NoI (fun a : Nat => bigF l a) a)) (fun a : Nat => l.length - a) (fun (a : Nat) (o : Out) (lv : List (Nat × Value)) (M : St) => (o = .exit 0 ∧ (¬ a < l.length) ∧ lv = [(5, slL 0 3 l.length), (6, .int .i64 ((l.length : Nat) : Int)), (7, .int .i64 ((a : Nat) : Int))] ∧ M = ((St.empty 0).new (rowL fcells l))) ∨ (o = .ret ∧ (a < l.length ∧ (bigF l a)) ∧ lv = [(2, .bool true)] ∧ M = ((St.empty 0).new (rowL fcells l)))) (Nat.zero_le _) (fun a ha => ?_) (fun a ha => ?_) (fun a m ha => ?_) (fun a m ha => ?_) 0 m1 ?_).up ?_
  · exact ⟨by kernel_rfl, ((wf_empty 0).new _), (selfs (all_cons (o := rowL fcells l) (by kernel_rfl) (OSub.arr (subs_clo (flatL_clo fcells_clo))) (all_none)))⟩
  · exact ⟨.slice ⟨by decide, rfl⟩, sub_clo rfl, sub_clo rfl, trivial⟩
  · exact ⟨by kernel_rfl, by kernel_rfl, by kernel_rfl, trivial⟩
  · obtain ⟨i, ea⟩ : ∃ z, z = a := ⟨_, rfl⟩
    subst ea
    obtain ⟨i0, i1⟩ := ha
    refine sk_seq ?_
    refine sk_regionL Try.cfgOk hS ?_
    refine aT (fun h2 => ?_) (fun h2 => ?_)
    · have c3e : (decide ((((i : Nat) : Int) : Int) < ((l.length : Nat) : Int))) = true := Eq.trans (by kernel_rfl) h2
      clear h2
      have c3 : (((i : Nat) : Int) : Int) < ((l.length : Nat) : Int) := of_decide_eq_true c3e
      clear c3e
      refine al_nil ?_
      refine sk_seq ?_
      refine kT ?_
      refine sk_skip (sk_seq (sk_block (sk_seq ?_)))
      refine sk_regionL Try.cfgOk hS ?_
      refine aK 1 ?_
      refine aM (indexAddrV Try.cfg 35 (slL 0 3 l.length) (.int .i64 ((i : Nat) : Int))) (.pointer (some ⟨0, i * 3, some (l.length * 3)⟩)) (idx_rowL (by kernel_rfl) (by omega)) ?_
      have hx4l : i < l.length := by omega
      refine Exists.elim (get_ex hx4l) fun x4 hx4 => ?_
      clear hx4l
      refine aM (loadV Try.cfg ((St.empty 0).new (rowL fcells l)) 25 (.pointer (some ⟨0, i * 3, some (l.length * 3)⟩))) (.agg #[inlL kcells 2 x4.1, inlL scells 3 x4.2.1, inlL kcells 2 x4.2.2]) (load_rowL (l := l) (by kernel_rfl) fcells_len (by kernel_rfl) hx4) ?_
      refine aN ?_
      refine sk_seq ?_
      refine sk_regionL Try.cfgOk hS ?_
      refine aK 1 ?_
      refine aT (fun h5 => ?_) (fun h5 => ?_)
      · have c6e : (decide ((((i : Nat) : Int) : Int) > 10)) = true := Eq.trans (by kernel_rfl) h5
        clear h5
        have c6 : (((i : Nat) : Int) : Int) > 10 := of_decide_eq_true c6e
        clear c6e
        refine aN ?_
        refine kT ?_
        refine sk_seq ?_
        refine kK Try.cfgOk hS ?_
        refine sk_ret ?_
        refine .inr ⟨_, _, (fun h => by cases h), .inr ⟨rfl, ?_, rfl, rfl⟩, ⟨by kernel_rfl, ⟨by kernel_rfl, trivial⟩, ⟨sub_clo rfl, trivial⟩, Nat.le_of_ble_eq_true (by kernel_rfl), ⟨by kernel_rfl, ((wf_empty 0).new _), (selfs (all_cons (o := rowL fcells l) (by kernel_rfl) (OSub.arr (subs_clo (flatL_clo fcells_clo))) (all_none)))⟩, mem_all (by kernel_rfl)⟩⟩
        · first | (refine ⟨by omega, ?_⟩; rw [bigF_iff (by assumption)]; omega) | (rw [bigF_iff (by assumption)]; omega)
      · have c6e : (decide ((((i : Nat) : Int) : Int) > 10)) = false := Eq.trans (by kernel_rfl) h5
        clear h5
        have c6 : ¬ (((i : Nat) : Int) : Int) > 10 := of_decide_eq_false c6e
        clear c6e
        refine aK 3 ?_
        refine aM (lenB Try.cfg (St.empty 0) 22 (inlL kcells 2 x4.1)) (.int .i64 ((x4.1.length : Nat) : Int)) (len_inl tokC (by kernel_rfl)) ?_
        refine aT (fun h7 => ?_) (fun h7 => ?_)
        · have c8e : (decide ((((x4.1.length : Nat) : Int) : Int) > 60)) = true := Eq.trans (by kernel_rfl) h7
          clear h7
          have c8 : (((x4.1.length : Nat) : Int) : Int) > 60 := of_decide_eq_true c8e
          clear c8e
          refine aN ?_
          refine kT ?_
          refine sk_seq ?_
          refine kK Try.cfgOk hS ?_
          refine sk_ret ?_
          refine .inr ⟨_, _, (fun h => by cases h), .inr ⟨rfl, ?_, rfl, rfl⟩, ⟨by kernel_rfl, ⟨by kernel_rfl, trivial⟩, ⟨sub_clo rfl, trivial⟩, Nat.le_of_ble_eq_true (by kernel_rfl), ⟨by kernel_rfl, ((wf_empty 0).new _), (selfs (all_cons (o := rowL fcells l) (by kernel_rfl) (OSub.arr (subs_clo (flatL_clo fcells_clo))) (all_none)))⟩, mem_all (by kernel_rfl)⟩⟩
          · first | (refine ⟨by omega, ?_⟩; rw [bigF_iff (by assumption)]; omega) | (rw [bigF_iff (by assumption)]; omega)
        · have c8e : (decide ((((x4.1.length : Nat) : Int) : Int) > 60)) = false := Eq.trans (by kernel_rfl) h7
          clear h7
          have c8 : ¬ (((x4.1.length : Nat) : Int) : Int) > 60 := of_decide_eq_false c8e
          clear c8e
          refine aK 4 ?_
          refine aM (lenB Try.cfg (St.empty 0) 23 (inlL scells 3 x4.2.1)) (.int .i64 ((x4.2.1.length : Nat) : Int)) (len_inl tokC (by kernel_rfl)) ?_
          refine aT (fun h9 => ?_) (fun h9 => ?_)
          · have c10e : (decide ((((x4.2.1.length : Nat) : Int) : Int) > 60)) = true := Eq.trans (by kernel_rfl) h9
            clear h9
            have c10 : (((x4.2.1.length : Nat) : Int) : Int) > 60 := of_decide_eq_true c10e
            clear c10e
            refine aN ?_
            refine kT ?_
            refine sk_seq ?_
            refine kK Try.cfgOk hS ?_
            refine sk_ret ?_
            refine .inr ⟨_, _, (fun h => by cases h), .inr ⟨rfl, ?_, rfl, rfl⟩, ⟨by kernel_rfl, ⟨by kernel_rfl, trivial⟩, ⟨sub_clo rfl, trivial⟩, Nat.le_of_ble_eq_true (by kernel_rfl), ⟨by kernel_rfl, ((wf_empty 0).new _), (selfs (all_cons (o := rowL fcells l) (by kernel_rfl) (OSub.arr (subs_clo (flatL_clo fcells_clo))) (all_none)))⟩, mem_all (by kernel_rfl)⟩⟩
            · first | (refine ⟨by omega, ?_⟩; rw [bigF_iff (by assumption)]; omega) | (rw [bigF_iff (by assumption)]; omega)
          · have c10e : (decide ((((x4.2.1.length : Nat) : Int) : Int) > 60)) = false := Eq.trans (by kernel_rfl) h9
            clear h9
            have c10 : ¬ (((x4.2.1.length : Nat) : Int) : Int) > 60 := of_decide_eq_false c10e
            clear c10e
            refine aK 4 ?_
            refine aM (lenB Try.cfg (St.empty 0) 22 (inlL kcells 2 x4.2.2)) (.int .i64 ((x4.2.2.length : Nat) : Int)) (len_inl tokC (by kernel_rfl)) ?_
            refine aT (fun h11 => ?_) (fun h11 => ?_)
            · have c12e : (decide ((((x4.2.2.length : Nat) : Int) : Int) > 60)) = true := Eq.trans (by kernel_rfl) h11
              clear h11
              have c12 : (((x4.2.2.length : Nat) : Int) : Int) > 60 := of_decide_eq_true c12e
              clear c12e
              refine aN ?_
              refine kT ?_
              refine sk_seq ?_
              refine kK Try.cfgOk hS ?_
              refine sk_ret ?_
              refine .inr ⟨_, _, (fun h => by cases h), .inr ⟨rfl, ?_, rfl, rfl⟩, ⟨by kernel_rfl, ⟨by kernel_rfl, trivial⟩, ⟨sub_clo rfl, trivial⟩, Nat.le_of_ble_eq_true (by kernel_rfl), ⟨by kernel_rfl, ((wf_empty 0).new _), (selfs (all_cons (o := rowL fcells l) (by kernel_rfl) (OSub.arr (subs_clo (flatL_clo fcells_clo))) (all_none)))⟩, mem_all (by kernel_rfl)⟩⟩
              · first | (refine ⟨by omega, ?_⟩; rw [bigF_iff (by assumption)]; omega) | (rw [bigF_iff (by assumption)]; omega)
            · have c12e : (decide ((((x4.2.2.length : Nat) : Int) : Int) > 60)) = false := Eq.trans (by kernel_rfl) h11
              clear h11
              have c12 : ¬ (((x4.2.2.length : Nat) : Int) : Int) > 60 := of_decide_eq_false c12e
              clear c12e
              refine aN ?_
              refine kF ?_
              refine sk_skip ?_
              refine sk_regionL Try.cfgOk hS ?_
              refine aE (v := .int .i64 (IntKind.wrap .i64 (((i : Nat) : Int) + 1))) (.int .i64 ((i + 1 : Nat) : Int)) (congrArg (Value.int .i64) (wrap_to (by omega) (by omega))) ?_
              refine aN ?_
              refine .inl ⟨i + 1, rfl, ⟨?_, ?_⟩, ?_, ⟨by kernel_rfl, ⟨by kernel_rfl, by kernel_rfl, by kernel_rfl, trivial⟩, ⟨.slice ⟨by decide, rfl⟩, sub_clo rfl, sub_clo rfl, trivial⟩, Nat.le_of_ble_eq_true (by kernel_rfl), ⟨by kernel_rfl, ((wf_empty 0).new _), (selfs (all_cons (o := rowL fcells l) (by kernel_rfl) (OSub.arr (subs_clo (flatL_clo fcells_clo))) (all_none)))⟩, mem_all (by kernel_rfl)⟩⟩
              · (try dsimp only); omega
              · (try dsimp only); exact NoI.succ (p := (fun i : Nat => bigF l i)) (by assumption) (by first | (refine ⟨by omega, ?_⟩; rw [bigF_iff (by assumption)]; omega) | (rw [bigF_iff (by assumption)]; omega))
              · omega
    · have c3e : (decide ((((i : Nat) : Int) : Int) < ((l.length : Nat) : Int))) = false := Eq.trans (by kernel_rfl) h2
      clear h2
      have c3 : ¬ (((i : Nat) : Int) : Int) < ((l.length : Nat) : Int) := of_decide_eq_false c3e
      clear c3e
      refine al_nil ?_
      refine sk_seq ?_
      refine kF ?_
      refine sk_exit ?_
      dsimp only
      refine .inr ⟨_, _, (fun h => by cases h), .inl ⟨rfl, ?_, rfl, rfl⟩, ⟨by kernel_rfl, ⟨by kernel_rfl, by kernel_rfl, by kernel_rfl, trivial⟩, ⟨.slice ⟨by decide, rfl⟩, sub_clo rfl, sub_clo rfl, trivial⟩, Nat.le_of_ble_eq_true (by kernel_rfl), ⟨by kernel_rfl, ((wf_empty 0).new _), (selfs (all_cons (o := rowL fcells l) (by kernel_rfl) (OSub.arr (subs_clo (flatL_clo fcells_clo))) (all_none)))⟩, mem_all (by kernel_rfl)⟩⟩
      · omega
  · exact ⟨by ((try dsimp only); first | done | (omega)), by ((try dsimp only); first | done | (exact NoI.zero))⟩
  rintro o e1 s1 ⟨a, lv1, M1, m1, ha, (⟨rfl, hx, rfl, rfl⟩ | ⟨rfl, hx, rfl, rfl⟩), rfl, rfl⟩
  ·
    obtain ⟨i, ea⟩ : ∃ z, z = a := ⟨_, rfl⟩
    subst ea
    obtain ⟨i0, i1⟩ := ha
    dsimp only
    try rw [if_pos rfl]
    refine sk_seq ?_
    refine kK Try.cfgOk hS ?_
    refine sk_ret ?_
    exact ⟨[.bool false], by kernel_rfl, congrArg Value.bool (by first | (obtain ⟨q1, q2⟩ := hx; exact Eq.symm (tf_true ⟨_, q1, q2⟩)) | exact Eq.symm (tf_false (fun h => NoI.none (by assumption) hx h))), Nat.le_of_ble_eq_true (by kernel_rfl), all1 (by kernel_rfl)⟩
  ·
    obtain ⟨i, ea⟩ : ∃ z, z = a := ⟨_, rfl⟩
    subst ea
    obtain ⟨i0, i1⟩ := ha
    dsimp only
    exact ⟨[.bool true], by kernel_rfl, congrArg Value.bool (by first | (obtain ⟨q1, q2⟩ := hx; exact Eq.symm (tf_true ⟨_, q1, q2⟩)) | exact Eq.symm (tf_false (fun h => NoI.none (by assumption) hx h))), Nat.le_of_ble_eq_true (by kernel_rfl), all1 (by kernel_rfl)⟩
noncomputable def sm_large : Small Try.prog 0 9 ((List Foot)) where
  k := 1
  A := fun z9 ρ => [slL (ρ 0) 3 z9.length]
  M := fun z9 ρ => objL [rowL fcells z9]
  M1 := fun z9 ρ => objL [rowL fcells z9]
  V := fun z9 ρ => .bool (tf (largeL z9))
  Pre := fun z9 => (z9.length ≤ 1000000)
  ch := []
  N := 400
  s0 := fun z9 => ((St.empty 0).new (rowL fcells z9))
  hch := by decide
  hsame := fun x ρ => all1 (fun _ => rfl)
  hG := rfl
  hn := fun x => rfl
  hwf := fun x => ((wf_empty 0).new _)
  hget := fun x => all1 (by kernel_rfl)
  noloop := fun x ρ => all1 (fun h => h.elim)
  inA := fun x ρ R hR => .cons (.slice (hR 0 _ (by decide))) .nil
  inM := fun x ρ R hR => all1 (OSub.arr (subs_clo (flatL_clo fcells_clo)))
  outM := fun x ρ R hR => all1 (OSub.arr (subs_clo (flatL_clo fcells_clo)))
  outV := fun x ρ R hR => sub_clo rfl
  dom := by
    intro x ρ a ha
    cases ha
  sc := by
    rintro x p0
    exact large_sc x p0
  det := by
    rintro x ρ y σ s h hm hm'
    simp only [List.cons.injEq, and_true, Int.natCast_inj, UInt8.toNat_inj, Value.int.injEq, Value.bool.injEq, Value.string.injEq, Value.agg.injEq, Array.mk.injEq, true_and, Value.pointer.injEq, Option.some.injEq, Addr.mk.injEq, Value.func.injEq, AObj.cells.injEq, AObj.arr.injEq, slL_iff, fcells_row] at h
    have q0 : ρ 0 = σ 0 := by simp_all
    have e0 := (hm 0 (by decide)).symm.trans ((congrArg s.get q0).trans (hm' 0 (by decide)))
    simp only [objL, List.getD_cons_zero, List.getD_cons_succ, List.cons.injEq, and_true, Int.natCast_inj, UInt8.toNat_inj, Value.int.injEq, Value.bool.injEq, Value.string.injEq, Value.agg.injEq, Array.mk.injEq, true_and, Value.pointer.injEq, Option.some.injEq, Addr.mk.injEq, Value.func.injEq, AObj.cells.injEq, AObj.arr.injEq, slL_iff, fcells_row] at e0
    have q : ∀ a, a < 1 → ρ a = σ a := all1 q0
    clear hm hm'
    exact ⟨by first | rfl | (simp_all [Prod.ext_iff]; done) | exact e0, q⟩
  par := by
    intro x ρ σ h
    have h0 := h 0 (by decide)
    exact ⟨by first | rfl | simp only [h0], by first | exact fun _ _ => rfl | (intro a ha; simp only [h0])⟩
noncomputable def con_large : Con Try.prog 0 := sm_large.con
theorem con_large_at (l : List Foot) (i0 : Nat) (h0 : l.length ≤ 1000000) (s : St) (hn : nodupB [i0] = true) (m0 : s.get i0 = some (rowL fcells l)) : con_large.rel [slL i0 3 l.length] s (.bool (tf (largeL l))) s :=
  sm_large.at_ l [i0] s _ h0 rfl hn rfl (all1 m0) rfl rfl
theorem alive_run : allTrueN 4000 (run Try.cfg 4000 (.call 8 []) (St.empty 0)) = true := by kernel_rfl
theorem alive_sc : SC Try.prog 0 8 [] (St.empty 0) fun v s' => v = .bool true ∧ s'.n ≤ 4000 := sc_closed Try.cfgOk 4000 4000 alive_run
noncomputable def con_alive : Con Try.prog 0 := Con.pure (α := Unit) 8 (fun z9 => []) (fun z9 => .bool true) (fun z9 => True) (by
  intro x y _; rfl) (fun _ => rfl) (fun _ => rfl) 4000 (by
  intro x hp; exact alive_sc)
theorem con_alive_at   (s : St) : con_alive.rel [] s (.bool true) s := con_pure () trivial s
end Go.Proofs.Ytekeepgjegkedaa