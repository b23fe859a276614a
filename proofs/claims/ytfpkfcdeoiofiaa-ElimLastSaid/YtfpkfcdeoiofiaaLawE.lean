/- The law: which writes are kept. -/
import Derived.Test.YtfpkfcdeoiofiaaKept
set_option linter.unusedVariables false
set_option linter.unusedSimpArgs false
set_option linter.unnecessarySimpa false
namespace Go.Proofs.Ytfpkfcdeoiofiaa
open Go.Ai
theorem alive_run : allTrueN 4000 (run Try.cfg 4000 (.call 4 []) (St.empty 0)) = true := by kernel_rfl
theorem alive_sc : SC Try.prog 0 4 [] (St.empty 0) fun v s' => v = .bool true ∧ s'.n ≤ 4000 := sc_closed Try.cfgOk 4000 4000 alive_run
noncomputable def con_alive : Con Try.prog 0 := Con.pure (α := Unit) 4 (fun z9 => []) (fun z9 => .bool true) (fun z9 => True) (by
  intro x y _; rfl) (fun _ => rfl) (fun _ => rfl) 4000 (by
  intro x hp; exact alive_sc)
theorem con_alive_at   (s : St) : con_alive.rel [] s (.bool true) s := con_pure () trivial s
theorem nwrites_fn : Try.cfg.fn 8 = some Try.f8 := by kernel_rfl
set_option maxHeartbeats 4000000 in
set_option maxRecDepth 100000 in
theorem nwrites_sc (la : List Wr) (lb : List Wr) (h0 : la.length ≤ 1000000) (h1 : lb.length ≤ 1000000) : SC Try.prog 0 8 [inlL wcells 4 la, inlL wcells 4 lb] (St.empty 0) fun v s' => v = .bool (decide (la = lb)) ∧ s'.n ≤ 400 := by
  have hS := sound_run Try.cfgOk 300
  refine sc_ice0 (N := 400) (v2 := .bool (decide (la = lb))) (Q := fun v s' => FS 0 s' v (.bool (decide (la = lb))) ∧ s'.n ≤ 400) ?_ (fun _ _ h => h)
  refine sc_body Try.cfgOk nwrites_fn rfl ?_
  refine sk_seq ?_
  refine kK Try.cfgOk hS ?_
  refine sk_seq (sk_seq ?_)
  refine sk_regionL Try.cfgOk hS ?_
  refine aK 1 ?_
  refine aM (lenB Try.cfg (St.empty 0) 36 (inlL wcells 4 la)) (.int .i64 ((la.length : Nat) : Int)) (len_inl tokC (by kernel_rfl)) ?_
  refine aK 1 ?_
  refine aM (lenB Try.cfg (St.empty 0) 36 (inlL wcells 4 lb)) (.int .i64 ((lb.length : Nat) : Int)) (len_inl tokC (by kernel_rfl)) ?_
  refine aT (fun h1 => ?_) (fun h1 => ?_)
  · have c2e : ((((la.length : Nat) : Int) : Int) != ((lb.length : Nat) : Int)) = true := Eq.trans (by kernel_rfl) h1
    clear h1
    have c2 : ¬ (((la.length : Nat) : Int) : Int) = ((lb.length : Nat) : Int) := bne_iff_ne.1 c2e
    clear c2e
    refine al_nil ?_
    refine kT ?_
    refine sk_seq ?_
    refine kK Try.cfgOk hS ?_
    refine sk_ret ?_
    exact ⟨[.bool false], by kernel_rfl, fs_to (fs_clo rfl) (congrArg Value.bool (by first | exact (decide_eq_false (by assumption)).symm | exact (decide_eq_true (take_all (by assumption) (by assumption) (by omega))).symm | exact (decide_eq_false (fun e => by subst e; omega)).symm)), Nat.le_of_ble_eq_true (by kernel_rfl)⟩
  · have c2e : ((((la.length : Nat) : Int) : Int) != ((lb.length : Nat) : Int)) = false := Eq.trans (by kernel_rfl) h1
    clear h1
    have c2 : (((la.length : Nat) : Int) : Int) = ((lb.length : Nat) : Int) := bne_eq_false_iff_eq.1 c2e
    clear c2e
    refine al_nil ?_
    refine kF ?_
    refine sk_skip (sk_seq (sk_seq ?_))
    refine sk_regionL Try.cfgOk hS ?_
    refine aK 1 ?_
    refine aM (lenB Try.cfg (St.empty 0) 36 (inlL wcells 4 la)) (.int .i64 ((la.length : Nat) : Int)) (len_inl tokC (by kernel_rfl)) ?_
    refine aN ?_
    refine sk_block ?_
    refine sk_live 26 ((fun a : Nat => [(0, inlL wcells 4 la), (1, inlL wcells 4 lb), (12, .int .i64 ((la.length : Nat) : Int)), (13, .int .i64 ((a : Nat) : Int))]) 0) (by kernel_rfl) ⟨by kernel_rfl, by kernel_rfl, by kernel_rfl, by kernel_rfl, trivial⟩ fun m3 => ?_
    refine sk_st ((fun a : Nat => (St.empty 0)) 0) (by kernel_rfl) ?_
    refine (sk_while (k := 0) (N := 400) (live := (fun a : Nat => [(0, inlL wcells 4 la), (1, inlL wcells 4 lb), (12, .int .i64 ((la.length : Nat) : Int)), (13, .int .i64 ((a : Nat) : Int))])) (M := (fun a : Nat => (St.empty 0))) (fun a : Nat => (a ≤ la.length) ∧ (la.take a = lb.take a)) (fun a : Nat => la.length - a) (fun (a : Nat) (o : Out) (lv : List (Nat × Value)) (M : St) => (o = .exit 0 ∧ (¬ a < la.length) ∧ lv = [(0, inlL wcells 4 la), (1, inlL wcells 4 lb), (12, .int .i64 ((la.length : Nat) : Int)), (13, .int .i64 ((a : Nat) : Int))] ∧ M = (St.empty 0)) ∨ (o = .ret ∧ (¬ la = lb) ∧ lv = [(4, .bool false)] ∧ M = (St.empty 0))) (Nat.zero_le _) (fun a ha => ?_) (fun a ha => ?_) (fun a m ha => ?_) (fun a m ha => ?_) 0 m3 ?_).up ?_
    · exact ⟨by kernel_rfl, (wf_empty 0), (fun i hi => absurd hi (Nat.not_lt_zero i))⟩
    · exact ⟨sub_clo rfl, sub_clo rfl, sub_clo rfl, sub_clo rfl, trivial⟩
    · exact ⟨by kernel_rfl, by kernel_rfl, by kernel_rfl, by kernel_rfl, trivial⟩
    · obtain ⟨i, ea⟩ : ∃ z, z = a := ⟨_, rfl⟩
      subst ea
      obtain ⟨i0, i1⟩ := ha
      refine sk_seq ?_
      refine sk_regionL Try.cfgOk hS ?_
      refine aT (fun h4 => ?_) (fun h4 => ?_)
      · have c5e : (decide ((((i : Nat) : Int) : Int) < ((la.length : Nat) : Int))) = true := Eq.trans (by kernel_rfl) h4
        clear h4
        have c5 : (((i : Nat) : Int) : Int) < ((la.length : Nat) : Int) := of_decide_eq_true c5e
        clear c5e
        refine al_nil ?_
        refine sk_seq ?_
        refine kT ?_
        refine sk_skip (sk_seq (sk_block (sk_seq ?_)))
        refine kK Try.cfgOk hS ?_
        refine sk_seq ?_
        refine sk_drawL Try.cfgOk hS ?_
        refine dK 2 ?_
        refine dM (indexAddrV Try.cfg 36 (inlL wcells 4 la) (.int .i64 ((i : Nat) : Int))) (elt (flatL wcells la) (i * 4)) (idx_inlL tokC (by kernel_rfl) (by first | omega | simp)) ?_
        have hx6l : i < la.length := by omega
        refine Exists.elim (get_ex hx6l) fun x6 hx6 => ?_
        clear hx6l
        refine dM (loadV Try.cfg (St.empty 0) 45 (elt (flatL wcells la) (i * 4))) (.agg #[.int .i64 x6.1, .int .i64 x6.2.1, .int .i64 x6.2.2.1, .bool x6.2.2.2]) (load_el tokC (by kernel_rfl) wcells_len hx6) ?_
        refine dK 2 ?_
        refine dM (indexAddrV Try.cfg 36 (inlL wcells 4 lb) (.int .i64 ((i : Nat) : Int))) (elt (flatL wcells lb) (i * 4)) (idx_inlL tokC (by kernel_rfl) (by first | omega | simp)) ?_
        have hx7l : i < lb.length := by omega
        refine Exists.elim (get_ex hx7l) fun x7 hx7 => ?_
        clear hx7l
        refine dM (loadV Try.cfg (St.empty 0) 45 (elt (flatL wcells lb) (i * 4))) (.agg #[.int .i64 x7.1, .int .i64 x7.2.1, .int .i64 x7.2.2.1, .bool x7.2.2.2]) (load_el tokC (by kernel_rfl) wcells_len hx7) ?_
        refine dT (fun h8 => ?_) (fun h8 => ?_)
        · have c9e : (!((x6.1 == x7.1) && ((x6.2.1 == x7.2.1) && ((x6.2.2.1 == x7.2.2.1) && ((x6.2.2.2 == x7.2.2.2) && true))))) = true := Eq.trans (by kernel_rfl) h8
          clear h8
          have c9 : ¬ (x6.1 = x7.1 ∧ x6.2.1 = x7.2.1 ∧ x6.2.2.1 = x7.2.2.1 ∧ x6.2.2.2 = x7.2.2.2) := fun q => Bool.noConfusion (((not_t c9e)).symm.trans (and_i (beq_iff_eq.2 q.1) (and_i (beq_iff_eq.2 q.2.1) (and_i (beq_iff_eq.2 q.2.2.1) (and_i (beq_iff_eq.2 q.2.2.2) (rfl))))))
          clear c9e
          refine ald_nil ?_
          refine kT ?_
          refine sk_seq ?_
          refine kK Try.cfgOk hS ?_
          refine sk_ret ?_
          refine .inr ⟨_, _, (fun h => by cases h), .inr ⟨rfl, ?_, rfl, rfl⟩, ⟨by kernel_rfl, ⟨by kernel_rfl, trivial⟩, ⟨sub_clo rfl, trivial⟩, Nat.le_of_ble_eq_true (by kernel_rfl), ⟨by kernel_rfl, (wf_empty 0), (fun i hi => absurd hi (Nat.not_lt_zero i))⟩, mem_all (by kernel_rfl)⟩⟩
          · refine ne_at (by assumption) (by assumption) (fun e => ?_); subst e; simp_all
        · have c9e : (!((x6.1 == x7.1) && ((x6.2.1 == x7.2.1) && ((x6.2.2.1 == x7.2.2.1) && ((x6.2.2.2 == x7.2.2.2) && true))))) = false := Eq.trans (by kernel_rfl) h8
          clear h8
          have c9 : x6.1 = x7.1 ∧ x6.2.1 = x7.2.1 ∧ x6.2.2.1 = x7.2.2.1 ∧ x6.2.2.2 = x7.2.2.2 := ⟨eq_of_beq (and_l (not_f c9e)), eq_of_beq (and_l (and_r (not_f c9e))), eq_of_beq (and_l (and_r (and_r (not_f c9e)))), eq_of_beq (and_l (and_r (and_r (and_r (not_f c9e)))))⟩
          clear c9e
          refine ald_nil ?_
          refine kF ?_
          refine sk_skip ?_
          refine sk_regionL Try.cfgOk hS ?_
          refine aE (v := .int .i64 (IntKind.wrap .i64 (((i : Nat) : Int) + 1))) (.int .i64 ((i + 1 : Nat) : Int)) (congrArg (Value.int .i64) (wrap_to (by omega) (by omega))) ?_
          refine aN ?_
          refine .inl ⟨i + 1, rfl, ⟨?_, ?_⟩, ?_, ⟨by kernel_rfl, ⟨by kernel_rfl, by kernel_rfl, by kernel_rfl, by kernel_rfl, trivial⟩, ⟨sub_clo rfl, sub_clo rfl, sub_clo rfl, sub_clo rfl, trivial⟩, Nat.le_of_ble_eq_true (by kernel_rfl), ⟨by kernel_rfl, (wf_empty 0), (fun i hi => absurd hi (Nat.not_lt_zero i))⟩, mem_all (by kernel_rfl)⟩⟩
          · (try dsimp only); omega
          · (try dsimp only); exact take_eq_succ (by assumption) (by assumption) (by assumption) (by simp only [Prod.ext_iff]; assumption)
          · omega
      · have c5e : (decide ((((i : Nat) : Int) : Int) < ((la.length : Nat) : Int))) = false := Eq.trans (by kernel_rfl) h4
        clear h4
        have c5 : ¬ (((i : Nat) : Int) : Int) < ((la.length : Nat) : Int) := of_decide_eq_false c5e
        clear c5e
        refine al_nil ?_
        refine sk_seq ?_
        refine kF ?_
        refine sk_exit ?_
        dsimp only
        refine .inr ⟨_, _, (fun h => by cases h), .inl ⟨rfl, ?_, rfl, rfl⟩, ⟨by kernel_rfl, ⟨by kernel_rfl, by kernel_rfl, by kernel_rfl, by kernel_rfl, trivial⟩, ⟨sub_clo rfl, sub_clo rfl, sub_clo rfl, sub_clo rfl, trivial⟩, Nat.le_of_ble_eq_true (by kernel_rfl), ⟨by kernel_rfl, (wf_empty 0), (fun i hi => absurd hi (Nat.not_lt_zero i))⟩, mem_all (by kernel_rfl)⟩⟩
        · omega
    · exact ⟨by ((try dsimp only); first | done | (omega)), by ((try dsimp only); first | done | (rfl))⟩
    rintro o e1 s1 ⟨a, lv1, M1, m3, ha, (⟨rfl, hx, rfl, rfl⟩ | ⟨rfl, hx, rfl, rfl⟩), rfl, rfl⟩
    ·
      obtain ⟨i, ea⟩ : ∃ z, z = a := ⟨_, rfl⟩
      subst ea
      obtain ⟨i0, i1⟩ := ha
      dsimp only
      try rw [if_pos rfl]
      refine sk_seq ?_
      refine kK Try.cfgOk hS ?_
      refine sk_ret ?_
      exact ⟨[.bool true], by kernel_rfl, fs_to (fs_clo rfl) (congrArg Value.bool (by first | exact (decide_eq_false (by assumption)).symm | exact (decide_eq_true (take_all (by assumption) (by assumption) (by omega))).symm | exact (decide_eq_false (fun e => by subst e; omega)).symm)), Nat.le_of_ble_eq_true (by kernel_rfl)⟩
    ·
      obtain ⟨i, ea⟩ : ∃ z, z = a := ⟨_, rfl⟩
      subst ea
      obtain ⟨i0, i1⟩ := ha
      dsimp only
      exact ⟨[.bool false], by kernel_rfl, fs_to (fs_clo rfl) (congrArg Value.bool (by first | exact (decide_eq_false (by assumption)).symm | exact (decide_eq_true (take_all (by assumption) (by assumption) (by omega))).symm | exact (decide_eq_false (fun e => by subst e; omega)).symm)), Nat.le_of_ble_eq_true (by kernel_rfl)⟩
noncomputable def con_nwrites : Con Try.prog 0 := Con.pure (α := (List Wr) × (List Wr)) 8 (fun z9 => [inlL wcells 4 z9.1, inlL wcells 4 z9.2]) (fun z9 => .bool (decide (z9.1 = z9.2))) (fun z9 => (z9.1.length ≤ 1000000) ∧ (z9.2.length ≤ 1000000)) (by
  rintro ⟨a0, a1⟩ ⟨b0, b1⟩ h
  simp only [List.cons.injEq, and_true, Int.natCast_inj, UInt8.toNat_inj, Value.int.injEq, Value.bool.injEq, Value.string.injEq, Value.agg.injEq, Array.mk.injEq, true_and, wcells_iff] at h
  first | exact h | (simp only [Prod.ext_iff, h, and_self, and_true, true_and]; done) | simp_all [Prod.ext_iff]) (fun _ => rfl) (fun _ => rfl) 400 (by
  rintro ⟨a0, a1⟩ ⟨p0, p1⟩
  exact nwrites_sc a0 a1 p0 p1)
theorem con_nwrites_at (la : List Wr) (lb : List Wr) (h0 : la.length ≤ 1000000) (h1 : lb.length ≤ 1000000) (s : St) : con_nwrites.rel [inlL wcells 4 la, inlL wcells 4 lb] s (.bool (decide (la = lb))) s := con_pure (la, lb) ⟨h0, h1⟩ s
def bigR (l : List Rec8) (i : Nat) : Prop := ∃ x, l[i]? = some x ∧ (i > 14 ∨ x.2.2.2.1.length > 33 ∨ x.2.2.2.2.1.length > 12 ∨ x.2.2.2.2.2.1.length > 12 ∨ x.2.2.2.2.2.2.1.length > 12 ∨ x.2.2.2.2.2.2.2.length > 14)
theorem bigR_iff {l : List Rec8} {i : Nat} {x : Rec8} (hx : l[i]? = some x) : bigR l i ↔ (i > 14 ∨ x.2.2.2.1.length > 33 ∨ x.2.2.2.2.1.length > 12 ∨ x.2.2.2.2.2.1.length > 12 ∨ x.2.2.2.2.2.2.1.length > 12 ∨ x.2.2.2.2.2.2.2.length > 14) :=
  ⟨fun ⟨z, h1, h2⟩ => by rw [hx] at h1; obtain rfl := Option.some.inj h1; exact h2, fun h => ⟨x, hx, h⟩⟩
abbrev largeR (l : List Rec8) : Prop := ∃ i, i < l.length ∧ bigR l i
theorem smallR_at {l : List Rec8} (h : ¬ largeR l) {i : Nat} {x : Rec8} (hx : l[i]? = some x) : i ≤ 14 ∧ x.2.2.2.1.length ≤ 33 ∧ x.2.2.2.2.1.length ≤ 12 ∧ x.2.2.2.2.2.1.length ≤ 12 ∧ x.2.2.2.2.2.2.1.length ≤ 12 ∧ x.2.2.2.2.2.2.2.length ≤ 14 := by
  have h0 : ¬ bigR l i := fun q => h ⟨i, (List.getElem?_eq_some_iff.1 hx).1, q⟩
  rw [bigR_iff hx] at h0
  omega
theorem keptW_len (r : Rec8) (b : List Foot) : (keptW r b).length ≤ (rW r).length := by
  unfold keptW
  split
  · exact List.length_filter_le _ _
  · exact Nat.zero_le _
theorem smallR_all {l : List Rec8} (h : ¬ largeR l) : l.length ≤ 15 ∧ (∀ r ∈ l, smR r ∧ (rW r).length ≤ 14) ∧ ∀ y ∈ keptL l, y.length ≤ 14 := by
  have hl : l.length ≤ 15 := by
    refine Classical.byContradiction fun q => ?_
    obtain ⟨x, hx⟩ := get_ex (l := l) (i := 15) (by omega)
    have := (smallR_at h hx).1
    omega
  have hb : ∀ r ∈ l, smR r ∧ (rW r).length ≤ 14 := fun x hx => by
    obtain ⟨i, hi⟩ := List.getElem?_of_mem hx
    obtain ⟨_, h1, h2, h3, h4, h5⟩ := smallR_at h hi
    exact ⟨⟨by omega, by omega, by omega, by omega, by omega⟩, h5⟩
  refine ⟨hl, hb, fun y hy => ?_⟩
  obtain ⟨i, hi⟩ := List.getElem?_of_mem hy
  rw [kept_get] at hi
  cases hx : l[i]? with
  | none => rw [hx] at hi; cases hi
  | some r =>
    rw [hx] at hi
    obtain rfl := Option.some.inj hi
    exact Nat.le_trans (keptW_len _ _) (hb r (List.mem_of_getElem? hx)).2
theorem last_same {l : List Rec8} {x : Rec8} {y : List Wr} (hx : l[l.length - 1]? = some x) (hv : x.2.1 = true) (hy : (keptL l)[l.length - 1]? = some y) : y = x.2.2.2.2.2.2.2 := by
  rw [kept_last hx hv] at hy
  exact (Option.some.inj hy).symm
noncomputable def kwAt (l : List Rec8) (i : Nat) : List Wr := (keptL l)[i]?.getD []
theorem kwAt_eq {l : List Rec8} {i : Nat} {y : List Wr} (h : (keptL l)[i]? = some y) : kwAt l i = y := by unfold kwAt; rw [h]; rfl
def rwAt (l : List Rec8) (i : Nat) : List Wr := (l[i]?.map rW).getD []
theorem rwAt_eq {l : List Rec8} {i : Nat} {x : Rec8} (h : l[i]? = some x) : rwAt l i = x.2.2.2.2.2.2.2 := by unfold rwAt; rw [h]; rfl
/-- the keys that were counted so far -/
noncomputable def soFar (l : List Rec8) (i k : Nat) : List Key := ((keptL l).take i).flatten.map wk ++ ((kwAt l i).take k).map wk
theorem soFar_step {l : List Rec8} {i k : Nat} {y : List Wr} {w : Wr} (hy : (keptL l)[i]? = some y) (hw : y[k]? = some w) : bump (countC (soFar l i k)) (w.1, w.2.1) = countC (soFar l i (k + 1)) := by
  unfold soFar
  rw [kwAt_eq hy, map_snoc hw, ← List.append_assoc, countC_snoc]
theorem soFar_end {l : List Rec8} {i k : Nat} {y : List Wr} (hy : (keptL l)[i]? = some y) (hk : ¬ k < y.length) : soFar l i k = soFar l (i + 1) 0 := by
  unfold soFar
  rw [kwAt_eq hy, List.take_of_length_le (by omega : y.length ≤ k), take_one hy, List.flatten_append, List.map_append]
  simp
theorem soFar_all {l : List Rec8} {i : Nat} (hi : ¬ i < l.length) : soFar l i 0 = keptKeys l := by
  unfold soFar keptKeys
  rw [List.take_of_length_le (by rw [kept_len]; omega)]
  simp
theorem soFar_len {l : List Rec8} (hs : ∀ y ∈ keptL l, y.length ≤ 14) (hl : l.length ≤ 15) (i k : Nat) : (soFar l i k).length ≤ 300 := by
  unfold soFar
  rw [List.length_append, List.length_map, List.length_map, List.length_take]
  have h1 : ∀ L : List (List Wr), (∀ y ∈ L, y.length ≤ 14) → L.flatten.length ≤ 14 * L.length := by
    intro L
    induction L with
    | nil => intro _; simp
    | cons y L ih =>
      intro h
      have := ih fun z hz => h z (.tail _ hz)
      have := h y (.head _)
      rw [List.flatten_cons, List.length_append, List.length_cons]
      omega
  have h2 := h1 ((keptL l).take i) fun y hy => hs y (List.mem_of_mem_take hy)
  have h3 : ((keptL l).take i).length ≤ 15 := by rw [List.length_take, kept_len]; omega
  have h4 : (kwAt l i).length ≤ 14 := by
    unfold kwAt
    cases hy : (keptL l)[i]? with
    | none => exact Nat.zero_le _
    | some y => exact hs y (List.mem_of_getElem? hy)
  omega
theorem cnt_le {α : Type} (i : BEq α) (k : α) (X : List α) : @List.count α i k X ≤ X.length := List.count_le_length
theorem cnt_eq {α : Type} (i j : BEq α) (h : ∀ x y, i.beq x y = j.beq x y) (k : α) (X : List α) : @List.count α i k X = @List.count α j k X := by
  have e : i = j := by
    cases i with | mk f =>
    cases j with | mk g =>
    have q : f = g := funext fun x => funext fun y => h x y
    rw [q]
  rw [e]
theorem count_le_len (X : List Key) (k : Key) : getC (countC X) k ≤ X.length := by
  rw [countC_get]
  exact cnt_le _ _ _
theorem cnt_same (k : Key) (X : List Key) : @List.count Key instBEqOfDecidableEq k X = @List.count Key instBEqProd k X := by
  refine cnt_eq _ _ (fun x y => ?_) _ _
  have h1 : @BEq.beq Key instBEqOfDecidableEq x y = true ↔ x = y := decide_eq_true_iff
  have h2 : @BEq.beq Key instBEqProd x y = true ↔ x = y := beq_iff_eq
  exact Bool.eq_iff_iff.2 (h1.trans h2.symm)
theorem fin_one {l : List Rec8} {L : List (Key × Nat)} (e1 : L = countC (keptKeys l)) (e2 : ∀ r ∈ l, valR r) {i k : Nat} {x : Rec8} {w : Wr} (hx : l[i]? = some x) (hw : x.2.2.2.2.2.2.2[k]? = some w) : getC L (w.1, w.2.1) = 1 := by
  rw [e1, countC_get]
  refine Eq.trans (cnt_same _ _) ?_
  rw [kept_count _ e2, if_pos]
  exact ⟨x, List.mem_of_getElem? hx, List.mem_map.2 ⟨w, List.mem_of_getElem? hw, rfl⟩⟩
theorem ris_nodup {wr : List Wr} (h : risW wr) : (wr.map wk).Nodup := by
  have key : ∀ d i, i + d < wr.length → ∀ x y, wr[i]? = some x → wr[i + d]? = some y → 0 < d → wk x ≠ wk y ∧ (x.1 < y.1 ∨ x.1 = y.1 ∧ x.2.1 < y.2.1) := by
    intro d
    induction d with
    | zero => intro i _ x y _ _ hd; exact absurd hd (Nat.lt_irrefl 0)
    | succ d ih =>
      intro i hi x y hx hy _
      obtain ⟨z, hz⟩ := get_ex (l := wr) (i := i + d) (by omega)
      have hstep : z.1 < y.1 ∨ z.1 = y.1 ∧ z.2.1 < y.2.1 := by
        have hb : ¬ badW wr (i + (d + 1)) := fun q => h ⟨_, hi, q⟩
        rw [badW_iff2 hy (by rw [show i + (d + 1) - 1 = i + d from by omega]; exact hz)] at hb
        refine Classical.byContradiction fun q => hb (.inr (.inr ⟨by omega, q⟩))
      have hlt : x.1 < y.1 ∨ x.1 = y.1 ∧ x.2.1 < y.2.1 := by
        by_cases hd : d = 0
        · subst hd
          rw [Nat.add_zero] at hz
          rw [hx] at hz
          obtain rfl := Option.some.inj hz
          exact hstep
        · have := (ih i (by omega) x z hx hz (by omega)).2
          omega
      refine ⟨fun e => ?_, hlt⟩
      have e1 := congrArg Prod.fst e
      have e2 := congrArg Prod.snd e
      simp only [wk] at e1 e2
      omega
  rw [List.Nodup, List.pairwise_map, List.pairwise_iff_getElem]
  intro i j hi hj hij
  have := key (j - i) i (by omega) wr[i] wr[j] (List.getElem?_eq_getElem hi) (by rw [show i + (j - i) = j from by omega]; exact List.getElem?_eq_getElem hj) (by omega)
  exact this.1
theorem kcells_hk (x y : Key) : keyEq (.agg ⟨kcells x⟩) (.agg ⟨kcells y⟩) = some (decide (x = y)) := by
  show some ((x.1 == y.1) && ((x.2 == y.2) && true)) = _
  rw [Bool.and_true]
  congr 1
  rw [Bool.eq_iff_iff]
  simp [Prod.ext_iff]
theorem large20_fn : Try.cfg.fn 5 = some Try.f5 := by kernel_rfl
set_option maxHeartbeats 4000000 in
set_option maxRecDepth 100000 in
theorem large20_sc (l : List Rec8) (h0 : l.length ≤ 9223372036854775807) : SC Try.prog 0 5 [inlL rcells 8 l] (St.empty 0) fun v s' => v = .bool (tf (largeR l)) ∧ s'.n ≤ 400 := by
  have hS := sound_run Try.cfgOk 300
  refine sc_ice0 (N := 400) (v2 := .bool (tf (largeR l))) (Q := fun v s' => FS 0 s' v (.bool (tf (largeR l))) ∧ s'.n ≤ 400) ?_ (fun _ _ h => h)
  refine sc_body Try.cfgOk large20_fn rfl ?_
  refine sk_seq ?_
  refine kK Try.cfgOk hS ?_
  refine sk_seq (sk_seq ?_)
  refine sk_regionL Try.cfgOk hS ?_
  refine aK 1 ?_
  refine aM (lenB Try.cfg (St.empty 0) 22 (inlL rcells 8 l)) (.int .i64 ((l.length : Nat) : Int)) (len_inl tokC (by kernel_rfl)) ?_
  refine aN ?_
  refine sk_block ?_
  refine sk_live 49 ((fun a : Nat => [(5, inlL rcells 8 l), (6, .int .i64 ((l.length : Nat) : Int)), (7, .int .i64 ((a : Nat) : Int))]) 0) (by kernel_rfl) ⟨by kernel_rfl, by kernel_rfl, by kernel_rfl, trivial⟩ fun m1 => ?_
  refine sk_st ((fun a : Nat => (St.empty 0)) 0) (by kernel_rfl) ?_
  refine (sk_while (k := 0) (N := 400) (live := (fun a : Nat => [(5, inlL rcells 8 l), (6, .int .i64 ((l.length : Nat) : Int)), (7, .int .i64 ((a : Nat) : Int))])) (M := (fun a : Nat => (St.empty 0))) (fun a : Nat => (a ≤ l.length) ∧ (NoI (fun a : Nat => bigR l a) a)) (fun a : Nat => l.length - a) (fun (a : Nat) (o : Out) (lv : List (Nat × Value)) (M : St) => (o = .exit 0 ∧ (¬ a < l.length) ∧ lv = [(5, inlL rcells 8 l), (6, .int .i64 ((l.length : Nat) : Int)), (7, .int .i64 ((a : Nat) : Int))] ∧ M = (St.empty 0)) ∨ (o = .ret ∧ (a < l.length ∧ (bigR l a)) ∧ lv = [(2, .bool true)] ∧ M = (St.empty 0))) (Nat.zero_le _) (fun a ha => ?_) (fun a ha => ?_) (fun a m ha => ?_) (fun a m ha => ?_) 0 m1 ?_).up ?_
  · exact ⟨by kernel_rfl, (wf_empty 0), (fun i hi => absurd hi (Nat.not_lt_zero i))⟩
  · exact ⟨sub_clo rfl, sub_clo rfl, sub_clo rfl, trivial⟩
  · exact ⟨by kernel_rfl, by kernel_rfl, by kernel_rfl, trivial⟩
  · obtain ⟨i, ea⟩ : ∃ z, z = a := ⟨_, rfl⟩
    subst ea
    obtain ⟨i0, i1⟩ := ha
    refine sk_seq ?_
    refine sk_regionL Try.cfgOk hS ?_
    refine aT (fun h2 => ?_) (fun h2 => ?_)
    · have c3e : (decide ((((i : Nat) : Int) : Int) < ((l.length : Nat) : Int))) = true := Eq.trans (by kernel_rfl) h2
      clear h2
      have c3 : (((i : Nat) : Int) : Int) < ((l.length : Nat) : Int) := of_decide_eq_true c3e
      clear c3e
      refine al_nil ?_
      refine sk_seq ?_
      refine kT ?_
      refine sk_skip (sk_seq (sk_block (sk_seq ?_)))
      refine sk_regionL Try.cfgOk hS ?_
      refine aK 1 ?_
      refine aM (indexAddrV Try.cfg 22 (inlL rcells 8 l) (.int .i64 ((i : Nat) : Int))) (elt (flatL rcells l) (i * 8)) (idx_inlL tokC (by kernel_rfl) (by first | omega | simp)) ?_
      have hx4l : i < l.length := by omega
      refine Exists.elim (get_ex hx4l) fun x4 hx4 => ?_
      clear hx4l
      refine aM (loadV Try.cfg (St.empty 0) 48 (elt (flatL rcells l) (i * 8))) (.agg #[.int .i64 x4.1, .bool x4.2.1, .int .i64 x4.2.2.1, inlL ccells 6 x4.2.2.2.1, inlL kcells 2 x4.2.2.2.2.1, inlL scells 3 x4.2.2.2.2.2.1, inlL kcells 2 x4.2.2.2.2.2.2.1, inlL wcells 4 x4.2.2.2.2.2.2.2]) (load_el tokC (by kernel_rfl) rcells_len hx4) ?_
      refine aN ?_
      refine sk_seq ?_
      refine sk_regionL Try.cfgOk hS ?_
      refine aK 1 ?_
      refine aT (fun h5 => ?_) (fun h5 => ?_)
      · have c6e : (decide ((((i : Nat) : Int) : Int) > 14)) = true := Eq.trans (by kernel_rfl) h5
        clear h5
        have c6 : (((i : Nat) : Int) : Int) > 14 := of_decide_eq_true c6e
        clear c6e
        refine aN ?_
        refine kT ?_
        refine sk_seq ?_
        refine kK Try.cfgOk hS ?_
        refine sk_ret ?_
        refine .inr ⟨_, _, (fun h => by cases h), .inr ⟨rfl, ?_, rfl, rfl⟩, ⟨by kernel_rfl, ⟨by kernel_rfl, trivial⟩, ⟨sub_clo rfl, trivial⟩, Nat.le_of_ble_eq_true (by kernel_rfl), ⟨by kernel_rfl, (wf_empty 0), (fun i hi => absurd hi (Nat.not_lt_zero i))⟩, mem_all (by kernel_rfl)⟩⟩
        · first | (refine ⟨by omega, ?_⟩; rw [bigR_iff (by assumption)]; omega) | (rw [bigR_iff (by assumption)]; omega)
      · have c6e : (decide ((((i : Nat) : Int) : Int) > 14)) = false := Eq.trans (by kernel_rfl) h5
        clear h5
        have c6 : ¬ (((i : Nat) : Int) : Int) > 14 := of_decide_eq_false c6e
        clear c6e
        refine aK 4 ?_
        refine aM (lenB Try.cfg (St.empty 0) 29 (inlL ccells 6 x4.2.2.2.1)) (.int .i64 ((x4.2.2.2.1.length : Nat) : Int)) (len_inl tokC (by kernel_rfl)) ?_
        refine aT (fun h7 => ?_) (fun h7 => ?_)
        · have c8e : (decide ((((x4.2.2.2.1.length : Nat) : Int) : Int) > 33)) = true := Eq.trans (by kernel_rfl) h7
          clear h7
          have c8 : (((x4.2.2.2.1.length : Nat) : Int) : Int) > 33 := of_decide_eq_true c8e
          clear c8e
          refine aN ?_
          refine kT ?_
          refine sk_seq ?_
          refine kK Try.cfgOk hS ?_
          refine sk_ret ?_
          refine .inr ⟨_, _, (fun h => by cases h), .inr ⟨rfl, ?_, rfl, rfl⟩, ⟨by kernel_rfl, ⟨by kernel_rfl, trivial⟩, ⟨sub_clo rfl, trivial⟩, Nat.le_of_ble_eq_true (by kernel_rfl), ⟨by kernel_rfl, (wf_empty 0), (fun i hi => absurd hi (Nat.not_lt_zero i))⟩, mem_all (by kernel_rfl)⟩⟩
          · first | (refine ⟨by omega, ?_⟩; rw [bigR_iff (by assumption)]; omega) | (rw [bigR_iff (by assumption)]; omega)
        · have c8e : (decide ((((x4.2.2.2.1.length : Nat) : Int) : Int) > 33)) = false := Eq.trans (by kernel_rfl) h7
          clear h7
          have c8 : ¬ (((x4.2.2.2.1.length : Nat) : Int) : Int) > 33 := of_decide_eq_false c8e
          clear c8e
          refine aK 5 ?_
          refine aM (lenB Try.cfg (St.empty 0) 32 (inlL kcells 2 x4.2.2.2.2.1)) (.int .i64 ((x4.2.2.2.2.1.length : Nat) : Int)) (len_inl tokC (by kernel_rfl)) ?_
          refine aT (fun h9 => ?_) (fun h9 => ?_)
          · have c10e : (decide ((((x4.2.2.2.2.1.length : Nat) : Int) : Int) > 12)) = true := Eq.trans (by kernel_rfl) h9
            clear h9
            have c10 : (((x4.2.2.2.2.1.length : Nat) : Int) : Int) > 12 := of_decide_eq_true c10e
            clear c10e
            refine aN ?_
            refine kT ?_
            refine sk_seq ?_
            refine kK Try.cfgOk hS ?_
            refine sk_ret ?_
            refine .inr ⟨_, _, (fun h => by cases h), .inr ⟨rfl, ?_, rfl, rfl⟩, ⟨by kernel_rfl, ⟨by kernel_rfl, trivial⟩, ⟨sub_clo rfl, trivial⟩, Nat.le_of_ble_eq_true (by kernel_rfl), ⟨by kernel_rfl, (wf_empty 0), (fun i hi => absurd hi (Nat.not_lt_zero i))⟩, mem_all (by kernel_rfl)⟩⟩
            · first | (refine ⟨by omega, ?_⟩; rw [bigR_iff (by assumption)]; omega) | (rw [bigR_iff (by assumption)]; omega)
          · have c10e : (decide ((((x4.2.2.2.2.1.length : Nat) : Int) : Int) > 12)) = false := Eq.trans (by kernel_rfl) h9
            clear h9
            have c10 : ¬ (((x4.2.2.2.2.1.length : Nat) : Int) : Int) > 12 := of_decide_eq_false c10e
            clear c10e
            refine aK 5 ?_
            refine aM (lenB Try.cfg (St.empty 0) 33 (inlL scells 3 x4.2.2.2.2.2.1)) (.int .i64 ((x4.2.2.2.2.2.1.length : Nat) : Int)) (len_inl tokC (by kernel_rfl)) ?_
            refine aT (fun h11 => ?_) (fun h11 => ?_)
            · have c12e : (decide ((((x4.2.2.2.2.2.1.length : Nat) : Int) : Int) > 12)) = true := Eq.trans (by kernel_rfl) h11
              clear h11
              have c12 : (((x4.2.2.2.2.2.1.length : Nat) : Int) : Int) > 12 := of_decide_eq_true c12e
              clear c12e
              refine aN ?_
              refine kT ?_
              refine sk_seq ?_
              refine kK Try.cfgOk hS ?_
              refine sk_ret ?_
              refine .inr ⟨_, _, (fun h => by cases h), .inr ⟨rfl, ?_, rfl, rfl⟩, ⟨by kernel_rfl, ⟨by kernel_rfl, trivial⟩, ⟨sub_clo rfl, trivial⟩, Nat.le_of_ble_eq_true (by kernel_rfl), ⟨by kernel_rfl, (wf_empty 0), (fun i hi => absurd hi (Nat.not_lt_zero i))⟩, mem_all (by kernel_rfl)⟩⟩
              · first | (refine ⟨by omega, ?_⟩; rw [bigR_iff (by assumption)]; omega) | (rw [bigR_iff (by assumption)]; omega)
            · have c12e : (decide ((((x4.2.2.2.2.2.1.length : Nat) : Int) : Int) > 12)) = false := Eq.trans (by kernel_rfl) h11
              clear h11
              have c12 : ¬ (((x4.2.2.2.2.2.1.length : Nat) : Int) : Int) > 12 := of_decide_eq_false c12e
              clear c12e
              refine aK 5 ?_
              refine aM (lenB Try.cfg (St.empty 0) 32 (inlL kcells 2 x4.2.2.2.2.2.2.1)) (.int .i64 ((x4.2.2.2.2.2.2.1.length : Nat) : Int)) (len_inl tokC (by kernel_rfl)) ?_
              refine aT (fun h13 => ?_) (fun h13 => ?_)
              · have c14e : (decide ((((x4.2.2.2.2.2.2.1.length : Nat) : Int) : Int) > 12)) = true := Eq.trans (by kernel_rfl) h13
                clear h13
                have c14 : (((x4.2.2.2.2.2.2.1.length : Nat) : Int) : Int) > 12 := of_decide_eq_true c14e
                clear c14e
                refine aN ?_
                refine kT ?_
                refine sk_seq ?_
                refine kK Try.cfgOk hS ?_
                refine sk_ret ?_
                refine .inr ⟨_, _, (fun h => by cases h), .inr ⟨rfl, ?_, rfl, rfl⟩, ⟨by kernel_rfl, ⟨by kernel_rfl, trivial⟩, ⟨sub_clo rfl, trivial⟩, Nat.le_of_ble_eq_true (by kernel_rfl), ⟨by kernel_rfl, (wf_empty 0), (fun i hi => absurd hi (Nat.not_lt_zero i))⟩, mem_all (by kernel_rfl)⟩⟩
                · first | (refine ⟨by omega, ?_⟩; rw [bigR_iff (by assumption)]; omega) | (rw [bigR_iff (by assumption)]; omega)
              · have c14e : (decide ((((x4.2.2.2.2.2.2.1.length : Nat) : Int) : Int) > 12)) = false := Eq.trans (by kernel_rfl) h13
                clear h13
                have c14 : ¬ (((x4.2.2.2.2.2.2.1.length : Nat) : Int) : Int) > 12 := of_decide_eq_false c14e
                clear c14e
                refine aK 4 ?_
                refine aM (lenB Try.cfg (St.empty 0) 36 (inlL wcells 4 x4.2.2.2.2.2.2.2)) (.int .i64 ((x4.2.2.2.2.2.2.2.length : Nat) : Int)) (len_inl tokC (by kernel_rfl)) ?_
                refine aT (fun h15 => ?_) (fun h15 => ?_)
                · have c16e : (decide ((((x4.2.2.2.2.2.2.2.length : Nat) : Int) : Int) > 14)) = true := Eq.trans (by kernel_rfl) h15
                  clear h15
                  have c16 : (((x4.2.2.2.2.2.2.2.length : Nat) : Int) : Int) > 14 := of_decide_eq_true c16e
                  clear c16e
                  refine aN ?_
                  refine kT ?_
                  refine sk_seq ?_
                  refine kK Try.cfgOk hS ?_
                  refine sk_ret ?_
                  refine .inr ⟨_, _, (fun h => by cases h), .inr ⟨rfl, ?_, rfl, rfl⟩, ⟨by kernel_rfl, ⟨by kernel_rfl, trivial⟩, ⟨sub_clo rfl, trivial⟩, Nat.le_of_ble_eq_true (by kernel_rfl), ⟨by kernel_rfl, (wf_empty 0), (fun i hi => absurd hi (Nat.not_lt_zero i))⟩, mem_all (by kernel_rfl)⟩⟩
                  · first | (refine ⟨by omega, ?_⟩; rw [bigR_iff (by assumption)]; omega) | (rw [bigR_iff (by assumption)]; omega)
                · have c16e : (decide ((((x4.2.2.2.2.2.2.2.length : Nat) : Int) : Int) > 14)) = false := Eq.trans (by kernel_rfl) h15
                  clear h15
                  have c16 : ¬ (((x4.2.2.2.2.2.2.2.length : Nat) : Int) : Int) > 14 := of_decide_eq_false c16e
                  clear c16e
                  refine aN ?_
                  refine kF ?_
                  refine sk_skip ?_
                  refine sk_regionL Try.cfgOk hS ?_
                  refine aE (v := .int .i64 (IntKind.wrap .i64 (((i : Nat) : Int) + 1))) (.int .i64 ((i + 1 : Nat) : Int)) (congrArg (Value.int .i64) (wrap_to (by omega) (by omega))) ?_
                  refine aN ?_
                  refine .inl ⟨i + 1, rfl, ⟨?_, ?_⟩, ?_, ⟨by kernel_rfl, ⟨by kernel_rfl, by kernel_rfl, by kernel_rfl, trivial⟩, ⟨sub_clo rfl, sub_clo rfl, sub_clo rfl, trivial⟩, Nat.le_of_ble_eq_true (by kernel_rfl), ⟨by kernel_rfl, (wf_empty 0), (fun i hi => absurd hi (Nat.not_lt_zero i))⟩, mem_all (by kernel_rfl)⟩⟩
                  · (try dsimp only); omega
                  · (try dsimp only); exact NoI.succ (p := (fun i : Nat => bigR l i)) (by assumption) (by first | (refine ⟨by omega, ?_⟩; rw [bigR_iff (by assumption)]; omega) | (rw [bigR_iff (by assumption)]; omega))
                  · omega
    · have c3e : (decide ((((i : Nat) : Int) : Int) < ((l.length : Nat) : Int))) = false := Eq.trans (by kernel_rfl) h2
      clear h2
      have c3 : ¬ (((i : Nat) : Int) : Int) < ((l.length : Nat) : Int) := of_decide_eq_false c3e
      clear c3e
      refine al_nil ?_
      refine sk_seq ?_
      refine kF ?_
      refine sk_exit ?_
      dsimp only
      refine .inr ⟨_, _, (fun h => by cases h), .inl ⟨rfl, ?_, rfl, rfl⟩, ⟨by kernel_rfl, ⟨by kernel_rfl, by kernel_rfl, by kernel_rfl, trivial⟩, ⟨sub_clo rfl, sub_clo rfl, sub_clo rfl, trivial⟩, Nat.le_of_ble_eq_true (by kernel_rfl), ⟨by kernel_rfl, (wf_empty 0), (fun i hi => absurd hi (Nat.not_lt_zero i))⟩, mem_all (by kernel_rfl)⟩⟩
      · omega
  · exact ⟨by ((try dsimp only); first | done | (omega)), by ((try dsimp only); first | done | (exact NoI.zero))⟩
  rintro o e1 s1 ⟨a, lv1, M1, m1, ha, (⟨rfl, hx, rfl, rfl⟩ | ⟨rfl, hx, rfl, rfl⟩), rfl, rfl⟩
  ·
    obtain ⟨i, ea⟩ : ∃ z, z = a := ⟨_, rfl⟩
    subst ea
    obtain ⟨i0, i1⟩ := ha
    dsimp only
    try rw [if_pos rfl]
    refine sk_seq ?_
    refine kK Try.cfgOk hS ?_
    refine sk_ret ?_
    exact ⟨[.bool false], by kernel_rfl, fs_to (fs_clo rfl) (congrArg Value.bool (by first | (obtain ⟨q1, q2⟩ := hx; exact Eq.symm (tf_true ⟨_, q1, q2⟩)) | exact Eq.symm (tf_false (fun h => NoI.none (by assumption) hx h)))), Nat.le_of_ble_eq_true (by kernel_rfl)⟩
  ·
    obtain ⟨i, ea⟩ : ∃ z, z = a := ⟨_, rfl⟩
    subst ea
    obtain ⟨i0, i1⟩ := ha
    dsimp only
    exact ⟨[.bool true], by kernel_rfl, fs_to (fs_clo rfl) (congrArg Value.bool (by first | (obtain ⟨q1, q2⟩ := hx; exact Eq.symm (tf_true ⟨_, q1, q2⟩)) | exact Eq.symm (tf_false (fun h => NoI.none (by assumption) hx h)))), Nat.le_of_ble_eq_true (by kernel_rfl)⟩
noncomputable def con_large20 : Con Try.prog 0 := Con.pure (α := (List Rec8)) 5 (fun z9 => [inlL rcells 8 z9]) (fun z9 => .bool (tf (largeR z9))) (fun z9 => (z9.length ≤ 9223372036854775807)) (by
  intro x y h
  simp only [List.cons.injEq, and_true, Int.natCast_inj, UInt8.toNat_inj, Value.int.injEq, Value.bool.injEq, Value.string.injEq, Value.agg.injEq, Array.mk.injEq, true_and, rcells_iff] at h
  first | exact h | (simp only [Prod.ext_iff, h, and_self, and_true, true_and]; done) | simp_all [Prod.ext_iff]) (fun _ => rfl) (fun _ => rfl) 400 (by
  rintro x p0
  exact large20_sc x p0)
theorem con_large20_at (l : List Rec8) (h0 : l.length ≤ 9223372036854775807) (s : St) : con_large20.rel [inlL rcells 8 l] s (.bool (tf (largeR l))) s := con_pure l h0 s
theorem program20_fn : Try.cfg.fn 6 = some Try.f6 := by kernel_rfl
set_option maxHeartbeats 4000000 in
set_option maxRecDepth 100000 in
theorem program20_sc (l : List Rec8) (h0 : l.length ≤ 1000000) (h1 : ∀ r ∈ l, smR r) : SC Try.prog 0 6 [inlL rcells 8 l] (St.empty 0) fun v s' => v = inlL rcells 8 l ∧ s'.n ≤ 400 := by
  have hS := sound_run Try.cfgOk 300
  refine sc_ice0 (N := 400) (v2 := inlL rcells 8 l) (Q := fun v s' => FS 0 s' v (inlL rcells 8 l) ∧ s'.n ≤ 400) ?_ (fun _ _ h => h)
  refine sc_body Try.cfgOk program20_fn rfl ?_
  refine sk_seq ?_
  refine kK Try.cfgOk hS ?_
  refine sk_seq ?_
  refine kK Try.cfgOk hS ?_
  refine sk_seq (sk_seq ?_)
  refine sk_regionL Try.cfgOk hS ?_
  refine aK 1 ?_
  refine aM (lenB Try.cfg (St.empty 0) 22 (inlL rcells 8 l)) (.int .i64 ((l.length : Nat) : Int)) (len_inl tokC (by kernel_rfl)) ?_
  refine aN ?_
  refine sk_block ?_
  refine sk_live 50 ((fun a : Nat × (List Rec8) => [(3, slL 0 8 a.2.length), (8, inlL rcells 8 l), (9, .int .i64 ((l.length : Nat) : Int)), (10, .int .i64 ((a.1 : Nat) : Int))]) (0, ([] : List Rec8))) (by kernel_rfl) ⟨by kernel_rfl, by kernel_rfl, by kernel_rfl, by kernel_rfl, trivial⟩ fun m1 => ?_
  refine sk_st ((fun a : Nat × (List Rec8) => ((St.empty 0).new (rowL rcells a.2))) (0, ([] : List Rec8))) (by kernel_rfl) ?_
  refine (sk_while (k := 1) (N := 400) (live := (fun a : Nat × (List Rec8) => [(3, slL 0 8 a.2.length), (8, inlL rcells 8 l), (9, .int .i64 ((l.length : Nat) : Int)), (10, .int .i64 ((a.1 : Nat) : Int))])) (M := (fun a : Nat × (List Rec8) => ((St.empty 0).new (rowL rcells a.2)))) (fun a : Nat × (List Rec8) => (a.1 ≤ l.length) ∧ (a.2 = l.take a.1) ∧ (a.2.length = a.1)) (fun a : Nat × (List Rec8) => l.length - a.1) (fun (a : Nat × (List Rec8)) (o : Out) (lv : List (Nat × Value)) (M : St) => (o = .exit 0 ∧ (a.1 = l.length) ∧ lv = [(3, slL 0 8 a.2.length), (8, inlL rcells 8 l), (9, .int .i64 ((l.length : Nat) : Int)), (10, .int .i64 ((a.1 : Nat) : Int))] ∧ M = ((St.empty 0).new (rowL rcells a.2)))) (Nat.zero_le _) (fun a ha => ?_) (fun a ha => ?_) (fun a m ha => ?_) (fun a m ha => ?_) (0, ([] : List Rec8)) m1 ?_).up ?_
  · exact ⟨by kernel_rfl, ((wf_empty 0).new _), (selfs (all_cons (o := rowL rcells a.2) (by kernel_rfl) (OSub.arr (subs_clo (flatL_clo rcells_clo))) (all_none)))⟩
  · exact ⟨.slice ⟨by decide, rfl⟩, sub_clo rfl, sub_clo rfl, sub_clo rfl, trivial⟩
  · exact ⟨by kernel_rfl, by kernel_rfl, by kernel_rfl, by kernel_rfl, trivial⟩
  · obtain ⟨i, o⟩ := a
    obtain ⟨i0, i1, i2⟩ := ha
    dsimp only at i0 i1 i2
    refine sk_seq ?_
    refine sk_regionL Try.cfgOk hS ?_
    refine aT (fun h2 => ?_) (fun h2 => ?_)
    · have c3e : (decide ((((i : Nat) : Int) : Int) < ((l.length : Nat) : Int))) = true := Eq.trans (by kernel_rfl) h2
      clear h2
      have c3 : (((i : Nat) : Int) : Int) < ((l.length : Nat) : Int) := of_decide_eq_true c3e
      clear c3e
      refine al_nil ?_
      refine sk_seq ?_
      refine kT ?_
      refine sk_skip (sk_seq (sk_block (sk_seq ?_)))
      refine sk_regionL Try.cfgOk hS ?_
      refine aM (indexAddrV Try.cfg 22 (inlL rcells 8 l) (.int .i64 ((i : Nat) : Int))) (elt (flatL rcells l) (i * 8)) (idx_inlL tokC (by kernel_rfl) (by first | omega | simp)) ?_
      have hx4l : i < l.length := by omega
      refine Exists.elim (get_ex hx4l) fun x4 hx4 => ?_
      clear hx4l
      refine aM (loadV Try.cfg (St.empty 0) 48 (elt (flatL rcells l) (i * 8))) (.agg #[.int .i64 x4.1, .bool x4.2.1, .int .i64 x4.2.2.1, inlL ccells 6 x4.2.2.2.1, inlL kcells 2 x4.2.2.2.2.1, inlL scells 3 x4.2.2.2.2.2.1, inlL kcells 2 x4.2.2.2.2.2.2.1, inlL wcells 4 x4.2.2.2.2.2.2.2]) (load_el tokC (by kernel_rfl) rcells_len hx4) ?_
      refine aN ?_
      refine sk_seq ?_
      refine kK Try.cfgOk hS ?_
      refine sk_seq ?_
      refine sk_regionL Try.cfgOk hS ?_
      refine aK 4 ?_
      refine al_opF (v := slL 3 6 x4.2.2.2.1.length) (s1 := (((((St.empty 0).new (rowL rcells o)).new (.cells [.int .i64 x4.1, .bool x4.2.1, .int .i64 x4.2.2.1, inlL ccells 6 x4.2.2.2.1, inlL kcells 2 x4.2.2.2.2.1, inlL scells 3 x4.2.2.2.2.2.1, inlL kcells 2 x4.2.2.2.2.2.2.1, inlL wcells 4 x4.2.2.2.2.2.2.2])).new (.cells [.int .i64 x4.1, .bool x4.2.1, .int .i64 x4.2.2.1, inlL ccells 6 x4.2.2.2.1, inlL kcells 2 x4.2.2.2.2.1, inlL scells 3 x4.2.2.2.2.2.1, inlL kcells 2 x4.2.2.2.2.2.2.1, inlL wcells 4 x4.2.2.2.2.2.2.2])).new (rowL ccells ([] : List Code))).set 3 (rowL ccells x4.2.2.2.1)) (by kernel_rfl) (by kernel_rfl) (Eq.trans (b := appendV Try.cfg (((((St.empty 0).new (rowL rcells o)).new (.cells [.int .i64 x4.1, .bool x4.2.1, .int .i64 x4.2.2.1, inlL ccells 6 x4.2.2.2.1, inlL kcells 2 x4.2.2.2.2.1, inlL scells 3 x4.2.2.2.2.2.1, inlL kcells 2 x4.2.2.2.2.2.2.1, inlL wcells 4 x4.2.2.2.2.2.2.2])).new (.cells [.int .i64 x4.1, .bool x4.2.1, .int .i64 x4.2.2.1, inlL ccells 6 x4.2.2.2.1, inlL kcells 2 x4.2.2.2.2.1, inlL scells 3 x4.2.2.2.2.2.1, inlL kcells 2 x4.2.2.2.2.2.2.1, inlL wcells 4 x4.2.2.2.2.2.2.2])).new (rowL ccells ([] : List Code))) 29 (slL 3 6 (([] : List Code).length)) (inlL ccells 6 x4.2.2.2.1)) (by kernel_rfl) (app_rowL (l := ([] : List Code)) (l2 := x4.2.2.2.1) (bytes := 48) tokC (by kernel_rfl) ccells_len ccells_one (by kernel_rfl) (lenV_inl tokC) (firstV_inlL tokC ccells_len) (by (try simp only [List.length_cons, List.length_nil, List.length_append]); first | omega | (have q := h1 _ (List.mem_of_getElem? (by assumption)); unfold smR at q; omega)))) ?_
      refine aN ?_
      refine sk_seq ?_
      refine sk_drawL Try.cfgOk hS ?_
      refine dK 4 ?_
      refine ald_opF (v := slL 4 2 x4.2.2.2.2.1.length) (s1 := ((((((St.empty 0).new (rowL rcells o)).new (.cells [.int .i64 x4.1, .bool x4.2.1, .int .i64 x4.2.2.1, inlL ccells 6 x4.2.2.2.1, inlL kcells 2 x4.2.2.2.2.1, inlL scells 3 x4.2.2.2.2.2.1, inlL kcells 2 x4.2.2.2.2.2.2.1, inlL wcells 4 x4.2.2.2.2.2.2.2])).new (.cells [.int .i64 x4.1, .bool x4.2.1, .int .i64 x4.2.2.1, slL 3 6 x4.2.2.2.1.length, inlL kcells 2 x4.2.2.2.2.1, inlL scells 3 x4.2.2.2.2.2.1, inlL kcells 2 x4.2.2.2.2.2.2.1, inlL wcells 4 x4.2.2.2.2.2.2.2])).new (rowL ccells x4.2.2.2.1)).new (rowL kcells ([] : List Key))).set 4 (rowL kcells x4.2.2.2.2.1)) (by kernel_rfl) (by kernel_rfl) (Eq.trans (b := appendV Try.cfg ((((((St.empty 0).new (rowL rcells o)).new (.cells [.int .i64 x4.1, .bool x4.2.1, .int .i64 x4.2.2.1, inlL ccells 6 x4.2.2.2.1, inlL kcells 2 x4.2.2.2.2.1, inlL scells 3 x4.2.2.2.2.2.1, inlL kcells 2 x4.2.2.2.2.2.2.1, inlL wcells 4 x4.2.2.2.2.2.2.2])).new (.cells [.int .i64 x4.1, .bool x4.2.1, .int .i64 x4.2.2.1, slL 3 6 x4.2.2.2.1.length, inlL kcells 2 x4.2.2.2.2.1, inlL scells 3 x4.2.2.2.2.2.1, inlL kcells 2 x4.2.2.2.2.2.2.1, inlL wcells 4 x4.2.2.2.2.2.2.2])).new (rowL ccells x4.2.2.2.1)).new (rowL kcells ([] : List Key))) 32 (slL 4 2 (([] : List Key).length)) (inlL kcells 2 x4.2.2.2.2.1)) (by kernel_rfl) (app_rowL (l := ([] : List Key)) (l2 := x4.2.2.2.2.1) (bytes := 16) tokC (by kernel_rfl) kcells_len kcells_one (by kernel_rfl) (lenV_inl tokC) (firstV_inlL tokC kcells_len) (by (try simp only [List.length_cons, List.length_nil, List.length_append]); first | omega | (have q := h1 _ (List.mem_of_getElem? (by assumption)); unfold smR at q; omega)))) (by kernel_rfl) ?_
      refine dK 3 ?_
      refine ald_readK (d := (0, St.empty 0, St.empty 0)) (by kernel_rfl) (by kernel_rfl) (by kernel_rfl) (by kernel_rfl) (below_len (k := 1) (by kernel_rfl) (all1 (.inr (read_again (by kernel_rfl) (Eq.trans (b := inlL scells 3 x4.2.2.2.2.2.1) (by kernel_rfl) (by kernel_rfl)))))) ?_
      refine ald_opF (v := slL 5 3 x4.2.2.2.2.2.1.length) (s1 := (((((((St.empty 0).new (rowL rcells o)).new (.cells [.int .i64 x4.1, .bool x4.2.1, .int .i64 x4.2.2.1, inlL ccells 6 x4.2.2.2.1, inlL kcells 2 x4.2.2.2.2.1, inlL scells 3 x4.2.2.2.2.2.1, inlL kcells 2 x4.2.2.2.2.2.2.1, inlL wcells 4 x4.2.2.2.2.2.2.2])).new (.cells [.int .i64 x4.1, .bool x4.2.1, .int .i64 x4.2.2.1, slL 3 6 x4.2.2.2.1.length, inlL kcells 2 x4.2.2.2.2.1, inlL scells 3 x4.2.2.2.2.2.1, inlL kcells 2 x4.2.2.2.2.2.2.1, inlL wcells 4 x4.2.2.2.2.2.2.2])).new (rowL ccells x4.2.2.2.1)).new (rowL kcells x4.2.2.2.2.1)).new (rowL scells ([] : List Span))).set 5 (rowL scells x4.2.2.2.2.2.1)) (by kernel_rfl) (by kernel_rfl) (Eq.trans (b := appendV Try.cfg (((((((St.empty 0).new (rowL rcells o)).new (.cells [.int .i64 x4.1, .bool x4.2.1, .int .i64 x4.2.2.1, inlL ccells 6 x4.2.2.2.1, inlL kcells 2 x4.2.2.2.2.1, inlL scells 3 x4.2.2.2.2.2.1, inlL kcells 2 x4.2.2.2.2.2.2.1, inlL wcells 4 x4.2.2.2.2.2.2.2])).new (.cells [.int .i64 x4.1, .bool x4.2.1, .int .i64 x4.2.2.1, slL 3 6 x4.2.2.2.1.length, inlL kcells 2 x4.2.2.2.2.1, inlL scells 3 x4.2.2.2.2.2.1, inlL kcells 2 x4.2.2.2.2.2.2.1, inlL wcells 4 x4.2.2.2.2.2.2.2])).new (rowL ccells x4.2.2.2.1)).new (rowL kcells x4.2.2.2.2.1)).new (rowL scells ([] : List Span))) 33 (slL 5 3 (([] : List Span).length)) (inlL scells 3 x4.2.2.2.2.2.1)) (by kernel_rfl) (app_rowL (l := ([] : List Span)) (l2 := x4.2.2.2.2.2.1) (bytes := 24) tokC (by kernel_rfl) scells_len scells_one (by kernel_rfl) (lenV_inl tokC) (firstV_inlL tokC scells_len) (by (try simp only [List.length_cons, List.length_nil, List.length_append]); first | omega | (have q := h1 _ (List.mem_of_getElem? (by assumption)); unfold smR at q; omega)))) (by kernel_rfl) ?_
      refine dK 3 ?_
      refine ald_readK (d := (0, St.empty 0, St.empty 0)) (by kernel_rfl) (by kernel_rfl) (by kernel_rfl) (by kernel_rfl) (below_len (k := 2) (by kernel_rfl) (all2 (.inr (read_again (by kernel_rfl) (Eq.trans (b := inlL kcells 2 x4.2.2.2.2.2.2.1) (by kernel_rfl) (by kernel_rfl)))) (.inr (read_again (by kernel_rfl) (Eq.trans (b := inlL kcells 2 x4.2.2.2.2.2.2.1) (by kernel_rfl) (by kernel_rfl)))))) ?_
      refine ald_opF (v := slL 6 2 x4.2.2.2.2.2.2.1.length) (s1 := ((((((((St.empty 0).new (rowL rcells o)).new (.cells [.int .i64 x4.1, .bool x4.2.1, .int .i64 x4.2.2.1, inlL ccells 6 x4.2.2.2.1, inlL kcells 2 x4.2.2.2.2.1, inlL scells 3 x4.2.2.2.2.2.1, inlL kcells 2 x4.2.2.2.2.2.2.1, inlL wcells 4 x4.2.2.2.2.2.2.2])).new (.cells [.int .i64 x4.1, .bool x4.2.1, .int .i64 x4.2.2.1, slL 3 6 x4.2.2.2.1.length, inlL kcells 2 x4.2.2.2.2.1, inlL scells 3 x4.2.2.2.2.2.1, inlL kcells 2 x4.2.2.2.2.2.2.1, inlL wcells 4 x4.2.2.2.2.2.2.2])).new (rowL ccells x4.2.2.2.1)).new (rowL kcells x4.2.2.2.2.1)).new (rowL scells x4.2.2.2.2.2.1)).new (rowL kcells ([] : List Key))).set 6 (rowL kcells x4.2.2.2.2.2.2.1)) (by kernel_rfl) (by kernel_rfl) (Eq.trans (b := appendV Try.cfg ((((((((St.empty 0).new (rowL rcells o)).new (.cells [.int .i64 x4.1, .bool x4.2.1, .int .i64 x4.2.2.1, inlL ccells 6 x4.2.2.2.1, inlL kcells 2 x4.2.2.2.2.1, inlL scells 3 x4.2.2.2.2.2.1, inlL kcells 2 x4.2.2.2.2.2.2.1, inlL wcells 4 x4.2.2.2.2.2.2.2])).new (.cells [.int .i64 x4.1, .bool x4.2.1, .int .i64 x4.2.2.1, slL 3 6 x4.2.2.2.1.length, inlL kcells 2 x4.2.2.2.2.1, inlL scells 3 x4.2.2.2.2.2.1, inlL kcells 2 x4.2.2.2.2.2.2.1, inlL wcells 4 x4.2.2.2.2.2.2.2])).new (rowL ccells x4.2.2.2.1)).new (rowL kcells x4.2.2.2.2.1)).new (rowL scells x4.2.2.2.2.2.1)).new (rowL kcells ([] : List Key))) 32 (slL 6 2 (([] : List Key).length)) (inlL kcells 2 x4.2.2.2.2.2.2.1)) (by kernel_rfl) (app_rowL (l := ([] : List Key)) (l2 := x4.2.2.2.2.2.2.1) (bytes := 16) tokC (by kernel_rfl) kcells_len kcells_one (by kernel_rfl) (lenV_inl tokC) (firstV_inlL tokC kcells_len) (by (try simp only [List.length_cons, List.length_nil, List.length_append]); first | omega | (have q := h1 _ (List.mem_of_getElem? (by assumption)); unfold smR at q; omega)))) (by kernel_rfl) ?_
      refine dK 3 ?_
      refine ald_nil ?_
      refine sk_seq ?_
      refine sk_regionL Try.cfgOk hS ?_
      refine aK 3 ?_
      refine al_opF (v := slL 7 4 x4.2.2.2.2.2.2.2.length) (s1 := (((((((((St.empty 0).new (rowL rcells o)).new (.cells [.int .i64 x4.1, .bool x4.2.1, .int .i64 x4.2.2.1, inlL ccells 6 x4.2.2.2.1, inlL kcells 2 x4.2.2.2.2.1, inlL scells 3 x4.2.2.2.2.2.1, inlL kcells 2 x4.2.2.2.2.2.2.1, inlL wcells 4 x4.2.2.2.2.2.2.2])).new (.cells [.int .i64 x4.1, .bool x4.2.1, .int .i64 x4.2.2.1, slL 3 6 x4.2.2.2.1.length, slL 4 2 x4.2.2.2.2.1.length, slL 5 3 x4.2.2.2.2.2.1.length, slL 6 2 x4.2.2.2.2.2.2.1.length, inlL wcells 4 x4.2.2.2.2.2.2.2])).new (rowL ccells x4.2.2.2.1)).new (rowL kcells x4.2.2.2.2.1)).new (rowL scells x4.2.2.2.2.2.1)).new (rowL kcells x4.2.2.2.2.2.2.1)).new (rowL wcells ([] : List Wr))).set 7 (rowL wcells x4.2.2.2.2.2.2.2)) (by kernel_rfl) (by kernel_rfl) (Eq.trans (b := appendV Try.cfg (((((((((St.empty 0).new (rowL rcells o)).new (.cells [.int .i64 x4.1, .bool x4.2.1, .int .i64 x4.2.2.1, inlL ccells 6 x4.2.2.2.1, inlL kcells 2 x4.2.2.2.2.1, inlL scells 3 x4.2.2.2.2.2.1, inlL kcells 2 x4.2.2.2.2.2.2.1, inlL wcells 4 x4.2.2.2.2.2.2.2])).new (.cells [.int .i64 x4.1, .bool x4.2.1, .int .i64 x4.2.2.1, slL 3 6 x4.2.2.2.1.length, slL 4 2 x4.2.2.2.2.1.length, slL 5 3 x4.2.2.2.2.2.1.length, slL 6 2 x4.2.2.2.2.2.2.1.length, inlL wcells 4 x4.2.2.2.2.2.2.2])).new (rowL ccells x4.2.2.2.1)).new (rowL kcells x4.2.2.2.2.1)).new (rowL scells x4.2.2.2.2.2.1)).new (rowL kcells x4.2.2.2.2.2.2.1)).new (rowL wcells ([] : List Wr))) 36 (slL 7 4 (([] : List Wr).length)) (inlL wcells 4 x4.2.2.2.2.2.2.2)) (by kernel_rfl) (app_rowL (l := ([] : List Wr)) (l2 := x4.2.2.2.2.2.2.2) (bytes := 32) tokC (by kernel_rfl) wcells_len wcells_one (by kernel_rfl) (lenV_inl tokC) (firstV_inlL tokC wcells_len) (by (try simp only [List.length_cons, List.length_nil, List.length_append]); first | omega | (have q := h1 _ (List.mem_of_getElem? (by assumption)); unfold smR at q; omega)))) ?_
      refine aN ?_
      refine sk_live 50 [(3, slL 0 8 o.length), (6, .pointer (some ⟨2, 0, none⟩)), (8, inlL rcells 8 l), (9, .int .i64 ((l.length : Nat) : Int)), (10, .int .i64 ((i : Nat) : Int))] (by kernel_rfl) ⟨by kernel_rfl, by kernel_rfl, by kernel_rfl, by kernel_rfl, by kernel_rfl, trivial⟩ fun m5 => ?_
      refine sk_st (((((((((St.empty 0).new (rowL rcells o)).new (.cells [.int .i64 x4.1, .bool x4.2.1, .int .i64 x4.2.2.1, inlL ccells 6 x4.2.2.2.1, inlL kcells 2 x4.2.2.2.2.1, inlL scells 3 x4.2.2.2.2.2.1, inlL kcells 2 x4.2.2.2.2.2.2.1, inlL wcells 4 x4.2.2.2.2.2.2.2])).new (.cells [.int .i64 x4.1, .bool x4.2.1, .int .i64 x4.2.2.1, slL 3 6 x4.2.2.2.1.length, slL 4 2 x4.2.2.2.2.1.length, slL 5 3 x4.2.2.2.2.2.1.length, slL 6 2 x4.2.2.2.2.2.2.1.length, slL 7 4 x4.2.2.2.2.2.2.2.length])).new (rowL ccells x4.2.2.2.1)).new (rowL kcells x4.2.2.2.2.1)).new (rowL scells x4.2.2.2.2.2.1)).new (rowL kcells x4.2.2.2.2.2.2.1)).new (rowL wcells x4.2.2.2.2.2.2.2)) (by kernel_rfl) ?_
      refine ice_cell ccells x4.2.2.2.1 3 6 2 0 6 [.int .i64 x4.1, .bool x4.2.1, .int .i64 x4.2.2.1] [slL 4 2 x4.2.2.2.2.1.length, slL 5 3 x4.2.2.2.2.2.1.length, slL 6 2 x4.2.2.2.2.2.2.1.length, slL 7 4 x4.2.2.2.2.2.2.2.length] (by decide) ccells_len ccells_clo ccells_one (((((((((wf_empty 0).new _).new _).new _).new _).new _).new _).new _).new _) (by kernel_rfl) (by kernel_rfl) (by kernel_rfl) (by decide) ?_
      refine sk_st (((((((((St.empty 0).new (rowL rcells o)).new (.cells [.int .i64 x4.1, .bool x4.2.1, .int .i64 x4.2.2.1, inlL ccells 6 x4.2.2.2.1, inlL kcells 2 x4.2.2.2.2.1, inlL scells 3 x4.2.2.2.2.2.1, inlL kcells 2 x4.2.2.2.2.2.2.1, inlL wcells 4 x4.2.2.2.2.2.2.2])).new (.cells [.int .i64 x4.1, .bool x4.2.1, .int .i64 x4.2.2.1, inlL ccells 6 x4.2.2.2.1, slL 4 2 x4.2.2.2.2.1.length, slL 5 3 x4.2.2.2.2.2.1.length, slL 6 2 x4.2.2.2.2.2.2.1.length, slL 7 4 x4.2.2.2.2.2.2.2.length])).new (.arr (flatL ccells x4.2.2.2.1) 0 true)).new (rowL kcells x4.2.2.2.2.1)).new (rowL scells x4.2.2.2.2.2.1)).new (rowL kcells x4.2.2.2.2.2.2.1)).new (rowL wcells x4.2.2.2.2.2.2.2)) (by kernel_rfl) ?_
      refine sk_live 50 [(3, slL 0 8 o.length), (6, .pointer (some ⟨2, 0, none⟩)), (8, inlL rcells 8 l), (9, .int .i64 ((l.length : Nat) : Int)), (10, .int .i64 ((i : Nat) : Int))] (by kernel_rfl) ⟨by kernel_rfl, by kernel_rfl, by kernel_rfl, by kernel_rfl, by kernel_rfl, trivial⟩ fun m6 => ?_
      refine sk_st (((((((((St.empty 0).new (rowL rcells o)).new (.cells [.int .i64 x4.1, .bool x4.2.1, .int .i64 x4.2.2.1, inlL ccells 6 x4.2.2.2.1, inlL kcells 2 x4.2.2.2.2.1, inlL scells 3 x4.2.2.2.2.2.1, inlL kcells 2 x4.2.2.2.2.2.2.1, inlL wcells 4 x4.2.2.2.2.2.2.2])).new (.cells [.int .i64 x4.1, .bool x4.2.1, .int .i64 x4.2.2.1, inlL ccells 6 x4.2.2.2.1, slL 4 2 x4.2.2.2.2.1.length, slL 5 3 x4.2.2.2.2.2.1.length, slL 6 2 x4.2.2.2.2.2.2.1.length, slL 7 4 x4.2.2.2.2.2.2.2.length])).new (.arr (flatL ccells x4.2.2.2.1) 0 true)).new (rowL kcells x4.2.2.2.2.1)).new (rowL scells x4.2.2.2.2.2.1)).new (rowL kcells x4.2.2.2.2.2.2.1)).new (rowL wcells x4.2.2.2.2.2.2.2)) (by kernel_rfl) ?_
      refine ice_cell kcells x4.2.2.2.2.1 4 6 2 0 2 [.int .i64 x4.1, .bool x4.2.1, .int .i64 x4.2.2.1, inlL ccells 6 x4.2.2.2.1] [slL 5 3 x4.2.2.2.2.2.1.length, slL 6 2 x4.2.2.2.2.2.2.1.length, slL 7 4 x4.2.2.2.2.2.2.2.length] (by decide) kcells_len kcells_clo kcells_one (((((((((wf_empty 0).new _).new _).new _).new _).new _).new _).new _).new _) (by kernel_rfl) (by kernel_rfl) (by kernel_rfl) (by decide) ?_
      refine sk_st (((((((((St.empty 0).new (rowL rcells o)).new (.cells [.int .i64 x4.1, .bool x4.2.1, .int .i64 x4.2.2.1, inlL ccells 6 x4.2.2.2.1, inlL kcells 2 x4.2.2.2.2.1, inlL scells 3 x4.2.2.2.2.2.1, inlL kcells 2 x4.2.2.2.2.2.2.1, inlL wcells 4 x4.2.2.2.2.2.2.2])).new (.cells [.int .i64 x4.1, .bool x4.2.1, .int .i64 x4.2.2.1, inlL ccells 6 x4.2.2.2.1, inlL kcells 2 x4.2.2.2.2.1, slL 5 3 x4.2.2.2.2.2.1.length, slL 6 2 x4.2.2.2.2.2.2.1.length, slL 7 4 x4.2.2.2.2.2.2.2.length])).new (.arr (flatL ccells x4.2.2.2.1) 0 true)).new (.arr (flatL kcells x4.2.2.2.2.1) 0 true)).new (rowL scells x4.2.2.2.2.2.1)).new (rowL kcells x4.2.2.2.2.2.2.1)).new (rowL wcells x4.2.2.2.2.2.2.2)) (by kernel_rfl) ?_
      refine sk_live 50 [(3, slL 0 8 o.length), (6, .pointer (some ⟨2, 0, none⟩)), (8, inlL rcells 8 l), (9, .int .i64 ((l.length : Nat) : Int)), (10, .int .i64 ((i : Nat) : Int))] (by kernel_rfl) ⟨by kernel_rfl, by kernel_rfl, by kernel_rfl, by kernel_rfl, by kernel_rfl, trivial⟩ fun m7 => ?_
      refine sk_st (((((((((St.empty 0).new (rowL rcells o)).new (.cells [.int .i64 x4.1, .bool x4.2.1, .int .i64 x4.2.2.1, inlL ccells 6 x4.2.2.2.1, inlL kcells 2 x4.2.2.2.2.1, inlL scells 3 x4.2.2.2.2.2.1, inlL kcells 2 x4.2.2.2.2.2.2.1, inlL wcells 4 x4.2.2.2.2.2.2.2])).new (.cells [.int .i64 x4.1, .bool x4.2.1, .int .i64 x4.2.2.1, inlL ccells 6 x4.2.2.2.1, inlL kcells 2 x4.2.2.2.2.1, slL 5 3 x4.2.2.2.2.2.1.length, slL 6 2 x4.2.2.2.2.2.2.1.length, slL 7 4 x4.2.2.2.2.2.2.2.length])).new (.arr (flatL ccells x4.2.2.2.1) 0 true)).new (.arr (flatL kcells x4.2.2.2.2.1) 0 true)).new (rowL scells x4.2.2.2.2.2.1)).new (rowL kcells x4.2.2.2.2.2.2.1)).new (rowL wcells x4.2.2.2.2.2.2.2)) (by kernel_rfl) ?_
      refine ice_cell scells x4.2.2.2.2.2.1 5 6 2 0 3 [.int .i64 x4.1, .bool x4.2.1, .int .i64 x4.2.2.1, inlL ccells 6 x4.2.2.2.1, inlL kcells 2 x4.2.2.2.2.1] [slL 6 2 x4.2.2.2.2.2.2.1.length, slL 7 4 x4.2.2.2.2.2.2.2.length] (by decide) scells_len scells_clo scells_one (((((((((wf_empty 0).new _).new _).new _).new _).new _).new _).new _).new _) (by kernel_rfl) (by kernel_rfl) (by kernel_rfl) (by decide) ?_
      refine sk_st (((((((((St.empty 0).new (rowL rcells o)).new (.cells [.int .i64 x4.1, .bool x4.2.1, .int .i64 x4.2.2.1, inlL ccells 6 x4.2.2.2.1, inlL kcells 2 x4.2.2.2.2.1, inlL scells 3 x4.2.2.2.2.2.1, inlL kcells 2 x4.2.2.2.2.2.2.1, inlL wcells 4 x4.2.2.2.2.2.2.2])).new (.cells [.int .i64 x4.1, .bool x4.2.1, .int .i64 x4.2.2.1, inlL ccells 6 x4.2.2.2.1, inlL kcells 2 x4.2.2.2.2.1, inlL scells 3 x4.2.2.2.2.2.1, slL 6 2 x4.2.2.2.2.2.2.1.length, slL 7 4 x4.2.2.2.2.2.2.2.length])).new (.arr (flatL ccells x4.2.2.2.1) 0 true)).new (.arr (flatL kcells x4.2.2.2.2.1) 0 true)).new (.arr (flatL scells x4.2.2.2.2.2.1) 0 true)).new (rowL kcells x4.2.2.2.2.2.2.1)).new (rowL wcells x4.2.2.2.2.2.2.2)) (by kernel_rfl) ?_
      refine sk_live 50 [(3, slL 0 8 o.length), (6, .pointer (some ⟨2, 0, none⟩)), (8, inlL rcells 8 l), (9, .int .i64 ((l.length : Nat) : Int)), (10, .int .i64 ((i : Nat) : Int))] (by kernel_rfl) ⟨by kernel_rfl, by kernel_rfl, by kernel_rfl, by kernel_rfl, by kernel_rfl, trivial⟩ fun m8 => ?_
      refine sk_st (((((((((St.empty 0).new (rowL rcells o)).new (.cells [.int .i64 x4.1, .bool x4.2.1, .int .i64 x4.2.2.1, inlL ccells 6 x4.2.2.2.1, inlL kcells 2 x4.2.2.2.2.1, inlL scells 3 x4.2.2.2.2.2.1, inlL kcells 2 x4.2.2.2.2.2.2.1, inlL wcells 4 x4.2.2.2.2.2.2.2])).new (.cells [.int .i64 x4.1, .bool x4.2.1, .int .i64 x4.2.2.1, inlL ccells 6 x4.2.2.2.1, inlL kcells 2 x4.2.2.2.2.1, inlL scells 3 x4.2.2.2.2.2.1, slL 6 2 x4.2.2.2.2.2.2.1.length, slL 7 4 x4.2.2.2.2.2.2.2.length])).new (.arr (flatL ccells x4.2.2.2.1) 0 true)).new (.arr (flatL kcells x4.2.2.2.2.1) 0 true)).new (.arr (flatL scells x4.2.2.2.2.2.1) 0 true)).new (rowL kcells x4.2.2.2.2.2.2.1)).new (rowL wcells x4.2.2.2.2.2.2.2)) (by kernel_rfl) ?_
      refine ice_cell kcells x4.2.2.2.2.2.2.1 6 6 2 0 2 [.int .i64 x4.1, .bool x4.2.1, .int .i64 x4.2.2.1, inlL ccells 6 x4.2.2.2.1, inlL kcells 2 x4.2.2.2.2.1, inlL scells 3 x4.2.2.2.2.2.1] [slL 7 4 x4.2.2.2.2.2.2.2.length] (by decide) kcells_len kcells_clo kcells_one (((((((((wf_empty 0).new _).new _).new _).new _).new _).new _).new _).new _) (by kernel_rfl) (by kernel_rfl) (by kernel_rfl) (by decide) ?_
      refine sk_st (((((((((St.empty 0).new (rowL rcells o)).new (.cells [.int .i64 x4.1, .bool x4.2.1, .int .i64 x4.2.2.1, inlL ccells 6 x4.2.2.2.1, inlL kcells 2 x4.2.2.2.2.1, inlL scells 3 x4.2.2.2.2.2.1, inlL kcells 2 x4.2.2.2.2.2.2.1, inlL wcells 4 x4.2.2.2.2.2.2.2])).new (.cells [.int .i64 x4.1, .bool x4.2.1, .int .i64 x4.2.2.1, inlL ccells 6 x4.2.2.2.1, inlL kcells 2 x4.2.2.2.2.1, inlL scells 3 x4.2.2.2.2.2.1, inlL kcells 2 x4.2.2.2.2.2.2.1, slL 7 4 x4.2.2.2.2.2.2.2.length])).new (.arr (flatL ccells x4.2.2.2.1) 0 true)).new (.arr (flatL kcells x4.2.2.2.2.1) 0 true)).new (.arr (flatL scells x4.2.2.2.2.2.1) 0 true)).new (.arr (flatL kcells x4.2.2.2.2.2.2.1) 0 true)).new (rowL wcells x4.2.2.2.2.2.2.2)) (by kernel_rfl) ?_
      refine sk_live 50 [(3, slL 0 8 o.length), (6, .pointer (some ⟨2, 0, none⟩)), (8, inlL rcells 8 l), (9, .int .i64 ((l.length : Nat) : Int)), (10, .int .i64 ((i : Nat) : Int))] (by kernel_rfl) ⟨by kernel_rfl, by kernel_rfl, by kernel_rfl, by kernel_rfl, by kernel_rfl, trivial⟩ fun m9 => ?_
      refine sk_st (((((((((St.empty 0).new (rowL rcells o)).new (.cells [.int .i64 x4.1, .bool x4.2.1, .int .i64 x4.2.2.1, inlL ccells 6 x4.2.2.2.1, inlL kcells 2 x4.2.2.2.2.1, inlL scells 3 x4.2.2.2.2.2.1, inlL kcells 2 x4.2.2.2.2.2.2.1, inlL wcells 4 x4.2.2.2.2.2.2.2])).new (.cells [.int .i64 x4.1, .bool x4.2.1, .int .i64 x4.2.2.1, inlL ccells 6 x4.2.2.2.1, inlL kcells 2 x4.2.2.2.2.1, inlL scells 3 x4.2.2.2.2.2.1, inlL kcells 2 x4.2.2.2.2.2.2.1, slL 7 4 x4.2.2.2.2.2.2.2.length])).new (.arr (flatL ccells x4.2.2.2.1) 0 true)).new (.arr (flatL kcells x4.2.2.2.2.1) 0 true)).new (.arr (flatL scells x4.2.2.2.2.2.1) 0 true)).new (.arr (flatL kcells x4.2.2.2.2.2.2.1) 0 true)).new (rowL wcells x4.2.2.2.2.2.2.2)) (by kernel_rfl) ?_
      refine ice_cell wcells x4.2.2.2.2.2.2.2 7 6 2 0 4 [.int .i64 x4.1, .bool x4.2.1, .int .i64 x4.2.2.1, inlL ccells 6 x4.2.2.2.1, inlL kcells 2 x4.2.2.2.2.1, inlL scells 3 x4.2.2.2.2.2.1, inlL kcells 2 x4.2.2.2.2.2.2.1] [] (by decide) wcells_len wcells_clo wcells_one (((((((((wf_empty 0).new _).new _).new _).new _).new _).new _).new _).new _) (by kernel_rfl) (by kernel_rfl) (by kernel_rfl) (by decide) ?_
      refine sk_st (((((((((St.empty 0).new (rowL rcells o)).new (.cells [.int .i64 x4.1, .bool x4.2.1, .int .i64 x4.2.2.1, inlL ccells 6 x4.2.2.2.1, inlL kcells 2 x4.2.2.2.2.1, inlL scells 3 x4.2.2.2.2.2.1, inlL kcells 2 x4.2.2.2.2.2.2.1, inlL wcells 4 x4.2.2.2.2.2.2.2])).new (.cells [.int .i64 x4.1, .bool x4.2.1, .int .i64 x4.2.2.1, inlL ccells 6 x4.2.2.2.1, inlL kcells 2 x4.2.2.2.2.1, inlL scells 3 x4.2.2.2.2.2.1, inlL kcells 2 x4.2.2.2.2.2.2.1, inlL wcells 4 x4.2.2.2.2.2.2.2])).new (.arr (flatL ccells x4.2.2.2.1) 0 true)).new (.arr (flatL kcells x4.2.2.2.2.1) 0 true)).new (.arr (flatL scells x4.2.2.2.2.2.1) 0 true)).new (.arr (flatL kcells x4.2.2.2.2.2.2.1) 0 true)).new (.arr (flatL wcells x4.2.2.2.2.2.2.2) 0 true)) (by kernel_rfl) ?_
      refine sk_regionL Try.cfgOk hS ?_
      refine aK 3 ?_
      refine al_opF (v := slL 0 8 (o ++ [(x4.1, x4.2.1, x4.2.2.1, x4.2.2.2.1, x4.2.2.2.2.1, x4.2.2.2.2.2.1, x4.2.2.2.2.2.2.1, x4.2.2.2.2.2.2.2)]).length) (s1 := ((((((((((St.empty 0).new (rowL rcells o)).new (.cells [.int .i64 x4.1, .bool x4.2.1, .int .i64 x4.2.2.1, inlL ccells 6 x4.2.2.2.1, inlL kcells 2 x4.2.2.2.2.1, inlL scells 3 x4.2.2.2.2.2.1, inlL kcells 2 x4.2.2.2.2.2.2.1, inlL wcells 4 x4.2.2.2.2.2.2.2])).new (.cells [.int .i64 x4.1, .bool x4.2.1, .int .i64 x4.2.2.1, inlL ccells 6 x4.2.2.2.1, inlL kcells 2 x4.2.2.2.2.1, inlL scells 3 x4.2.2.2.2.2.1, inlL kcells 2 x4.2.2.2.2.2.2.1, inlL wcells 4 x4.2.2.2.2.2.2.2])).new (.arr (flatL ccells x4.2.2.2.1) 0 true)).new (.arr (flatL kcells x4.2.2.2.2.1) 0 true)).new (.arr (flatL scells x4.2.2.2.2.2.1) 0 true)).new (.arr (flatL kcells x4.2.2.2.2.2.2.1) 0 true)).new (.arr (flatL wcells x4.2.2.2.2.2.2.2) 0 true)).new (.arr [.int .i64 x4.1, .bool x4.2.1, .int .i64 x4.2.2.1, inlL ccells 6 x4.2.2.2.1, inlL kcells 2 x4.2.2.2.2.1, inlL scells 3 x4.2.2.2.2.2.1, inlL kcells 2 x4.2.2.2.2.2.2.1, inlL wcells 4 x4.2.2.2.2.2.2.2] 0 false)).set 0 (rowL rcells (o ++ [(x4.1, x4.2.1, x4.2.2.1, x4.2.2.2.1, x4.2.2.2.2.1, x4.2.2.2.2.2.1, x4.2.2.2.2.2.2.1, x4.2.2.2.2.2.2.2)]))) (by kernel_rfl) (by kernel_rfl) (Eq.trans (b := appendV Try.cfg ((((((((((St.empty 0).new (rowL rcells o)).new (.cells [.int .i64 x4.1, .bool x4.2.1, .int .i64 x4.2.2.1, inlL ccells 6 x4.2.2.2.1, inlL kcells 2 x4.2.2.2.2.1, inlL scells 3 x4.2.2.2.2.2.1, inlL kcells 2 x4.2.2.2.2.2.2.1, inlL wcells 4 x4.2.2.2.2.2.2.2])).new (.cells [.int .i64 x4.1, .bool x4.2.1, .int .i64 x4.2.2.1, inlL ccells 6 x4.2.2.2.1, inlL kcells 2 x4.2.2.2.2.1, inlL scells 3 x4.2.2.2.2.2.1, inlL kcells 2 x4.2.2.2.2.2.2.1, inlL wcells 4 x4.2.2.2.2.2.2.2])).new (.arr (flatL ccells x4.2.2.2.1) 0 true)).new (.arr (flatL kcells x4.2.2.2.2.1) 0 true)).new (.arr (flatL scells x4.2.2.2.2.2.1) 0 true)).new (.arr (flatL kcells x4.2.2.2.2.2.2.1) 0 true)).new (.arr (flatL wcells x4.2.2.2.2.2.2.2) 0 true)).new (.arr [.int .i64 x4.1, .bool x4.2.1, .int .i64 x4.2.2.1, inlL ccells 6 x4.2.2.2.1, inlL kcells 2 x4.2.2.2.2.1, inlL scells 3 x4.2.2.2.2.2.1, inlL kcells 2 x4.2.2.2.2.2.2.1, inlL wcells 4 x4.2.2.2.2.2.2.2] 0 false)) 25 (slL 0 8 o.length) (.slice (some ⟨8, 0, some 8⟩) 1 8)) (by kernel_rfl) (app_rowL (l := o) (l2 := [(x4.1, x4.2.1, x4.2.2.1, x4.2.2.2.1, x4.2.2.2.2.1, x4.2.2.2.2.2.1, x4.2.2.2.2.2.2.1, x4.2.2.2.2.2.2.2)]) (bytes := 144) tokC (by kernel_rfl) rcells_len rcells_one (by kernel_rfl) (by kernel_rfl) (by kernel_rfl) (by (try simp only [List.length_cons, List.length_nil, List.length_append]); first | omega | (have q := h1 _ (List.mem_of_getElem? (by assumption)); unfold smR at q; omega)))) ?_
      refine aN ?_
      refine sk_regionL Try.cfgOk hS ?_
      refine aE (v := .int .i64 (IntKind.wrap .i64 (((i : Nat) : Int) + 1))) (.int .i64 ((i + 1 : Nat) : Int)) (congrArg (Value.int .i64) (wrap_to (by omega) (by omega))) ?_
      refine aN ?_
      refine .inl ⟨(i + 1, (o ++ [(x4.1, x4.2.1, x4.2.2.1, x4.2.2.2.1, x4.2.2.2.2.1, x4.2.2.2.2.2.1, x4.2.2.2.2.2.2.1, x4.2.2.2.2.2.2.2)])), rfl, ⟨?_, ?_, ?_⟩, ?_, ⟨by kernel_rfl, ⟨by kernel_rfl, by kernel_rfl, by kernel_rfl, by kernel_rfl, trivial⟩, ⟨.slice ⟨by decide, rfl⟩, sub_clo rfl, sub_clo rfl, sub_clo rfl, trivial⟩, Nat.le_of_ble_eq_true (by kernel_rfl), ⟨by kernel_rfl, ((wf_empty 0).new _), (selfs (all_cons (o := rowL rcells (o ++ [(x4.1, x4.2.1, x4.2.2.1, x4.2.2.2.1, x4.2.2.2.2.1, x4.2.2.2.2.2.1, x4.2.2.2.2.2.2.1, x4.2.2.2.2.2.2.2)])) (by kernel_rfl) (OSub.arr (subs_clo (flatL_clo rcells_clo))) (all_none)))⟩, mem_all (by kernel_rfl)⟩⟩
      · (try dsimp only); omega
      · (try dsimp only); rw [i1]; exact (take_one (by assumption)).symm
      · (try dsimp only); simp only [List.length_append, List.length_cons, List.length_nil]; omega
      · dsimp only; omega
    · have c3e : (decide ((((i : Nat) : Int) : Int) < ((l.length : Nat) : Int))) = false := Eq.trans (by kernel_rfl) h2
      clear h2
      have c3 : ¬ (((i : Nat) : Int) : Int) < ((l.length : Nat) : Int) := of_decide_eq_false c3e
      clear c3e
      refine al_nil ?_
      refine sk_seq ?_
      refine kF ?_
      refine sk_exit ?_
      dsimp only
      refine .inr ⟨_, _, (fun h => by cases h), ⟨rfl, ?_, rfl, rfl⟩, ⟨by kernel_rfl, ⟨by kernel_rfl, by kernel_rfl, by kernel_rfl, by kernel_rfl, trivial⟩, ⟨.slice ⟨by decide, rfl⟩, sub_clo rfl, sub_clo rfl, sub_clo rfl, trivial⟩, Nat.le_of_ble_eq_true (by kernel_rfl), ⟨by kernel_rfl, ((wf_empty 0).new _), (selfs (all_cons (o := rowL rcells o) (by kernel_rfl) (OSub.arr (subs_clo (flatL_clo rcells_clo))) (all_none)))⟩, mem_all (by kernel_rfl)⟩⟩
      · omega
  · exact ⟨by ((try dsimp only); first | done | (omega)), by ((try dsimp only); first | done | (rfl)), by ((try dsimp only); first | done | (rfl))⟩
  rintro o e1 s1 ⟨a, lv1, M1, m1, ha, ⟨rfl, hx, rfl, rfl⟩, rfl, rfl⟩
  obtain ⟨i, o⟩ := a
  obtain ⟨i0, i1, i2⟩ := ha
  dsimp only at hx i0 i1 i2
  dsimp only
  try rw [if_pos rfl]
  refine sk_seq ?_
  refine kK Try.cfgOk hS ?_
  refine sk_ret ?_
  exact ⟨[slL 0 8 o.length], by kernel_rfl, fs_to (fs_rowL (by decide) rcells_len rcells_clo rcells_one (Nat.le_of_ble_eq_true (by kernel_rfl)) (by kernel_rfl)) (congrArg (inlL rcells 8) (by rw [i1, List.take_of_length_le (by omega)])), Nat.le_of_ble_eq_true (by kernel_rfl)⟩
noncomputable def con_program20 : Con Try.prog 0 := Con.pure (α := (List Rec8)) 6 (fun z9 => [inlL rcells 8 z9]) (fun z9 => inlL rcells 8 z9) (fun z9 => (z9.length ≤ 1000000) ∧ (∀ r ∈ z9, smR r)) (by
  intro x y h
  simp only [List.cons.injEq, and_true, Int.natCast_inj, UInt8.toNat_inj, Value.int.injEq, Value.bool.injEq, Value.string.injEq, Value.agg.injEq, Array.mk.injEq, true_and, rcells_iff] at h
  first | exact h | (simp only [Prod.ext_iff, h, and_self, and_true, true_and]; done) | simp_all [Prod.ext_iff]) (fun _ => rfl) (fun _ => rfl) 400 (by
  rintro x ⟨p0, p1⟩
  exact program20_sc x p0 p1)
theorem con_program20_at (l : List Rec8) (h0 : l.length ≤ 1000000) (h1 : ∀ r ∈ l, smR r) (s : St) : con_program20.rel [inlL rcells 8 l] s (inlL rcells 8 l) s := con_pure l ⟨h0, h1⟩ s
end Go.Proofs.Ytfpkfcdeoiofiaa