/- Feet that meet. -/
import Derived.Test.YtekeepgjegkedaaFeet
set_option linter.unusedVariables false
set_option linter.unusedSimpArgs false
set_option linter.unnecessarySimpa false
namespace Go.Proofs.Ytekeepgjegkedaa
open Go.Ai
theorem readsR__fn : Try.cfg.fn 14 = some Try.f14 := by kernel_rfl
set_option maxHeartbeats 4000000 in
set_option maxRecDepth 100000 in
theorem readsR__sc (rs : List Key) (ss : List Span) (ws : List Key) (kt : Int) (kk : Int) (h0 : rs.length ≤ 1000000) (h1 : ss.length ≤ 1000000) (h2 : ws.length ≤ 1000000) : SC Try.prog 0 14 [.agg #[inlL kcells 2 rs, inlL scells 3 ss, inlL kcells 2 ws], .agg #[.int .i64 kt, .int .i64 kk]] (St.empty 0) fun v s' => v = .bool (decide (readsR rs ss kt kk)) ∧ s'.n ≤ 400 := by
  obtain ⟨rc, hS, hC⟩ := rc_con (sound_run Try.cfgOk 300) [con_has] (by kernel_rfl)
  have hC39 := hC con_has (.head _)
  refine sc_ice0 (N := 400) (v2 := .bool (decide (readsR rs ss kt kk))) (Q := fun v s' => FS 0 s' v (.bool (decide (readsR rs ss kt kk))) ∧ s'.n ≤ 400) ?_ (fun _ _ h => h)
  refine sc_body Try.cfgOk readsR__fn rfl ?_
  refine sk_seq ?_
  refine kK Try.cfgOk hS ?_
  refine sk_seq (sk_seq ?_)
  refine kK Try.cfgOk hS ?_
  refine sk_block ?_
  refine sk_live 42 ((fun a : Nat => [(2, .pointer (some ⟨0, 0, none⟩)), (3, .pointer (some ⟨1, 0, none⟩)), (5, .int .i64 ((a : Nat) : Int))]) 0) (by kernel_rfl) ⟨by kernel_rfl, by kernel_rfl, by kernel_rfl, trivial⟩ fun m1 => ?_
  refine sk_st ((fun a : Nat => (((St.empty 0).new (.cells [inlL kcells 2 rs, inlL scells 3 ss, inlL kcells 2 ws])).new (.cells [.int .i64 kt, .int .i64 kk]))) 0) (by kernel_rfl) ?_
  refine (sk_while (k := 2) (N := 400) (live := (fun a : Nat => [(2, .pointer (some ⟨0, 0, none⟩)), (3, .pointer (some ⟨1, 0, none⟩)), (5, .int .i64 ((a : Nat) : Int))])) (M := (fun a : Nat => (((St.empty 0).new (.cells [inlL kcells 2 rs, inlL scells 3 ss, inlL kcells 2 ws])).new (.cells [.int .i64 kt, .int .i64 kk])))) (fun a : Nat => (a ≤ ss.length) ∧ (NoHit (fun x : Span => x.1 = kt ∧ x.2.1 ≤ kk ∧ kk ≤ x.2.2) ss a)) (fun a : Nat => ss.length - a) (fun (a : Nat) (o : Out) (lv : List (Nat × Value)) (M : St) => (o = .exit 0 ∧ (¬ a < ss.length) ∧ lv = [(2, .pointer (some ⟨0, 0, none⟩)), (3, .pointer (some ⟨1, 0, none⟩)), (5, .int .i64 ((a : Nat) : Int))] ∧ M = (((St.empty 0).new (.cells [inlL kcells 2 rs, inlL scells 3 ss, inlL kcells 2 ws])).new (.cells [.int .i64 kt, .int .i64 kk]))) ∨ (o = .ret ∧ (∃ x : Span, ss[a]? = some x ∧ (x.1 = kt ∧ x.2.1 ≤ kk ∧ kk ≤ x.2.2)) ∧ lv = [(4, .bool true)] ∧ M = (((St.empty 0).new (.cells [inlL kcells 2 rs, inlL scells 3 ss, inlL kcells 2 ws])).new (.cells [.int .i64 kt, .int .i64 kk])))) (Nat.zero_le _) (fun a ha => ?_) (fun a ha => ?_) (fun a m ha => ?_) (fun a m ha => ?_) 0 m1 ?_).up ?_
  · exact ⟨by kernel_rfl, (((wf_empty 0).new _).new _), (selfs (all_cons (o := .cells [inlL kcells 2 rs, inlL scells 3 ss, inlL kcells 2 ws]) (by kernel_rfl) (OSub.cells (.cons (sub_clo rfl) (.cons (sub_clo rfl) (.cons (sub_clo rfl) .nil)))) (all_cons (o := .cells [.int .i64 kt, .int .i64 kk]) (by kernel_rfl) (OSub.cells (.cons (sub_clo rfl) (.cons (sub_clo rfl) .nil))) (all_none))))⟩
  · exact ⟨.ptr ⟨by decide, rfl⟩, .ptr ⟨by decide, rfl⟩, sub_clo rfl, trivial⟩
  · exact ⟨by kernel_rfl, by kernel_rfl, by kernel_rfl, trivial⟩
  · obtain ⟨i, ea⟩ : ∃ z, z = a := ⟨_, rfl⟩
    subst ea
    obtain ⟨i0, i1⟩ := ha
    refine sk_seq (sk_seq ?_)
    refine sk_regionL Try.cfgOk hS ?_
    refine aK 3 ?_
    refine aM (lenB Try.cfg (St.empty 0) 23 (inlL scells 3 ss)) (.int .i64 ((ss.length : Nat) : Int)) (len_inl tokC (by kernel_rfl)) ?_
    refine aT (fun h2 => ?_) (fun h2 => ?_)
    · have c3e : (decide ((((i : Nat) : Int) : Int) < ((ss.length : Nat) : Int))) = true := Eq.trans (by kernel_rfl) h2
      clear h2
      have c3 : (((i : Nat) : Int) : Int) < ((ss.length : Nat) : Int) := of_decide_eq_true c3e
      clear c3e
      refine al_nil ?_
      refine kT ?_
      refine sk_skip (sk_seq (sk_block (sk_seq ?_)))
      refine sk_regionL Try.cfgOk hS ?_
      refine aK 3 ?_
      refine aM (indexAddrV Try.cfg 23 (inlL scells 3 ss) (.int .i64 ((i : Nat) : Int))) (elt (flatL scells ss) (i * 3)) (idx_inlL tokC (by kernel_rfl) (by first | omega | simp)) ?_
      have hx4l : i < ss.length := by omega
      refine Exists.elim (get_ex hx4l) fun x4 hx4 => ?_
      clear hx4l
      refine aM (loadV Try.cfg (St.empty 0) 32 (elt (flatL scells ss) (i * 3))) (.agg #[.int .i64 x4.1, .int .i64 x4.2.1, .int .i64 x4.2.2]) (load_el tokC (by kernel_rfl) scells_len hx4) ?_
      refine aN ?_
      refine sk_seq ?_
      refine sk_regionL Try.cfgOk hS ?_
      refine aK 4 ?_
      refine aT (fun h5 => ?_) (fun h5 => ?_)
      · have c6e : ((x4.1 : Int) == kt) = true := Eq.trans (by kernel_rfl) h5
        clear h5
        have c6 : (x4.1 : Int) = kt := eq_of_beq c6e
        clear c6e
        refine aK 5 ?_
        refine aT (fun h7 => ?_) (fun h7 => ?_)
        · have c8e : (decide ((x4.2.1 : Int) ≤ kk)) = true := Eq.trans (by kernel_rfl) h7
          clear h7
          have c8 : (x4.2.1 : Int) ≤ kk := of_decide_eq_true c8e
          clear c8e
          refine aK 6 ?_
          refine aT (fun h9 => ?_) (fun h9 => ?_)
          · have c10e : (decide ((kk : Int) ≤ x4.2.2)) = true := Eq.trans (by kernel_rfl) h9
            clear h9
            have c10 : (kk : Int) ≤ x4.2.2 := of_decide_eq_true c10e
            clear c10e
            refine aN ?_
            refine kT ?_
            refine sk_seq ?_
            refine kK Try.cfgOk hS ?_
            refine sk_ret ?_
            refine .inr ⟨_, _, (fun h => by cases h), .inr ⟨rfl, ?_, rfl, rfl⟩, ⟨by kernel_rfl, ⟨by kernel_rfl, trivial⟩, ⟨sub_clo rfl, trivial⟩, Nat.le_of_ble_eq_true (by kernel_rfl), ⟨by kernel_rfl, (((wf_empty 0).new _).new _), (selfs (all_cons (o := .cells [inlL kcells 2 rs, inlL scells 3 ss, inlL kcells 2 ws]) (by kernel_rfl) (OSub.cells (.cons (sub_clo rfl) (.cons (sub_clo rfl) (.cons (sub_clo rfl) .nil)))) (all_cons (o := .cells [.int .i64 kt, .int .i64 kk]) (by kernel_rfl) (OSub.cells (.cons (sub_clo rfl) (.cons (sub_clo rfl) .nil))) (all_none))))⟩, mem_all (by kernel_rfl)⟩⟩
            · first | exact ⟨_, by assumption, by first | assumption | omega | exact Or.inl (by assumption) | exact Or.inr (by assumption) | exact fun h => h.elim (by assumption) (by assumption) | (simp_all; done)⟩ | exact ⟨_, by assumption, by first | assumption | omega | exact Or.inl (by assumption) | exact Or.inr (by assumption) | exact fun h => h.elim (by assumption) (by assumption) | (simp_all; done), rfl⟩
          · have c10e : (decide ((kk : Int) ≤ x4.2.2)) = false := Eq.trans (by kernel_rfl) h9
            clear h9
            have c10 : ¬ (kk : Int) ≤ x4.2.2 := of_decide_eq_false c10e
            clear c10e
            refine aN ?_
            refine kF ?_
            refine sk_skip ?_
            refine sk_regionL Try.cfgOk hS ?_
            refine aK 1 ?_
            refine aE (v := .int .i64 (IntKind.wrap .i64 (((i : Nat) : Int) + 1))) (.int .i64 ((i + 1 : Nat) : Int)) (congrArg (Value.int .i64) (wrap_to (by omega) (by omega))) ?_
            refine aN ?_
            refine .inl ⟨i + 1, rfl, ⟨?_, ?_⟩, ?_, ⟨by kernel_rfl, ⟨by kernel_rfl, by kernel_rfl, by kernel_rfl, trivial⟩, ⟨.ptr ⟨by decide, rfl⟩, .ptr ⟨by decide, rfl⟩, sub_clo rfl, trivial⟩, Nat.le_of_ble_eq_true (by kernel_rfl), ⟨by kernel_rfl, (((wf_empty 0).new _).new _), (selfs (all_cons (o := .cells [inlL kcells 2 rs, inlL scells 3 ss, inlL kcells 2 ws]) (by kernel_rfl) (OSub.cells (.cons (sub_clo rfl) (.cons (sub_clo rfl) (.cons (sub_clo rfl) .nil)))) (all_cons (o := .cells [.int .i64 kt, .int .i64 kk]) (by kernel_rfl) (OSub.cells (.cons (sub_clo rfl) (.cons (sub_clo rfl) .nil))) (all_none))))⟩, mem_all (by kernel_rfl)⟩⟩
            · (try dsimp only); omega
            · (try dsimp only); exact NoHit.succ (p := (fun x : Span => x.1 = kt ∧ x.2.1 ≤ kk ∧ kk ≤ x.2.2)) (by assumption) (by assumption) (by first | assumption | omega | exact fun h => h.elim (by assumption) (by assumption) | (simp_all; done))
            · omega
        · have c8e : (decide ((x4.2.1 : Int) ≤ kk)) = false := Eq.trans (by kernel_rfl) h7
          clear h7
          have c8 : ¬ (x4.2.1 : Int) ≤ kk := of_decide_eq_false c8e
          clear c8e
          refine aN ?_
          refine kF ?_
          refine sk_skip ?_
          refine sk_regionL Try.cfgOk hS ?_
          refine aK 1 ?_
          refine aE (v := .int .i64 (IntKind.wrap .i64 (((i : Nat) : Int) + 1))) (.int .i64 ((i + 1 : Nat) : Int)) (congrArg (Value.int .i64) (wrap_to (by omega) (by omega))) ?_
          refine aN ?_
          refine .inl ⟨i + 1, rfl, ⟨?_, ?_⟩, ?_, ⟨by kernel_rfl, ⟨by kernel_rfl, by kernel_rfl, by kernel_rfl, trivial⟩, ⟨.ptr ⟨by decide, rfl⟩, .ptr ⟨by decide, rfl⟩, sub_clo rfl, trivial⟩, Nat.le_of_ble_eq_true (by kernel_rfl), ⟨by kernel_rfl, (((wf_empty 0).new _).new _), (selfs (all_cons (o := .cells [inlL kcells 2 rs, inlL scells 3 ss, inlL kcells 2 ws]) (by kernel_rfl) (OSub.cells (.cons (sub_clo rfl) (.cons (sub_clo rfl) (.cons (sub_clo rfl) .nil)))) (all_cons (o := .cells [.int .i64 kt, .int .i64 kk]) (by kernel_rfl) (OSub.cells (.cons (sub_clo rfl) (.cons (sub_clo rfl) .nil))) (all_none))))⟩, mem_all (by kernel_rfl)⟩⟩
          · (try dsimp only); omega
          · (try dsimp only); exact NoHit.succ (p := (fun x : Span => x.1 = kt ∧ x.2.1 ≤ kk ∧ kk ≤ x.2.2)) (by assumption) (by assumption) (by first | assumption | omega | exact fun h => h.elim (by assumption) (by assumption) | (simp_all; done))
          · omega
      · have c6e : ((x4.1 : Int) == kt) = false := Eq.trans (by kernel_rfl) h5
        clear h5
        have c6 : ¬ (x4.1 : Int) = kt := ne_of_beq_false c6e
        clear c6e
        refine aN ?_
        refine kF ?_
        refine sk_skip ?_
        refine sk_regionL Try.cfgOk hS ?_
        refine aK 1 ?_
        refine aE (v := .int .i64 (IntKind.wrap .i64 (((i : Nat) : Int) + 1))) (.int .i64 ((i + 1 : Nat) : Int)) (congrArg (Value.int .i64) (wrap_to (by omega) (by omega))) ?_
        refine aN ?_
        refine .inl ⟨i + 1, rfl, ⟨?_, ?_⟩, ?_, ⟨by kernel_rfl, ⟨by kernel_rfl, by kernel_rfl, by kernel_rfl, trivial⟩, ⟨.ptr ⟨by decide, rfl⟩, .ptr ⟨by decide, rfl⟩, sub_clo rfl, trivial⟩, Nat.le_of_ble_eq_true (by kernel_rfl), ⟨by kernel_rfl, (((wf_empty 0).new _).new _), (selfs (all_cons (o := .cells [inlL kcells 2 rs, inlL scells 3 ss, inlL kcells 2 ws]) (by kernel_rfl) (OSub.cells (.cons (sub_clo rfl) (.cons (sub_clo rfl) (.cons (sub_clo rfl) .nil)))) (all_cons (o := .cells [.int .i64 kt, .int .i64 kk]) (by kernel_rfl) (OSub.cells (.cons (sub_clo rfl) (.cons (sub_clo rfl) .nil))) (all_none))))⟩, mem_all (by kernel_rfl)⟩⟩
        · (try dsimp only); omega
        · (try dsimp only); exact NoHit.succ (p := (fun x : Span => x.1 = kt ∧ x.2.1 ≤ kk ∧ kk ≤ x.2.2)) (by assumption) (by assumption) (by first | assumption | omega | exact fun h => h.elim (by assumption) (by assumption) | (simp_all; done))
        · omega
    · have c3e : (decide ((((i : Nat) : Int) : Int) < ((ss.length : Nat) : Int))) = false := Eq.trans (by kernel_rfl) h2
      clear h2
      have c3 : ¬ (((i : Nat) : Int) : Int) < ((ss.length : Nat) : Int) := of_decide_eq_false c3e
      clear c3e
      refine al_nil ?_
      refine kF ?_
      refine sk_exit ?_
      dsimp only
      refine .inr ⟨_, _, (fun h => by cases h), .inl ⟨rfl, ?_, rfl, rfl⟩, ⟨by kernel_rfl, ⟨by kernel_rfl, by kernel_rfl, by kernel_rfl, trivial⟩, ⟨.ptr ⟨by decide, rfl⟩, .ptr ⟨by decide, rfl⟩, sub_clo rfl, trivial⟩, Nat.le_of_ble_eq_true (by kernel_rfl), ⟨by kernel_rfl, (((wf_empty 0).new _).new _), (selfs (all_cons (o := .cells [inlL kcells 2 rs, inlL scells 3 ss, inlL kcells 2 ws]) (by kernel_rfl) (OSub.cells (.cons (sub_clo rfl) (.cons (sub_clo rfl) (.cons (sub_clo rfl) .nil)))) (all_cons (o := .cells [.int .i64 kt, .int .i64 kk]) (by kernel_rfl) (OSub.cells (.cons (sub_clo rfl) (.cons (sub_clo rfl) .nil))) (all_none))))⟩, mem_all (by kernel_rfl)⟩⟩
      · omega
  · exact ⟨by ((try dsimp only); first | done | (omega)), by ((try dsimp only); first | done | (exact NoHit.zero))⟩
  rintro o e1 s1 ⟨a, lv1, M1, m1, ha, (⟨rfl, hx, rfl, rfl⟩ | ⟨rfl, hx, rfl, rfl⟩), rfl, rfl⟩
  ·
    obtain ⟨i, ea⟩ : ∃ z, z = a := ⟨_, rfl⟩
    subst ea
    obtain ⟨i0, i1⟩ := ha
    dsimp only
    try rw [if_pos rfl]
    refine sk_seq ?_
    refine sk_regionL Try.cfgOk hS ?_
    refine aK 3 ?_
    refine aB 39 [inlL kcells 2 rs, .agg #[.int .i64 kt, .int .i64 kk]] (decide (∃ x : Key, x ∈ rs ∧ (x.1 = kt ∧ x.2 = kk))) _ rfl (hC39 _ _ _ _ (con_has_at rs kt kk (by first | omega | (simp; done) | (simp; omega)) _)) (fun h11 => ?_) (fun h11 => ?_)
    · have c12 : ∃ x : Key, x ∈ rs ∧ (x.1 = kt ∧ x.2 = kk) := of_decide_eq_true h11
      clear h11
      refine aN ?_
      refine sk_ret ?_
      exact ⟨[.bool true], by kernel_rfl, fs_to (fs_clo rfl) (congrArg Value.bool (by first | (obtain ⟨x, h1, h2⟩ := hx; exact (decide_eq_true (Or.inl ⟨x, List.mem_of_getElem? h1, h2⟩)).symm) | exact (decide_eq_true (Or.inr (by assumption))).symm | exact (decide_eq_false (by rintro (h | h); exact NoHit.none (by assumption) hx h; contradiction)).symm)), Nat.le_of_ble_eq_true (by kernel_rfl)⟩
    · have c12 : ¬ (∃ x : Key, x ∈ rs ∧ (x.1 = kt ∧ x.2 = kk)) := of_decide_eq_false h11
      clear h11
      refine aN ?_
      refine sk_ret ?_
      exact ⟨[.bool false], by kernel_rfl, fs_to (fs_clo rfl) (congrArg Value.bool (by first | (obtain ⟨x, h1, h2⟩ := hx; exact (decide_eq_true (Or.inl ⟨x, List.mem_of_getElem? h1, h2⟩)).symm) | exact (decide_eq_true (Or.inr (by assumption))).symm | exact (decide_eq_false (by rintro (h | h); exact NoHit.none (by assumption) hx h; contradiction)).symm)), Nat.le_of_ble_eq_true (by kernel_rfl)⟩
  ·
    obtain ⟨i, ea⟩ : ∃ z, z = a := ⟨_, rfl⟩
    subst ea
    obtain ⟨i0, i1⟩ := ha
    dsimp only
    exact ⟨[.bool true], by kernel_rfl, fs_to (fs_clo rfl) (congrArg Value.bool (by first | (obtain ⟨x, h1, h2⟩ := hx; exact (decide_eq_true (Or.inl ⟨x, List.mem_of_getElem? h1, h2⟩)).symm) | exact (decide_eq_true (Or.inr (by assumption))).symm | exact (decide_eq_false (by rintro (h | h); exact NoHit.none (by assumption) hx h; contradiction)).symm)), Nat.le_of_ble_eq_true (by kernel_rfl)⟩
noncomputable def con_readsR_ : Con Try.prog 0 := Con.pure (α := (List Key) × (List Span) × (List Key) × Int × Int) 14 (fun z9 => [.agg #[inlL kcells 2 z9.1, inlL scells 3 z9.2.1, inlL kcells 2 z9.2.2.1], .agg #[.int .i64 z9.2.2.2.1, .int .i64 z9.2.2.2.2]]) (fun z9 => .bool (decide (readsR z9.1 z9.2.1 z9.2.2.2.1 z9.2.2.2.2))) (fun z9 => (z9.1.length ≤ 1000000) ∧ (z9.2.1.length ≤ 1000000) ∧ (z9.2.2.1.length ≤ 1000000)) (by
  rintro ⟨a0, a1, a2, a3, a4⟩ ⟨b0, b1, b2, b3, b4⟩ h
  simp only [List.cons.injEq, and_true, Int.natCast_inj, UInt8.toNat_inj, Value.int.injEq, Value.bool.injEq, Value.string.injEq, Value.agg.injEq, Array.mk.injEq, true_and, kcells_iff, scells_iff] at h
  first | exact h | (simp only [Prod.ext_iff, h, and_self, and_true, true_and]; done) | simp_all [Prod.ext_iff]) (fun _ => rfl) (fun _ => rfl) 400 (by
  rintro ⟨a0, a1, a2, a3, a4⟩ ⟨p0, p1, p2⟩
  exact readsR__sc a0 a1 a2 a3 a4 p0 p1 p2)
theorem con_readsR__at (rs : List Key) (ss : List Span) (ws : List Key) (kt : Int) (kk : Int) (h0 : rs.length ≤ 1000000) (h1 : ss.length ≤ 1000000) (h2 : ws.length ≤ 1000000) (s : St) : con_readsR_.rel [.agg #[inlL kcells 2 rs, inlL scells 3 ss, inlL kcells 2 ws], .agg #[.int .i64 kt, .int .i64 kk]] s (.bool (decide (readsR rs ss kt kk))) s := con_pure (rs, ss, ws, kt, kk) ⟨h0, h1, h2⟩ s
end Go.Proofs.Ytekeepgjegkedaa