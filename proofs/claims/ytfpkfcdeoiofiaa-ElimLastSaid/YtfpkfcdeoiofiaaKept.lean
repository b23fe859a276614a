/- Which writes are kept. -/
import Derived.Test.YtfpkfcdeoiofiaaGoodRec
set_option linter.unusedVariables false
set_option linter.unusedSimpArgs false
set_option linter.unnecessarySimpa false
namespace Go.Proofs.Ytfpkfcdeoiofiaa
open Go.Ai
theorem map_snoc {α β : Type} {f : α → β} {l : List α} {i : Nat} {x : α} (hx : l[i]? = some x) : (l.take (i + 1)).map f = (l.take i).map f ++ [f x] := by
  rw [List.take_add_one, hx, List.map_append]
  rfl
theorem take_one {α : Type} {l : List α} {i : Nat} {x : α} (hx : l[i]? = some x) : l.take (i + 1) = l.take i ++ [x] := by rw [List.take_add_one, hx]; rfl
abbrev smR (r : Rec8) : Prop := r.2.2.2.1.length ≤ 1000 ∧ r.2.2.2.2.1.length ≤ 1000 ∧ r.2.2.2.2.2.1.length ≤ 1000 ∧ r.2.2.2.2.2.2.1.length ≤ 1000 ∧ r.2.2.2.2.2.2.2.length ≤ 1000
abbrev smF (f : Foot) : Prop := f.1.length ≤ 1000 ∧ f.2.1.length ≤ 1000 ∧ f.2.2.length ≤ 1000
theorem touch_small {r : Rec8} (h : smR r) : smF (touchJ r) := by
  have key : smF (touchF r) := by
    unfold touchF
    split
    · exact ⟨Nat.zero_le _, Nat.zero_le _, by rw [List.length_map]; exact h.2.2.2.2⟩
    · exact ⟨h.2.1, h.2.2.1, h.2.2.2.1⟩
  have e1 : flatR [touchF r] = (touchF r).1 := by simp [flatR]
  have e2 : flatS [touchF r] = (touchF r).2.1 := by simp [flatS]
  have e3 : flatW [touchF r] = (touchF r).2.2 := by simp [flatW]
  unfold touchJ jn
  refine ⟨Nat.le_trans (kj_len _) ?_, Nat.le_trans (sj_len _) ?_, Nat.le_trans (kj_len _) ?_⟩
  · rw [e1]; exact key.1
  · rw [e2]; exact key.2.1
  · rw [e3]; exact key.2.2
theorem feet_small {l : List Rec8} (h : ∀ r ∈ l, smR r) : ∀ f ∈ feetL l, smF f := by
  intro f hf
  obtain ⟨r, hr, rfl⟩ := List.mem_map.1 hf
  exact touch_small (h r hr)
theorem lost_fn : Try.cfg.fn 18 = some Try.f18 := by kernel_rfl
set_option maxHeartbeats 4000000 in
set_option maxRecDepth 100000 in
theorem lost_sc (kt : Int) (kk : Int) (l : List Foot) (h0 : l.length ≤ 1000000) (h1 : ∀ f ∈ l, smF f) : SC Try.prog 0 18 [.agg #[.int .i64 kt, .int .i64 kk], inlL fcells 3 l] (St.empty 0) fun v s' => v = .bool (tf (lostB (kt, kk) l)) ∧ s'.n ≤ 400 := by
  obtain ⟨rc, hS, hC⟩ := rc_con (sound_run Try.cfgOk 300) [con_readsF, con_writesP] (by kernel_rfl)
  have hC28 := hC con_readsF (.head _)
  have hC29 := hC con_writesP (.tail _ (.head _))
  refine sc_ice0 (N := 400) (v2 := .bool (tf (lostB (kt, kk) l))) (Q := fun v s' => FS 0 s' v (.bool (tf (lostB (kt, kk) l))) ∧ s'.n ≤ 400) ?_ (fun _ _ h => h)
  refine sc_body Try.cfgOk lost_fn rfl ?_
  refine sk_seq ?_
  refine kK Try.cfgOk hS ?_
  refine sk_seq (sk_seq ?_)
  refine sk_regionL Try.cfgOk hS ?_
  refine aK 1 ?_
  refine aM (lenB Try.cfg (St.empty 0) 49 (inlL fcells 3 l)) (.int .i64 ((l.length : Nat) : Int)) (len_inl tokC (by kernel_rfl)) ?_
  refine aN ?_
  refine sk_block ?_
  refine sk_live 22 ((fun a : Nat => [(2, .pointer (some ⟨0, 0, none⟩)), (7, inlL fcells 3 l), (8, .int .i64 ((l.length : Nat) : Int)), (9, .int .i64 ((a : Nat) : Int))]) 0) (by kernel_rfl) ⟨by kernel_rfl, by kernel_rfl, by kernel_rfl, by kernel_rfl, trivial⟩ fun m1 => ?_
  refine sk_st ((fun a : Nat => ((St.empty 0).new (.cells [.int .i64 kt, .int .i64 kk]))) 0) (by kernel_rfl) ?_
  refine (sk_while (k := 1) (N := 400) (live := (fun a : Nat => [(2, .pointer (some ⟨0, 0, none⟩)), (7, inlL fcells 3 l), (8, .int .i64 ((l.length : Nat) : Int)), (9, .int .i64 ((a : Nat) : Int))])) (M := (fun a : Nat => ((St.empty 0).new (.cells [.int .i64 kt, .int .i64 kk])))) (fun a : Nat => (a ≤ l.length) ∧ (lostB (kt, kk) l ↔ lostB (kt, kk) (l.drop a))) (fun a : Nat => l.length - a) (fun (a : Nat) (o : Out) (lv : List (Nat × Value)) (M : St) => (o = .exit 0 ∧ (¬ lostB (kt, kk) l) ∧ lv = [(2, .pointer (some ⟨0, 0, none⟩)), (7, inlL fcells 3 l), (8, .int .i64 ((l.length : Nat) : Int)), (9, .int .i64 ((a : Nat) : Int))] ∧ M = ((St.empty 0).new (.cells [.int .i64 kt, .int .i64 kk]))) ∨ (o = .ret ∧ ∃ v : Bool, (v = tf (lostB (kt, kk) l)) ∧ lv = [(4, .bool v)] ∧ M = ((St.empty 0).new (.cells [.int .i64 kt, .int .i64 kk])))) (Nat.zero_le _) (fun a ha => ?_) (fun a ha => ?_) (fun a m ha => ?_) (fun a m ha => ?_) 0 m1 ?_).up ?_
  · exact ⟨by kernel_rfl, ((wf_empty 0).new _), (selfs (all_cons (o := .cells [.int .i64 kt, .int .i64 kk]) (by kernel_rfl) (OSub.cells (.cons (sub_clo rfl) (.cons (sub_clo rfl) .nil))) (all_none)))⟩
  · exact ⟨.ptr ⟨by decide, rfl⟩, sub_clo rfl, sub_clo rfl, sub_clo rfl, trivial⟩
  · exact ⟨by kernel_rfl, by kernel_rfl, by kernel_rfl, by kernel_rfl, trivial⟩
  · obtain ⟨i, ea⟩ : ∃ z, z = a := ⟨_, rfl⟩
    subst ea
    obtain ⟨i0, i1⟩ := ha
    refine sk_seq ?_
    refine sk_regionL Try.cfgOk hS ?_
    refine aT (fun h2 => ?_) (fun h2 => ?_)
    · have c3e : (decide ((((i : Nat) : Int) : Int) < ((l.length : Nat) : Int))) = true := Eq.trans (by kernel_rfl) h2
      clear h2
      have c3 : (((i : Nat) : Int) : Int) < ((l.length : Nat) : Int) := of_decide_eq_true c3e
      clear c3e
      refine al_nil ?_
      refine sk_seq ?_
      refine kT ?_
      refine sk_skip (sk_seq (sk_block (sk_seq ?_)))
      refine sk_regionL Try.cfgOk hS ?_
      refine aM (indexAddrV Try.cfg 49 (inlL fcells 3 l) (.int .i64 ((i : Nat) : Int))) (elt (flatL fcells l) (i * 3)) (idx_inlL tokC (by kernel_rfl) (by first | omega | simp)) ?_
      have hx4l : i < l.length := by omega
      refine Exists.elim (get_ex hx4l) fun x4 hx4 => ?_
      clear hx4l
      refine aM (loadV Try.cfg (St.empty 0) 35 (elt (flatL fcells l) (i * 3))) (.agg #[inlL kcells 2 x4.1, inlL scells 3 x4.2.1, inlL kcells 2 x4.2.2]) (load_el tokC (by kernel_rfl) fcells_len hx4) ?_
      refine aN ?_
      refine sk_block (sk_seq ?_)
      refine sk_regionL Try.cfgOk hS ?_
      refine aK 2 ?_
      refine aB 28 [.agg #[inlL kcells 2 x4.1, inlL scells 3 x4.2.1, inlL kcells 2 x4.2.2], .agg #[.int .i64 kt, .int .i64 kk]] (decide (readsP x4.1 x4.2.1 kt kk)) _ rfl (hC28 _ _ _ _ (con_readsF_at x4.1 x4.2.1 x4.2.2 kt kk (by first | omega | (have q := h1 _ (List.mem_of_getElem? (by assumption)); unfold smF at q; omega)) (by first | omega | (have q := h1 _ (List.mem_of_getElem? (by assumption)); unfold smF at q; omega)) _)) (fun h5 => ?_) (fun h5 => ?_)
      · have c6 : readsP x4.1 x4.2.1 kt kk := of_decide_eq_true h5
        clear h5
        refine aN ?_
        refine kT ?_
        refine sk_seq ?_
        refine kK Try.cfgOk hS ?_
        refine sk_ret ?_
        refine .inr ⟨_, _, (fun h => by cases h), .inr ⟨rfl, false, ?_, rfl, rfl⟩, ⟨by kernel_rfl, ⟨by kernel_rfl, trivial⟩, ⟨sub_clo rfl, trivial⟩, Nat.le_of_ble_eq_true (by kernel_rfl), ⟨by kernel_rfl, ((wf_empty 0).new _), (selfs (all_cons (o := .cells [.int .i64 kt, .int .i64 kk]) (by kernel_rfl) (OSub.cells (.cons (sub_clo rfl) (.cons (sub_clo rfl) .nil))) (all_none)))⟩, mem_all (by kernel_rfl)⟩⟩
        · first | exact (tf_false (lost_no i1 (by assumption) (by assumption))).symm | exact (tf_true (lost_yes i1 (by assumption) (by assumption) (by assumption))).symm
      · have c6 : ¬ (readsP x4.1 x4.2.1 kt kk) := of_decide_eq_false h5
        clear h5
        refine aN ?_
        refine kF ?_
        refine sk_seq ?_
        refine sk_regionL Try.cfgOk hS ?_
        refine aK 2 ?_
        refine aB 29 [.agg #[inlL kcells 2 x4.1, inlL scells 3 x4.2.1, inlL kcells 2 x4.2.2], .agg #[.int .i64 kt, .int .i64 kk]] (decide (hasK x4.2.2 kt kk)) _ rfl (hC29 _ _ _ _ (con_writesP_at x4.1 x4.2.1 x4.2.2 kt kk (by first | omega | (have q := h1 _ (List.mem_of_getElem? (by assumption)); unfold smF at q; omega)) _)) (fun h7 => ?_) (fun h7 => ?_)
        · have c8 : hasK x4.2.2 kt kk := of_decide_eq_true h7
          clear h7
          refine aN ?_
          refine kT ?_
          refine sk_seq ?_
          refine kK Try.cfgOk hS ?_
          refine sk_ret ?_
          refine .inr ⟨_, _, (fun h => by cases h), .inr ⟨rfl, true, ?_, rfl, rfl⟩, ⟨by kernel_rfl, ⟨by kernel_rfl, trivial⟩, ⟨sub_clo rfl, trivial⟩, Nat.le_of_ble_eq_true (by kernel_rfl), ⟨by kernel_rfl, ((wf_empty 0).new _), (selfs (all_cons (o := .cells [.int .i64 kt, .int .i64 kk]) (by kernel_rfl) (OSub.cells (.cons (sub_clo rfl) (.cons (sub_clo rfl) .nil))) (all_none)))⟩, mem_all (by kernel_rfl)⟩⟩
          · first | exact (tf_false (lost_no i1 (by assumption) (by assumption))).symm | exact (tf_true (lost_yes i1 (by assumption) (by assumption) (by assumption))).symm
        · have c8 : ¬ (hasK x4.2.2 kt kk) := of_decide_eq_false h7
          clear h7
          refine aN ?_
          refine kF ?_
          refine sk_skip ?_
          refine sk_regionL Try.cfgOk hS ?_
          refine aE (v := .int .i64 (IntKind.wrap .i64 (((i : Nat) : Int) + 1))) (.int .i64 ((i + 1 : Nat) : Int)) (congrArg (Value.int .i64) (wrap_to (by omega) (by omega))) ?_
          refine aN ?_
          refine .inl ⟨i + 1, rfl, ⟨?_, ?_⟩, ?_, ⟨by kernel_rfl, ⟨by kernel_rfl, by kernel_rfl, by kernel_rfl, by kernel_rfl, trivial⟩, ⟨.ptr ⟨by decide, rfl⟩, sub_clo rfl, sub_clo rfl, sub_clo rfl, trivial⟩, Nat.le_of_ble_eq_true (by kernel_rfl), ⟨by kernel_rfl, ((wf_empty 0).new _), (selfs (all_cons (o := .cells [.int .i64 kt, .int .i64 kk]) (by kernel_rfl) (OSub.cells (.cons (sub_clo rfl) (.cons (sub_clo rfl) .nil))) (all_none)))⟩, mem_all (by kernel_rfl)⟩⟩
          · (try dsimp only); omega
          · (try dsimp only); exact lost_next i1 (by assumption) (by assumption) (by assumption)
          · omega
    · have c3e : (decide ((((i : Nat) : Int) : Int) < ((l.length : Nat) : Int))) = false := Eq.trans (by kernel_rfl) h2
      clear h2
      have c3 : ¬ (((i : Nat) : Int) : Int) < ((l.length : Nat) : Int) := of_decide_eq_false c3e
      clear c3e
      refine al_nil ?_
      refine sk_seq ?_
      refine kF ?_
      refine sk_exit ?_
      dsimp only
      refine .inr ⟨_, _, (fun h => by cases h), .inl ⟨rfl, ?_, rfl, rfl⟩, ⟨by kernel_rfl, ⟨by kernel_rfl, by kernel_rfl, by kernel_rfl, by kernel_rfl, trivial⟩, ⟨.ptr ⟨by decide, rfl⟩, sub_clo rfl, sub_clo rfl, sub_clo rfl, trivial⟩, Nat.le_of_ble_eq_true (by kernel_rfl), ⟨by kernel_rfl, ((wf_empty 0).new _), (selfs (all_cons (o := .cells [.int .i64 kt, .int .i64 kk]) (by kernel_rfl) (OSub.cells (.cons (sub_clo rfl) (.cons (sub_clo rfl) .nil))) (all_none)))⟩, mem_all (by kernel_rfl)⟩⟩
      · exact lost_end i1 (by omega)
  · exact ⟨by ((try dsimp only); first | done | (omega)), by ((try dsimp only); first | done | (exact Iff.rfl))⟩
  rintro o e1 s1 ⟨a, lv1, M1, m1, ha, (⟨rfl, hx, rfl, rfl⟩ | ⟨rfl, v, hx, rfl, rfl⟩), rfl, rfl⟩
  ·
    obtain ⟨i, ea⟩ : ∃ z, z = a := ⟨_, rfl⟩
    subst ea
    obtain ⟨i0, i1⟩ := ha
    dsimp only
    try rw [if_pos rfl]
    refine sk_seq ?_
    refine kK Try.cfgOk hS ?_
    refine sk_ret ?_
    exact ⟨[.bool false], by kernel_rfl, fs_to (fs_clo rfl) (congrArg Value.bool (by first | exact hx.symm | exact (tf_false hx).symm | exact hx)), Nat.le_of_ble_eq_true (by kernel_rfl)⟩
  ·
    obtain ⟨i, ea⟩ : ∃ z, z = a := ⟨_, rfl⟩
    subst ea
    obtain ⟨i0, i1⟩ := ha
    dsimp only
    exact ⟨[.bool v], by kernel_rfl, fs_to (fs_clo rfl) (congrArg Value.bool (by first | exact hx.symm | exact (tf_false hx).symm | exact hx)), Nat.le_of_ble_eq_true (by kernel_rfl)⟩
noncomputable def con_lost : Con Try.prog 0 := Con.pure (α := Int × Int × (List Foot)) 18 (fun z9 => [.agg #[.int .i64 z9.1, .int .i64 z9.2.1], inlL fcells 3 z9.2.2]) (fun z9 => .bool (tf (lostB (z9.1, z9.2.1) z9.2.2))) (fun z9 => (z9.2.2.length ≤ 1000000) ∧ (∀ f ∈ z9.2.2, smF f)) (by
  rintro ⟨a0, a1, a2⟩ ⟨b0, b1, b2⟩ h
  simp only [List.cons.injEq, and_true, Int.natCast_inj, UInt8.toNat_inj, Value.int.injEq, Value.bool.injEq, Value.string.injEq, Value.agg.injEq, Array.mk.injEq, true_and, fcells_iff] at h
  first | exact h | (simp only [Prod.ext_iff, h, and_self, and_true, true_and]; done) | simp_all [Prod.ext_iff]) (fun _ => rfl) (fun _ => rfl) 400 (by
  rintro ⟨a0, a1, a2⟩ ⟨p0, p1⟩
  exact lost_sc a0 a1 a2 p0 p1)
theorem con_lost_at (kt : Int) (kk : Int) (l : List Foot) (h0 : l.length ≤ 1000000) (h1 : ∀ f ∈ l, smF f) (s : St) : con_lost.rel [.agg #[.int .i64 kt, .int .i64 kk], inlL fcells 3 l] s (.bool (tf (lostB (kt, kk) l))) s := con_pure (kt, kk, l) ⟨h0, h1⟩ s
theorem kept_fn : Try.cfg.fn 12 = some Try.f12 := by kernel_rfl
set_option maxHeartbeats 4000000 in
set_option maxRecDepth 100000 in
theorem kept_sc (sq : Int) (vl : Bool) (fu : Int) (co : List Code) (rs : List Key) (ss : List Span) (ws : List Key) (wr : List Wr) (be : List Foot) (h0 : wr.length ≤ 1000000) (h1 : be.length ≤ 1000000) (h2 : ∀ f ∈ be, smF f) : SC Try.prog 0 12 [.agg #[.int .i64 sq, .bool vl, .int .i64 fu, inlL ccells 6 co, inlL kcells 2 rs, inlL scells 3 ss, inlL kcells 2 ws, inlL wcells 4 wr], inlL fcells 3 be] (St.empty 0) fun v s' => v = inlL wcells 4 (keptW (sq, vl, fu, co, rs, ss, ws, wr) be) ∧ s'.n ≤ 400 := by
  obtain ⟨rc, hS, hC⟩ := rc_con (sound_run Try.cfgOk 300) [con_lost] (by kernel_rfl)
  have hC18 := hC con_lost (.head _)
  cases vl
  ·
    refine sc_ice0 (N := 400) (v2 := inlL wcells 4 (keptW (sq, false, fu, co, rs, ss, ws, wr) be)) (Q := fun v s' => FS 0 s' v (inlL wcells 4 (keptW (sq, false, fu, co, rs, ss, ws, wr) be)) ∧ s'.n ≤ 400) ?_ (fun _ _ h => h)
    refine sc_body Try.cfgOk kept_fn rfl ?_
    refine sk_seq ?_
    refine kK Try.cfgOk hS ?_
    refine sk_seq ?_
    refine kK Try.cfgOk hS ?_
    refine sk_seq (sk_seq ?_)
    refine kK Try.cfgOk hS ?_
    refine kT ?_
    refine sk_seq ?_
    refine kK Try.cfgOk hS ?_
    refine sk_ret ?_
    exact ⟨[.slice none 0 0], by kernel_rfl, fs_to (fs_nilL (f := wcells) (sz := 4) (by decide)) (congrArg (inlL wcells 4) (by first | rfl | (rw [i1, List.take_of_length_le (by omega)]; rfl))), Nat.le_of_ble_eq_true (by kernel_rfl)⟩
  ·
    refine sc_ice0 (N := 400) (v2 := inlL wcells 4 (keptW (sq, true, fu, co, rs, ss, ws, wr) be)) (Q := fun v s' => FS 0 s' v (inlL wcells 4 (keptW (sq, true, fu, co, rs, ss, ws, wr) be)) ∧ s'.n ≤ 400) ?_ (fun _ _ h => h)
    refine sc_body Try.cfgOk kept_fn rfl ?_
    refine sk_seq ?_
    refine kK Try.cfgOk hS ?_
    refine sk_seq ?_
    refine kK Try.cfgOk hS ?_
    refine sk_seq (sk_seq ?_)
    refine kK Try.cfgOk hS ?_
    refine kF ?_
    refine sk_skip (sk_seq (sk_seq ?_))
    refine sk_regionL Try.cfgOk hS ?_
    refine aK 2 ?_
    refine aM (lenB Try.cfg (St.empty 0) 36 (inlL wcells 4 wr)) (.int .i64 ((wr.length : Nat) : Int)) (len_inl tokC (by kernel_rfl)) ?_
    refine aN ?_
    refine sk_block ?_
    refine sk_live 29 [(1, inlL fcells 3 be), (5, .slice none 0 0), (12, inlL wcells 4 wr), (13, .int .i64 ((wr.length : Nat) : Int)), (14, .int .i64 0)] (by kernel_rfl) ⟨by kernel_rfl, by kernel_rfl, by kernel_rfl, by kernel_rfl, by kernel_rfl, trivial⟩ fun m1 => ?_
    refine sk_st ((St.empty 0).new (.cells [.int .i64 sq, .bool true, .int .i64 fu, inlL ccells 6 co, inlL kcells 2 rs, inlL scells 3 ss, inlL kcells 2 ws, inlL wcells 4 wr])) (by kernel_rfl) ?_
    refine virt_at (n := 29) (t := 5) (sz := 4) [(1, inlL fcells 3 be), (5, slL 1 4 0), (12, inlL wcells 4 wr), (13, .int .i64 ((wr.length : Nat) : Int)), (14, .int .i64 0)] (by decide) ((wf_empty 0).new _) (by kernel_rfl) (by kernel_rfl) (by kernel_rfl) fun m1v => ?_
    refine sk_live 29 ((fun a : Nat × (List Wr) => [(1, inlL fcells 3 be), (5, slL 1 4 a.2.length), (12, inlL wcells 4 wr), (13, .int .i64 ((wr.length : Nat) : Int)), (14, .int .i64 ((a.1 : Nat) : Int))]) (0, ([] : List Wr))) (by kernel_rfl) ⟨by kernel_rfl, by kernel_rfl, by kernel_rfl, by kernel_rfl, by kernel_rfl, trivial⟩ fun m2 => ?_
    refine sk_st ((fun a : Nat × (List Wr) => (((St.empty 0).new (.cells [.int .i64 sq, .bool true, .int .i64 fu, inlL ccells 6 co, inlL kcells 2 rs, inlL scells 3 ss, inlL kcells 2 ws, inlL wcells 4 wr])).new (rowL wcells a.2))) (0, ([] : List Wr))) (by kernel_rfl) ?_
    refine (sk_while (k := 2) (N := 400) (live := (fun a : Nat × (List Wr) => [(1, inlL fcells 3 be), (5, slL 1 4 a.2.length), (12, inlL wcells 4 wr), (13, .int .i64 ((wr.length : Nat) : Int)), (14, .int .i64 ((a.1 : Nat) : Int))])) (M := (fun a : Nat × (List Wr) => (((St.empty 0).new (.cells [.int .i64 sq, .bool true, .int .i64 fu, inlL ccells 6 co, inlL kcells 2 rs, inlL scells 3 ss, inlL kcells 2 ws, inlL wcells 4 wr])).new (rowL wcells a.2)))) (fun a : Nat × (List Wr) => (a.1 ≤ wr.length) ∧ (a.2 = (wr.take a.1).filter (fun w => !tf (lostB (wk w) be))) ∧ (a.2.length ≤ a.1)) (fun a : Nat × (List Wr) => wr.length - a.1) (fun (a : Nat × (List Wr)) (o : Out) (lv : List (Nat × Value)) (M : St) => (o = .exit 0 ∧ (a.1 = wr.length) ∧ lv = [(1, inlL fcells 3 be), (5, slL 1 4 a.2.length), (12, inlL wcells 4 wr), (13, .int .i64 ((wr.length : Nat) : Int)), (14, .int .i64 ((a.1 : Nat) : Int))] ∧ M = (((St.empty 0).new (.cells [.int .i64 sq, .bool true, .int .i64 fu, inlL ccells 6 co, inlL kcells 2 rs, inlL scells 3 ss, inlL kcells 2 ws, inlL wcells 4 wr])).new (rowL wcells a.2)))) (Nat.zero_le _) (fun a ha => ?_) (fun a ha => ?_) (fun a m ha => ?_) (fun a m ha => ?_) (0, ([] : List Wr)) m2 ?_).up ?_
    · exact ⟨by kernel_rfl, (((wf_empty 0).new _).new _), (selfs (all_cons (o := .cells [.int .i64 sq, .bool true, .int .i64 fu, inlL ccells 6 co, inlL kcells 2 rs, inlL scells 3 ss, inlL kcells 2 ws, inlL wcells 4 wr]) (by kernel_rfl) (OSub.cells (.cons (sub_clo rfl) (.cons (sub_clo rfl) (.cons (sub_clo rfl) (.cons (sub_clo rfl) (.cons (sub_clo rfl) (.cons (sub_clo rfl) (.cons (sub_clo rfl) (.cons (sub_clo rfl) .nil))))))))) (all_cons (o := rowL wcells a.2) (by kernel_rfl) (OSub.arr (subs_clo (flatL_clo wcells_clo))) (all_none))))⟩
    · exact ⟨sub_clo rfl, .slice ⟨by decide, rfl⟩, sub_clo rfl, sub_clo rfl, sub_clo rfl, trivial⟩
    · exact ⟨by kernel_rfl, by kernel_rfl, by kernel_rfl, by kernel_rfl, by kernel_rfl, trivial⟩
    · obtain ⟨i, o⟩ := a
      obtain ⟨i0, i1, i2⟩ := ha
      dsimp only at i0 i1 i2
      refine sk_seq ?_
      refine sk_regionL Try.cfgOk hS ?_
      refine aT (fun h3 => ?_) (fun h3 => ?_)
      · have c4e : (decide ((((i : Nat) : Int) : Int) < ((wr.length : Nat) : Int))) = true := Eq.trans (by kernel_rfl) h3
        clear h3
        have c4 : (((i : Nat) : Int) : Int) < ((wr.length : Nat) : Int) := of_decide_eq_true c4e
        clear c4e
        refine al_nil ?_
        refine sk_seq ?_
        refine kT ?_
        refine sk_skip (sk_seq (sk_block (sk_seq ?_)))
        refine sk_regionL Try.cfgOk hS ?_
        refine aM (indexAddrV Try.cfg 36 (inlL wcells 4 wr) (.int .i64 ((i : Nat) : Int))) (elt (flatL wcells wr) (i * 4)) (idx_inlL tokC (by kernel_rfl) (by first | omega | simp)) ?_
        have hx5l : i < wr.length := by omega
        refine Exists.elim (get_ex hx5l) fun x5 hx5 => ?_
        clear hx5l
        refine aM (loadV Try.cfg (St.empty 0) 45 (elt (flatL wcells wr) (i * 4))) (.agg #[.int .i64 x5.1, .int .i64 x5.2.1, .int .i64 x5.2.2.1, .bool x5.2.2.2]) (load_el tokC (by kernel_rfl) wcells_len hx5) ?_
        refine aN ?_
        refine sk_seq ?_
        refine sk_regionL Try.cfgOk hS ?_
        refine aK 3 ?_
        refine aB 18 [.agg #[.int .i64 x5.1, .int .i64 x5.2.1], inlL fcells 3 be] (tf (lostB (x5.1, x5.2.1) be)) _ rfl (hC18 _ _ _ _ (con_lost_at x5.1 x5.2.1 be (by first | omega | assumption) (by first | omega | assumption) _)) (fun h6 => ?_) (fun h6 => ?_)
        · have c7 : lostB (x5.1, x5.2.1) be := tf_t h6
          clear h6
          refine aN ?_
          refine kF ?_
          refine sk_skip ?_
          refine sk_regionL Try.cfgOk hS ?_
          refine aE (v := .int .i64 (IntKind.wrap .i64 (((i : Nat) : Int) + 1))) (.int .i64 ((i + 1 : Nat) : Int)) (congrArg (Value.int .i64) (wrap_to (by omega) (by omega))) ?_
          refine aN ?_
          refine .inl ⟨(i + 1, o), rfl, ⟨?_, ?_, ?_⟩, ?_, ⟨by kernel_rfl, ⟨by kernel_rfl, by kernel_rfl, by kernel_rfl, by kernel_rfl, by kernel_rfl, trivial⟩, ⟨sub_clo rfl, .slice ⟨by decide, rfl⟩, sub_clo rfl, sub_clo rfl, sub_clo rfl, trivial⟩, Nat.le_of_ble_eq_true (by kernel_rfl), ⟨by kernel_rfl, (((wf_empty 0).new _).new _), (selfs (all_cons (o := .cells [.int .i64 sq, .bool true, .int .i64 fu, inlL ccells 6 co, inlL kcells 2 rs, inlL scells 3 ss, inlL kcells 2 ws, inlL wcells 4 wr]) (by kernel_rfl) (OSub.cells (.cons (sub_clo rfl) (.cons (sub_clo rfl) (.cons (sub_clo rfl) (.cons (sub_clo rfl) (.cons (sub_clo rfl) (.cons (sub_clo rfl) (.cons (sub_clo rfl) (.cons (sub_clo rfl) .nil))))))))) (all_cons (o := rowL wcells o) (by kernel_rfl) (OSub.arr (subs_clo (flatL_clo wcells_clo))) (all_none))))⟩, mem_all (by kernel_rfl)⟩⟩
          · (try dsimp only); omega
          · (try dsimp only); rw [i1]; first | exact (keep_y (P := fun w => lostB (wk w) be) (by assumption) (by assumption)).symm | exact (keep_n (P := fun w => lostB (wk w) be) (by assumption) (by assumption)).symm
          · (try dsimp only); (try simp only [List.length_append, List.length_cons, List.length_nil]); omega
          · dsimp only; omega
        · have c7 : ¬ (lostB (x5.1, x5.2.1) be) := tf_f h6
          clear h6
          refine aN ?_
          refine kT ?_
          refine sk_regionL Try.cfgOk hS ?_
          refine aK 3 ?_
          refine al_opF (v := slL 1 4 (o ++ [(x5.1, x5.2.1, x5.2.2.1, x5.2.2.2)]).length) (s1 := (((((St.empty 0).new (.cells [.int .i64 sq, .bool true, .int .i64 fu, inlL ccells 6 co, inlL kcells 2 rs, inlL scells 3 ss, inlL kcells 2 ws, inlL wcells 4 wr])).new (rowL wcells o)).new (.cells [.int .i64 x5.1, .int .i64 x5.2.1, .int .i64 x5.2.2.1, .bool x5.2.2.2])).new (.arr [.int .i64 x5.1, .int .i64 x5.2.1, .int .i64 x5.2.2.1, .bool x5.2.2.2] 0 false)).set 1 (rowL wcells (o ++ [(x5.1, x5.2.1, x5.2.2.1, x5.2.2.2)]))) (by kernel_rfl) (by kernel_rfl) (Eq.trans (b := appendV Try.cfg (((((St.empty 0).new (.cells [.int .i64 sq, .bool true, .int .i64 fu, inlL ccells 6 co, inlL kcells 2 rs, inlL scells 3 ss, inlL kcells 2 ws, inlL wcells 4 wr])).new (rowL wcells o)).new (.cells [.int .i64 x5.1, .int .i64 x5.2.1, .int .i64 x5.2.2.1, .bool x5.2.2.2])).new (.arr [.int .i64 x5.1, .int .i64 x5.2.1, .int .i64 x5.2.2.1, .bool x5.2.2.2] 0 false)) 36 (slL 1 4 o.length) (.slice (some ⟨3, 0, some 4⟩) 1 4)) (by kernel_rfl) (app_rowL (l := o) (l2 := [(x5.1, x5.2.1, x5.2.2.1, x5.2.2.2)]) (bytes := 32) tokC (by kernel_rfl) wcells_len wcells_one (by kernel_rfl) (by kernel_rfl) (by kernel_rfl) (by (try simp only [List.length_cons, List.length_nil, List.length_append]); omega))) ?_
          refine aN ?_
          refine sk_regionL Try.cfgOk hS ?_
          refine aE (v := .int .i64 (IntKind.wrap .i64 (((i : Nat) : Int) + 1))) (.int .i64 ((i + 1 : Nat) : Int)) (congrArg (Value.int .i64) (wrap_to (by omega) (by omega))) ?_
          refine aN ?_
          refine .inl ⟨(i + 1, (o ++ [(x5.1, x5.2.1, x5.2.2.1, x5.2.2.2)])), rfl, ⟨?_, ?_, ?_⟩, ?_, ⟨by kernel_rfl, ⟨by kernel_rfl, by kernel_rfl, by kernel_rfl, by kernel_rfl, by kernel_rfl, trivial⟩, ⟨sub_clo rfl, .slice ⟨by decide, rfl⟩, sub_clo rfl, sub_clo rfl, sub_clo rfl, trivial⟩, Nat.le_of_ble_eq_true (by kernel_rfl), ⟨by kernel_rfl, (((wf_empty 0).new _).new _), (selfs (all_cons (o := .cells [.int .i64 sq, .bool true, .int .i64 fu, inlL ccells 6 co, inlL kcells 2 rs, inlL scells 3 ss, inlL kcells 2 ws, inlL wcells 4 wr]) (by kernel_rfl) (OSub.cells (.cons (sub_clo rfl) (.cons (sub_clo rfl) (.cons (sub_clo rfl) (.cons (sub_clo rfl) (.cons (sub_clo rfl) (.cons (sub_clo rfl) (.cons (sub_clo rfl) (.cons (sub_clo rfl) .nil))))))))) (all_cons (o := rowL wcells (o ++ [(x5.1, x5.2.1, x5.2.2.1, x5.2.2.2)])) (by kernel_rfl) (OSub.arr (subs_clo (flatL_clo wcells_clo))) (all_none))))⟩, mem_all (by kernel_rfl)⟩⟩
          · (try dsimp only); omega
          · (try dsimp only); rw [i1]; first | exact (keep_y (P := fun w => lostB (wk w) be) (by assumption) (by assumption)).symm | exact (keep_n (P := fun w => lostB (wk w) be) (by assumption) (by assumption)).symm
          · (try dsimp only); (try simp only [List.length_append, List.length_cons, List.length_nil]); omega
          · dsimp only; omega
      · have c4e : (decide ((((i : Nat) : Int) : Int) < ((wr.length : Nat) : Int))) = false := Eq.trans (by kernel_rfl) h3
        clear h3
        have c4 : ¬ (((i : Nat) : Int) : Int) < ((wr.length : Nat) : Int) := of_decide_eq_false c4e
        clear c4e
        refine al_nil ?_
        refine sk_seq ?_
        refine kF ?_
        refine sk_exit ?_
        dsimp only
        refine .inr ⟨_, _, (fun h => by cases h), ⟨rfl, ?_, rfl, rfl⟩, ⟨by kernel_rfl, ⟨by kernel_rfl, by kernel_rfl, by kernel_rfl, by kernel_rfl, by kernel_rfl, trivial⟩, ⟨sub_clo rfl, .slice ⟨by decide, rfl⟩, sub_clo rfl, sub_clo rfl, sub_clo rfl, trivial⟩, Nat.le_of_ble_eq_true (by kernel_rfl), ⟨by kernel_rfl, (((wf_empty 0).new _).new _), (selfs (all_cons (o := .cells [.int .i64 sq, .bool true, .int .i64 fu, inlL ccells 6 co, inlL kcells 2 rs, inlL scells 3 ss, inlL kcells 2 ws, inlL wcells 4 wr]) (by kernel_rfl) (OSub.cells (.cons (sub_clo rfl) (.cons (sub_clo rfl) (.cons (sub_clo rfl) (.cons (sub_clo rfl) (.cons (sub_clo rfl) (.cons (sub_clo rfl) (.cons (sub_clo rfl) (.cons (sub_clo rfl) .nil))))))))) (all_cons (o := rowL wcells o) (by kernel_rfl) (OSub.arr (subs_clo (flatL_clo wcells_clo))) (all_none))))⟩, mem_all (by kernel_rfl)⟩⟩
        · omega
    · exact ⟨by ((try dsimp only); first | done | (omega)), by ((try dsimp only); first | done | (rfl)), by ((try dsimp only); first | done | (exact Nat.le_refl _))⟩
    rintro o e1 s1 ⟨a, lv1, M1, m2, ha, ⟨rfl, hx, rfl, rfl⟩, rfl, rfl⟩
    obtain ⟨i, o⟩ := a
    obtain ⟨i0, i1, i2⟩ := ha
    dsimp only at hx i0 i1 i2
    dsimp only
    try rw [if_pos rfl]
    refine sk_seq ?_
    refine kK Try.cfgOk hS ?_
    refine sk_ret ?_
    exact ⟨[slL 1 4 o.length], by kernel_rfl, fs_to (fs_rowL (by decide) wcells_len wcells_clo wcells_one (Nat.le_of_ble_eq_true (by kernel_rfl)) (by kernel_rfl)) (congrArg (inlL wcells 4) (by first | rfl | (rw [i1, List.take_of_length_le (by omega)]; rfl))), Nat.le_of_ble_eq_true (by kernel_rfl)⟩
noncomputable def con_kept : Con Try.prog 0 := Con.pure (α := Int × Bool × Int × (List Code) × (List Key) × (List Span) × (List Key) × (List Wr) × (List Foot)) 12 (fun z9 => [.agg #[.int .i64 z9.1, .bool z9.2.1, .int .i64 z9.2.2.1, inlL ccells 6 z9.2.2.2.1, inlL kcells 2 z9.2.2.2.2.1, inlL scells 3 z9.2.2.2.2.2.1, inlL kcells 2 z9.2.2.2.2.2.2.1, inlL wcells 4 z9.2.2.2.2.2.2.2.1], inlL fcells 3 z9.2.2.2.2.2.2.2.2]) (fun z9 => inlL wcells 4 (keptW (z9.1, z9.2.1, z9.2.2.1, z9.2.2.2.1, z9.2.2.2.2.1, z9.2.2.2.2.2.1, z9.2.2.2.2.2.2.1, z9.2.2.2.2.2.2.2.1) z9.2.2.2.2.2.2.2.2)) (fun z9 => (z9.2.2.2.2.2.2.2.1.length ≤ 1000000) ∧ (z9.2.2.2.2.2.2.2.2.length ≤ 1000000) ∧ (∀ f ∈ z9.2.2.2.2.2.2.2.2, smF f)) (by
  rintro ⟨a0, a1, a2, a3, a4, a5, a6, a7, a8⟩ ⟨b0, b1, b2, b3, b4, b5, b6, b7, b8⟩ h
  simp only [List.cons.injEq, and_true, Int.natCast_inj, UInt8.toNat_inj, Value.int.injEq, Value.bool.injEq, Value.string.injEq, Value.agg.injEq, Array.mk.injEq, true_and, ccells_iff, fcells_iff, kcells_iff, scells_iff, wcells_iff] at h
  first | exact h | (simp only [Prod.ext_iff, h, and_self, and_true, true_and]; done) | simp_all [Prod.ext_iff]) (fun _ => rfl) (fun _ => rfl) 400 (by
  rintro ⟨a0, a1, a2, a3, a4, a5, a6, a7, a8⟩ ⟨p0, p1, p2⟩
  exact kept_sc a0 a1 a2 a3 a4 a5 a6 a7 a8 p0 p1 p2)
theorem con_kept_at (sq : Int) (vl : Bool) (fu : Int) (co : List Code) (rs : List Key) (ss : List Span) (ws : List Key) (wr : List Wr) (be : List Foot) (h0 : wr.length ≤ 1000000) (h1 : be.length ≤ 1000000) (h2 : ∀ f ∈ be, smF f) (s : St) : con_kept.rel [.agg #[.int .i64 sq, .bool vl, .int .i64 fu, inlL ccells 6 co, inlL kcells 2 rs, inlL scells 3 ss, inlL kcells 2 ws, inlL wcells 4 wr], inlL fcells 3 be] s (inlL wcells 4 (keptW (sq, vl, fu, co, rs, ss, ws, wr) be)) s := con_pure (sq, vl, fu, co, rs, ss, ws, wr, be) ⟨h0, h1, h2⟩ s
theorem touch_fn : Try.cfg.fn 17 = some Try.f17 := by kernel_rfl
set_option maxHeartbeats 4000000 in
set_option maxRecDepth 100000 in
theorem touch_sc (sq : Int) (vl : Bool) (fu : Int) (co : List Code) (rs : List Key) (ss : List Span) (ws : List Key) (wr : List Wr) (h0 : rs.length ≤ 1000000) (h1 : ss.length ≤ 1000000) (h2 : ws.length ≤ 1000000) (h3 : wr.length ≤ 1000000) : SC Try.prog 0 17 [.agg #[.int .i64 sq, .bool vl, .int .i64 fu, inlL ccells 6 co, inlL kcells 2 rs, inlL scells 3 ss, inlL kcells 2 ws, inlL wcells 4 wr]] (St.empty 0) fun v s' => v = .agg #[inlL kcells 2 (kj (flatR [touchF (sq, vl, fu, co, rs, ss, ws, wr)])), inlL scells 3 (sj (flatS [touchF (sq, vl, fu, co, rs, ss, ws, wr)])), inlL kcells 2 (kj (flatW [touchF (sq, vl, fu, co, rs, ss, ws, wr)]))] ∧ s'.n ≤ 400 := by
  obtain ⟨rc, hS, hC⟩ := rc_con (sound_run Try.cfgOk 300) [con_joinF] (by kernel_rfl)
  have hC27 := hC con_joinF (.head _)
  cases vl
  ·
    refine sc_ice0 (N := 400) (v2 := .agg #[inlL kcells 2 (kj (flatR [touchF (sq, false, fu, co, rs, ss, ws, wr)])), inlL scells 3 (sj (flatS [touchF (sq, false, fu, co, rs, ss, ws, wr)])), inlL kcells 2 (kj (flatW [touchF (sq, false, fu, co, rs, ss, ws, wr)]))]) (Q := fun v s' => FS 0 s' v (.agg #[inlL kcells 2 (kj (flatR [touchF (sq, false, fu, co, rs, ss, ws, wr)])), inlL scells 3 (sj (flatS [touchF (sq, false, fu, co, rs, ss, ws, wr)])), inlL kcells 2 (kj (flatW [touchF (sq, false, fu, co, rs, ss, ws, wr)]))]) ∧ s'.n ≤ 400) ?_ (fun _ _ h => h)
    refine sc_body Try.cfgOk touch_fn rfl ?_
    refine sk_seq ?_
    refine kK Try.cfgOk hS ?_
    refine sk_seq (sk_seq ?_)
    refine kK Try.cfgOk hS ?_
    refine kT ?_
    refine sk_seq ?_
    refine sk_regionL Try.cfgOk hS ?_
    refine aK 3 ?_
    refine aC 27 [.slice (some ⟨2, 0, some 3⟩) 1 3] (.agg #[inlL kcells 2 (kj (flatR ([(rs, ss, ws)]))), inlL scells 3 (sj (flatS ([(rs, ss, ws)]))), inlL kcells 2 (kj (flatW ([(rs, ss, ws)])))]) _ rfl (hC27 _ _ _ _ (con_joinF_at ([(rs, ss, ws)]) 2 (by first | omega | (simp; done) | (simp [flatR, flatS, flatW]; done) | (simp [flatR, flatS, flatW]; omega)) (by first | omega | (simp; done) | (simp [flatR, flatS, flatW]; done) | (simp [flatR, flatS, flatW]; omega)) (by first | omega | (simp; done) | (simp [flatR, flatS, flatW]; done) | (simp [flatR, flatS, flatW]; omega)) (by first | omega | (simp; done) | (simp [flatR, flatS, flatW]; done) | (simp [flatR, flatS, flatW]; omega)) _ (by kernel_rfl) (by kernel_rfl) )) ?_
    refine aN ?_
    refine sk_ret ?_
    exact ⟨[.agg #[inlL kcells 2 (kj (flatR ([(rs, ss, ws)]))), inlL scells 3 (sj (flatS ([(rs, ss, ws)]))), inlL kcells 2 (kj (flatW ([(rs, ss, ws)])))]], by kernel_rfl, .agg (.cons (fs_to (fs_clo rfl) (congrArg (inlL kcells 2) (by first | rfl | (rw [i1, List.take_of_length_le (by omega)]; rfl)))) (.cons (fs_to (fs_clo rfl) (congrArg (inlL scells 3) (by first | rfl | (rw [i1, List.take_of_length_le (by omega)]; rfl)))) (.cons (fs_to (fs_clo rfl) (congrArg (inlL kcells 2) (by first | rfl | (rw [i1, List.take_of_length_le (by omega)]; rfl)))) (.nil)))), Nat.le_of_ble_eq_true (by kernel_rfl)⟩
  ·
    refine sc_ice0 (N := 400) (v2 := .agg #[inlL kcells 2 (kj (flatR [touchF (sq, true, fu, co, rs, ss, ws, wr)])), inlL scells 3 (sj (flatS [touchF (sq, true, fu, co, rs, ss, ws, wr)])), inlL kcells 2 (kj (flatW [touchF (sq, true, fu, co, rs, ss, ws, wr)]))]) (Q := fun v s' => FS 0 s' v (.agg #[inlL kcells 2 (kj (flatR [touchF (sq, true, fu, co, rs, ss, ws, wr)])), inlL scells 3 (sj (flatS [touchF (sq, true, fu, co, rs, ss, ws, wr)])), inlL kcells 2 (kj (flatW [touchF (sq, true, fu, co, rs, ss, ws, wr)]))]) ∧ s'.n ≤ 400) ?_ (fun _ _ h => h)
    refine sc_body Try.cfgOk touch_fn rfl ?_
    refine sk_seq ?_
    refine kK Try.cfgOk hS ?_
    refine sk_seq (sk_seq ?_)
    refine kK Try.cfgOk hS ?_
    refine kF ?_
    refine sk_skip (sk_seq ?_)
    refine kK Try.cfgOk hS ?_
    refine sk_seq (sk_seq ?_)
    refine sk_live 31 [(1, .pointer (some ⟨0, 0, none⟩)), (2, .pointer (some ⟨1, 0, none⟩)), (3, .pointer (some ⟨2, 0, none⟩))] (by kernel_rfl) ⟨by kernel_rfl, by kernel_rfl, by kernel_rfl, trivial⟩ fun m1 => ?_
    refine sk_st ((((St.empty 0).new (.cells [.int .i64 sq, .bool true, .int .i64 fu, inlL ccells 6 co, inlL kcells 2 rs, inlL scells 3 ss, inlL kcells 2 ws, inlL wcells 4 wr])).new (.cells [.slice none 0 0, .slice none 0 0, .slice none 0 0])).new (.cells [.slice none 0 0, .slice none 0 0, .slice none 0 0])) (by kernel_rfl) ?_
    refine virt_cell 3 2 0 2 [.slice none 0 0, .slice none 0 0] [] (by decide) ((((wf_empty 0).new _).new _).new _) (by kernel_rfl) (by kernel_rfl) (by decide) ?_
    refine sk_st (((((St.empty 0).new (.cells [.int .i64 sq, .bool true, .int .i64 fu, inlL ccells 6 co, inlL kcells 2 rs, inlL scells 3 ss, inlL kcells 2 ws, inlL wcells 4 wr])).new (.cells [.slice none 0 0, .slice none 0 0, .slice none 0 0])).new (.cells [.slice none 0 0, .slice none 0 0, slL 3 2 (([] : List Key).length)])).new (rowL kcells ([] : List Key))) (by kernel_rfl) ?_
    refine sk_regionL Try.cfgOk hS ?_
    refine aK 2 ?_
    refine aM (lenB Try.cfg (St.empty 0) 36 (inlL wcells 4 wr)) (.int .i64 ((wr.length : Nat) : Int)) (len_inl tokC (by kernel_rfl)) ?_
    refine aN ?_
    refine sk_block ?_
    refine sk_live 31 ((fun a : Nat × (List Key) => [(2, .pointer (some ⟨1, 0, none⟩)), (3, .pointer (some ⟨2, 0, none⟩)), (14, inlL wcells 4 wr), (15, .int .i64 ((wr.length : Nat) : Int)), (16, .int .i64 ((a.1 : Nat) : Int))]) (0, ([] : List Key))) (by kernel_rfl) ⟨by kernel_rfl, by kernel_rfl, by kernel_rfl, by kernel_rfl, by kernel_rfl, trivial⟩ fun m2 => ?_
    refine sk_st ((fun a : Nat × (List Key) => (((((St.empty 0).new (.cells [.int .i64 sq, .bool true, .int .i64 fu, inlL ccells 6 co, inlL kcells 2 rs, inlL scells 3 ss, inlL kcells 2 ws, inlL wcells 4 wr])).new (.cells [.slice none 0 0, .slice none 0 0, .slice none 0 0])).new (.cells [.slice none 0 0, .slice none 0 0, slL 3 2 a.2.length])).new (rowL kcells a.2))) (0, ([] : List Key))) (by kernel_rfl) ?_
    refine (sk_while (k := 4) (N := 400) (live := (fun a : Nat × (List Key) => [(2, .pointer (some ⟨1, 0, none⟩)), (3, .pointer (some ⟨2, 0, none⟩)), (14, inlL wcells 4 wr), (15, .int .i64 ((wr.length : Nat) : Int)), (16, .int .i64 ((a.1 : Nat) : Int))])) (M := (fun a : Nat × (List Key) => (((((St.empty 0).new (.cells [.int .i64 sq, .bool true, .int .i64 fu, inlL ccells 6 co, inlL kcells 2 rs, inlL scells 3 ss, inlL kcells 2 ws, inlL wcells 4 wr])).new (.cells [.slice none 0 0, .slice none 0 0, .slice none 0 0])).new (.cells [.slice none 0 0, .slice none 0 0, slL 3 2 a.2.length])).new (rowL kcells a.2)))) (fun a : Nat × (List Key) => (a.1 ≤ wr.length) ∧ (a.2 = (wr.take a.1).map wk) ∧ (a.2.length = a.1)) (fun a : Nat × (List Key) => wr.length - a.1) (fun (a : Nat × (List Key)) (o : Out) (lv : List (Nat × Value)) (M : St) => (o = .exit 0 ∧ (a.1 = wr.length) ∧ lv = [(2, .pointer (some ⟨1, 0, none⟩)), (3, .pointer (some ⟨2, 0, none⟩)), (14, inlL wcells 4 wr), (15, .int .i64 ((wr.length : Nat) : Int)), (16, .int .i64 ((a.1 : Nat) : Int))] ∧ M = (((((St.empty 0).new (.cells [.int .i64 sq, .bool true, .int .i64 fu, inlL ccells 6 co, inlL kcells 2 rs, inlL scells 3 ss, inlL kcells 2 ws, inlL wcells 4 wr])).new (.cells [.slice none 0 0, .slice none 0 0, .slice none 0 0])).new (.cells [.slice none 0 0, .slice none 0 0, slL 3 2 a.2.length])).new (rowL kcells a.2)))) (Nat.zero_le _) (fun a ha => ?_) (fun a ha => ?_) (fun a m ha => ?_) (fun a m ha => ?_) (0, ([] : List Key)) m2 ?_).up ?_
    · exact ⟨by kernel_rfl, (((((wf_empty 0).new _).new _).new _).new _), (selfs (all_cons (o := .cells [.int .i64 sq, .bool true, .int .i64 fu, inlL ccells 6 co, inlL kcells 2 rs, inlL scells 3 ss, inlL kcells 2 ws, inlL wcells 4 wr]) (by kernel_rfl) (OSub.cells (.cons (sub_clo rfl) (.cons (sub_clo rfl) (.cons (sub_clo rfl) (.cons (sub_clo rfl) (.cons (sub_clo rfl) (.cons (sub_clo rfl) (.cons (sub_clo rfl) (.cons (sub_clo rfl) .nil))))))))) (all_cons (o := .cells [.slice none 0 0, .slice none 0 0, .slice none 0 0]) (by kernel_rfl) (OSub.cells (.cons (sub_clo rfl) (.cons (sub_clo rfl) (.cons (sub_clo rfl) .nil)))) (all_cons (o := .cells [.slice none 0 0, .slice none 0 0, slL 3 2 a.2.length]) (by kernel_rfl) (OSub.cells (.cons (sub_clo rfl) (.cons (sub_clo rfl) (.cons (.slice ⟨by decide, rfl⟩) .nil)))) (all_cons (o := rowL kcells a.2) (by kernel_rfl) (OSub.arr (subs_clo (flatL_clo kcells_clo))) (all_none))))))⟩
    · exact ⟨.ptr ⟨by decide, rfl⟩, .ptr ⟨by decide, rfl⟩, sub_clo rfl, sub_clo rfl, sub_clo rfl, trivial⟩
    · exact ⟨by kernel_rfl, by kernel_rfl, by kernel_rfl, by kernel_rfl, by kernel_rfl, trivial⟩
    · obtain ⟨i, a⟩ := a
      obtain ⟨i0, i1, i2⟩ := ha
      dsimp only at i0 i1 i2
      refine sk_seq ?_
      refine sk_regionL Try.cfgOk hS ?_
      refine aT (fun h3 => ?_) (fun h3 => ?_)
      · have c4e : (decide ((((i : Nat) : Int) : Int) < ((wr.length : Nat) : Int))) = true := Eq.trans (by kernel_rfl) h3
        clear h3
        have c4 : (((i : Nat) : Int) : Int) < ((wr.length : Nat) : Int) := of_decide_eq_true c4e
        clear c4e
        refine al_nil ?_
        refine sk_seq ?_
        refine kT ?_
        refine sk_skip (sk_seq (sk_block (sk_seq ?_)))
        refine sk_regionL Try.cfgOk hS ?_
        refine aM (indexAddrV Try.cfg 36 (inlL wcells 4 wr) (.int .i64 ((i : Nat) : Int))) (elt (flatL wcells wr) (i * 4)) (idx_inlL tokC (by kernel_rfl) (by first | omega | simp)) ?_
        have hx5l : i < wr.length := by omega
        refine Exists.elim (get_ex hx5l) fun x5 hx5 => ?_
        clear hx5l
        refine aM (loadV Try.cfg (St.empty 0) 45 (elt (flatL wcells wr) (i * 4))) (.agg #[.int .i64 x5.1, .int .i64 x5.2.1, .int .i64 x5.2.2.1, .bool x5.2.2.2]) (load_el tokC (by kernel_rfl) wcells_len hx5) ?_
        refine aN ?_
        refine sk_regionL Try.cfgOk hS ?_
        refine aK 5 ?_
        refine al_opF (v := slL 3 2 (a ++ [(x5.1, x5.2.1)]).length) (s1 := (((((((St.empty 0).new (.cells [.int .i64 sq, .bool true, .int .i64 fu, inlL ccells 6 co, inlL kcells 2 rs, inlL scells 3 ss, inlL kcells 2 ws, inlL wcells 4 wr])).new (.cells [.slice none 0 0, .slice none 0 0, .slice none 0 0])).new (.cells [.slice none 0 0, .slice none 0 0, slL 3 2 a.length])).new (rowL kcells a)).new (.cells [.int .i64 x5.1, .int .i64 x5.2.1, .int .i64 x5.2.2.1, .bool x5.2.2.2])).new (.arr [.int .i64 x5.1, .int .i64 x5.2.1] 0 false)).set 3 (rowL kcells (a ++ [(x5.1, x5.2.1)]))) (by kernel_rfl) (by kernel_rfl) (Eq.trans (b := appendV Try.cfg (((((((St.empty 0).new (.cells [.int .i64 sq, .bool true, .int .i64 fu, inlL ccells 6 co, inlL kcells 2 rs, inlL scells 3 ss, inlL kcells 2 ws, inlL wcells 4 wr])).new (.cells [.slice none 0 0, .slice none 0 0, .slice none 0 0])).new (.cells [.slice none 0 0, .slice none 0 0, slL 3 2 a.length])).new (rowL kcells a)).new (.cells [.int .i64 x5.1, .int .i64 x5.2.1, .int .i64 x5.2.2.1, .bool x5.2.2.2])).new (.arr [.int .i64 x5.1, .int .i64 x5.2.1] 0 false)) 32 (slL 3 2 a.length) (.slice (some ⟨5, 0, some 2⟩) 1 2)) (by kernel_rfl) (app_rowL (l := a) (l2 := [(x5.1, x5.2.1)]) (bytes := 16) tokC (by kernel_rfl) kcells_len kcells_one (by kernel_rfl) (by kernel_rfl) (by kernel_rfl) (by (try simp only [List.length_cons, List.length_nil, List.length_append]); omega))) ?_
        refine aN ?_
        refine sk_regionL Try.cfgOk hS ?_
        refine aE (v := .int .i64 (IntKind.wrap .i64 (((i : Nat) : Int) + 1))) (.int .i64 ((i + 1 : Nat) : Int)) (congrArg (Value.int .i64) (wrap_to (by omega) (by omega))) ?_
        refine aN ?_
        refine .inl ⟨(i + 1, (a ++ [(x5.1, x5.2.1)])), rfl, ⟨?_, ?_, ?_⟩, ?_, ⟨by kernel_rfl, ⟨by kernel_rfl, by kernel_rfl, by kernel_rfl, by kernel_rfl, by kernel_rfl, trivial⟩, ⟨.ptr ⟨by decide, rfl⟩, .ptr ⟨by decide, rfl⟩, sub_clo rfl, sub_clo rfl, sub_clo rfl, trivial⟩, Nat.le_of_ble_eq_true (by kernel_rfl), ⟨by kernel_rfl, (((((wf_empty 0).new _).new _).new _).new _), (selfs (all_cons (o := .cells [.int .i64 sq, .bool true, .int .i64 fu, inlL ccells 6 co, inlL kcells 2 rs, inlL scells 3 ss, inlL kcells 2 ws, inlL wcells 4 wr]) (by kernel_rfl) (OSub.cells (.cons (sub_clo rfl) (.cons (sub_clo rfl) (.cons (sub_clo rfl) (.cons (sub_clo rfl) (.cons (sub_clo rfl) (.cons (sub_clo rfl) (.cons (sub_clo rfl) (.cons (sub_clo rfl) .nil))))))))) (all_cons (o := .cells [.slice none 0 0, .slice none 0 0, .slice none 0 0]) (by kernel_rfl) (OSub.cells (.cons (sub_clo rfl) (.cons (sub_clo rfl) (.cons (sub_clo rfl) .nil)))) (all_cons (o := .cells [.slice none 0 0, .slice none 0 0, slL 3 2 ((a ++ [(x5.1, x5.2.1)]).length)]) (by kernel_rfl) (OSub.cells (.cons (sub_clo rfl) (.cons (sub_clo rfl) (.cons (.slice ⟨by decide, rfl⟩) .nil)))) (all_cons (o := rowL kcells (a ++ [(x5.1, x5.2.1)])) (by kernel_rfl) (OSub.arr (subs_clo (flatL_clo kcells_clo))) (all_none))))))⟩, mem_all (by kernel_rfl)⟩⟩
        · (try dsimp only); omega
        · (try dsimp only); rw [i1]; exact (map_snoc (by assumption)).symm
        · (try dsimp only); simp only [List.length_append, List.length_cons, List.length_nil]; omega
        · dsimp only; omega
      · have c4e : (decide ((((i : Nat) : Int) : Int) < ((wr.length : Nat) : Int))) = false := Eq.trans (by kernel_rfl) h3
        clear h3
        have c4 : ¬ (((i : Nat) : Int) : Int) < ((wr.length : Nat) : Int) := of_decide_eq_false c4e
        clear c4e
        refine al_nil ?_
        refine sk_seq ?_
        refine kF ?_
        refine sk_exit ?_
        dsimp only
        refine .inr ⟨_, _, (fun h => by cases h), ⟨rfl, ?_, rfl, rfl⟩, ⟨by kernel_rfl, ⟨by kernel_rfl, by kernel_rfl, by kernel_rfl, by kernel_rfl, by kernel_rfl, trivial⟩, ⟨.ptr ⟨by decide, rfl⟩, .ptr ⟨by decide, rfl⟩, sub_clo rfl, sub_clo rfl, sub_clo rfl, trivial⟩, Nat.le_of_ble_eq_true (by kernel_rfl), ⟨by kernel_rfl, (((((wf_empty 0).new _).new _).new _).new _), (selfs (all_cons (o := .cells [.int .i64 sq, .bool true, .int .i64 fu, inlL ccells 6 co, inlL kcells 2 rs, inlL scells 3 ss, inlL kcells 2 ws, inlL wcells 4 wr]) (by kernel_rfl) (OSub.cells (.cons (sub_clo rfl) (.cons (sub_clo rfl) (.cons (sub_clo rfl) (.cons (sub_clo rfl) (.cons (sub_clo rfl) (.cons (sub_clo rfl) (.cons (sub_clo rfl) (.cons (sub_clo rfl) .nil))))))))) (all_cons (o := .cells [.slice none 0 0, .slice none 0 0, .slice none 0 0]) (by kernel_rfl) (OSub.cells (.cons (sub_clo rfl) (.cons (sub_clo rfl) (.cons (sub_clo rfl) .nil)))) (all_cons (o := .cells [.slice none 0 0, .slice none 0 0, slL 3 2 a.length]) (by kernel_rfl) (OSub.cells (.cons (sub_clo rfl) (.cons (sub_clo rfl) (.cons (.slice ⟨by decide, rfl⟩) .nil)))) (all_cons (o := rowL kcells a) (by kernel_rfl) (OSub.arr (subs_clo (flatL_clo kcells_clo))) (all_none))))))⟩, mem_all (by kernel_rfl)⟩⟩
        · omega
    · exact ⟨by ((try dsimp only); first | done | (omega)), by ((try dsimp only); first | done | (rfl)), by ((try dsimp only); first | done | (rfl))⟩
    rintro o e1 s1 ⟨a, lv1, M1, m2, ha, ⟨rfl, hx, rfl, rfl⟩, rfl, rfl⟩
    obtain ⟨i, a⟩ := a
    obtain ⟨i0, i1, i2⟩ := ha
    dsimp only at hx i0 i1 i2
    dsimp only
    try rw [if_pos rfl]
    refine sk_seq ?_
    refine sk_live 31 [(2, .pointer (some ⟨1, 0, none⟩)), (3, .pointer (some ⟨2, 0, none⟩))] (by kernel_rfl) ⟨by kernel_rfl, by kernel_rfl, trivial⟩ fun m6 => ?_
    refine sk_st (((((St.empty 0).new (.cells [.int .i64 sq, .bool true, .int .i64 fu, inlL ccells 6 co, inlL kcells 2 rs, inlL scells 3 ss, inlL kcells 2 ws, inlL wcells 4 wr])).new (.cells [.slice none 0 0, .slice none 0 0, .slice none 0 0])).new (.cells [.slice none 0 0, .slice none 0 0, slL 3 2 a.length])).new (rowL kcells a)) (by kernel_rfl) ?_
    refine ice_cell kcells a 3 3 2 0 2 [.slice none 0 0, .slice none 0 0] [] (by decide) kcells_len kcells_clo kcells_one (((((wf_empty 0).new _).new _).new _).new _) (by kernel_rfl) (by kernel_rfl) (by kernel_rfl) (by decide) ?_
    refine sk_st (((((St.empty 0).new (.cells [.int .i64 sq, .bool true, .int .i64 fu, inlL ccells 6 co, inlL kcells 2 rs, inlL scells 3 ss, inlL kcells 2 ws, inlL wcells 4 wr])).new (.cells [.slice none 0 0, .slice none 0 0, .slice none 0 0])).new (.cells [.slice none 0 0, .slice none 0 0, inlL kcells 2 a])).new (.arr (flatL kcells a) 0 true)) (by kernel_rfl) ?_
    refine sk_live 31 [(2, .pointer (some ⟨1, 0, none⟩)), (3, .pointer (some ⟨2, 0, none⟩))] (by kernel_rfl) ⟨by kernel_rfl, by kernel_rfl, trivial⟩ fun m7 => ?_
    refine sk_st (((((St.empty 0).new (.cells [.int .i64 sq, .bool true, .int .i64 fu, inlL ccells 6 co, inlL kcells 2 rs, inlL scells 3 ss, inlL kcells 2 ws, inlL wcells 4 wr])).new (.cells [.slice none 0 0, .slice none 0 0, .slice none 0 0])).new (.cells [.slice none 0 0, .slice none 0 0, inlL kcells 2 a])).new (.arr (flatL kcells a) 0 true)) (by kernel_rfl) ?_
    refine tok_cell kcells 3 2 0 2 [] [.slice none 0 0, inlL kcells 2 a] (by decide) (((((wf_empty 0).new _).new _).new _).new _) (by kernel_rfl) (by kernel_rfl) (by decide) ?_
    refine sk_st ((((((St.empty 0).new (.cells [.int .i64 sq, .bool true, .int .i64 fu, inlL ccells 6 co, inlL kcells 2 rs, inlL scells 3 ss, inlL kcells 2 ws, inlL wcells 4 wr])).new (.cells [.slice none 0 0, .slice none 0 0, .slice none 0 0])).new (.cells [inlL kcells 2 ([] : List Key), .slice none 0 0, inlL kcells 2 a])).new (.arr (flatL kcells a) 0 true)).new (rowL kcells ([] : List Key))) (by kernel_rfl) ?_
    refine sk_live 31 [(2, .pointer (some ⟨1, 0, none⟩)), (3, .pointer (some ⟨2, 0, none⟩))] (by kernel_rfl) ⟨by kernel_rfl, by kernel_rfl, trivial⟩ fun m8 => ?_
    refine sk_st ((((((St.empty 0).new (.cells [.int .i64 sq, .bool true, .int .i64 fu, inlL ccells 6 co, inlL kcells 2 rs, inlL scells 3 ss, inlL kcells 2 ws, inlL wcells 4 wr])).new (.cells [.slice none 0 0, .slice none 0 0, .slice none 0 0])).new (.cells [inlL kcells 2 ([] : List Key), .slice none 0 0, inlL kcells 2 a])).new (.arr (flatL kcells a) 0 true)).new (rowL kcells ([] : List Key))) (by kernel_rfl) ?_
    refine tok_cell scells 3 2 0 3 [inlL kcells 2 ([] : List Key)] [inlL kcells 2 a] (by decide) ((((((wf_empty 0).new _).new _).new _).new _).new _) (by kernel_rfl) (by kernel_rfl) (by decide) ?_
    refine sk_st (((((((St.empty 0).new (.cells [.int .i64 sq, .bool true, .int .i64 fu, inlL ccells 6 co, inlL kcells 2 rs, inlL scells 3 ss, inlL kcells 2 ws, inlL wcells 4 wr])).new (.cells [.slice none 0 0, .slice none 0 0, .slice none 0 0])).new (.cells [inlL kcells 2 ([] : List Key), inlL scells 3 ([] : List Span), inlL kcells 2 a])).new (.arr (flatL kcells a) 0 true)).new (rowL kcells ([] : List Key))).new (rowL scells ([] : List Span))) (by kernel_rfl) ?_
    refine sk_regionL Try.cfgOk hS ?_
    refine aK 2 ?_
    refine aC 27 [.slice (some ⟨6, 0, some 3⟩) 1 3] (.agg #[inlL kcells 2 (kj (flatR ([(([] : List Key), ([] : List Span), a)]))), inlL scells 3 (sj (flatS ([(([] : List Key), ([] : List Span), a)]))), inlL kcells 2 (kj (flatW ([(([] : List Key), ([] : List Span), a)])))]) _ rfl (hC27 _ _ _ _ (con_joinF_at ([(([] : List Key), ([] : List Span), a)]) 6 (by first | omega | (simp; done) | (simp [flatR, flatS, flatW]; done) | (simp [flatR, flatS, flatW]; omega)) (by first | omega | (simp; done) | (simp [flatR, flatS, flatW]; done) | (simp [flatR, flatS, flatW]; omega)) (by first | omega | (simp; done) | (simp [flatR, flatS, flatW]; done) | (simp [flatR, flatS, flatW]; omega)) (by first | omega | (simp; done) | (simp [flatR, flatS, flatW]; done) | (simp [flatR, flatS, flatW]; omega)) _ (by kernel_rfl) (by kernel_rfl) )) ?_
    refine aN ?_
    refine sk_ret ?_
    exact ⟨[.agg #[inlL kcells 2 (kj (flatR ([(([] : List Key), ([] : List Span), a)]))), inlL scells 3 (sj (flatS ([(([] : List Key), ([] : List Span), a)]))), inlL kcells 2 (kj (flatW ([(([] : List Key), ([] : List Span), a)])))]], by kernel_rfl, .agg (.cons (fs_to (fs_clo rfl) (congrArg (inlL kcells 2) (by first | rfl | (rw [i1, List.take_of_length_le (by omega)]; rfl)))) (.cons (fs_to (fs_clo rfl) (congrArg (inlL scells 3) (by first | rfl | (rw [i1, List.take_of_length_le (by omega)]; rfl)))) (.cons (fs_to (fs_clo rfl) (congrArg (inlL kcells 2) (by first | rfl | (rw [i1, List.take_of_length_le (by omega)]; rfl)))) (.nil)))), Nat.le_of_ble_eq_true (by kernel_rfl)⟩
noncomputable def con_touch : Con Try.prog 0 := Con.pure (α := Int × Bool × Int × (List Code) × (List Key) × (List Span) × (List Key) × (List Wr)) 17 (fun z9 => [.agg #[.int .i64 z9.1, .bool z9.2.1, .int .i64 z9.2.2.1, inlL ccells 6 z9.2.2.2.1, inlL kcells 2 z9.2.2.2.2.1, inlL scells 3 z9.2.2.2.2.2.1, inlL kcells 2 z9.2.2.2.2.2.2.1, inlL wcells 4 z9.2.2.2.2.2.2.2]]) (fun z9 => .agg #[inlL kcells 2 (kj (flatR [touchF (z9.1, z9.2.1, z9.2.2.1, z9.2.2.2.1, z9.2.2.2.2.1, z9.2.2.2.2.2.1, z9.2.2.2.2.2.2.1, z9.2.2.2.2.2.2.2)])), inlL scells 3 (sj (flatS [touchF (z9.1, z9.2.1, z9.2.2.1, z9.2.2.2.1, z9.2.2.2.2.1, z9.2.2.2.2.2.1, z9.2.2.2.2.2.2.1, z9.2.2.2.2.2.2.2)])), inlL kcells 2 (kj (flatW [touchF (z9.1, z9.2.1, z9.2.2.1, z9.2.2.2.1, z9.2.2.2.2.1, z9.2.2.2.2.2.1, z9.2.2.2.2.2.2.1, z9.2.2.2.2.2.2.2)]))]) (fun z9 => (z9.2.2.2.2.1.length ≤ 1000000) ∧ (z9.2.2.2.2.2.1.length ≤ 1000000) ∧ (z9.2.2.2.2.2.2.1.length ≤ 1000000) ∧ (z9.2.2.2.2.2.2.2.length ≤ 1000000)) (by
  rintro ⟨a0, a1, a2, a3, a4, a5, a6, a7⟩ ⟨b0, b1, b2, b3, b4, b5, b6, b7⟩ h
  simp only [List.cons.injEq, and_true, Int.natCast_inj, UInt8.toNat_inj, Value.int.injEq, Value.bool.injEq, Value.string.injEq, Value.agg.injEq, Array.mk.injEq, true_and, ccells_iff, kcells_iff, scells_iff, wcells_iff] at h
  first | exact h | (simp only [Prod.ext_iff, h, and_self, and_true, true_and]; done) | simp_all [Prod.ext_iff]) (fun _ => rfl) (fun _ => rfl) 400 (by
  rintro ⟨a0, a1, a2, a3, a4, a5, a6, a7⟩ ⟨p0, p1, p2, p3⟩
  exact touch_sc a0 a1 a2 a3 a4 a5 a6 a7 p0 p1 p2 p3)
theorem con_touch_at (sq : Int) (vl : Bool) (fu : Int) (co : List Code) (rs : List Key) (ss : List Span) (ws : List Key) (wr : List Wr) (h0 : rs.length ≤ 1000000) (h1 : ss.length ≤ 1000000) (h2 : ws.length ≤ 1000000) (h3 : wr.length ≤ 1000000) (s : St) : con_touch.rel [.agg #[.int .i64 sq, .bool vl, .int .i64 fu, inlL ccells 6 co, inlL kcells 2 rs, inlL scells 3 ss, inlL kcells 2 ws, inlL wcells 4 wr]] s (.agg #[inlL kcells 2 (kj (flatR [touchF (sq, vl, fu, co, rs, ss, ws, wr)])), inlL scells 3 (sj (flatS [touchF (sq, vl, fu, co, rs, ss, ws, wr)])), inlL kcells 2 (kj (flatW [touchF (sq, vl, fu, co, rs, ss, ws, wr)]))]) s := con_pure (sq, vl, fu, co, rs, ss, ws, wr) ⟨h0, h1, h2, h3⟩ s
theorem feet_fn : Try.cfg.fn 11 = some Try.f11 := by kernel_rfl
set_option maxHeartbeats 4000000 in
set_option maxRecDepth 100000 in
theorem feet_sc (l : List Rec8) (h0 : l.length ≤ 1000000) (h1 : ∀ r ∈ l, smR r) : SC Try.prog 0 11 [inlL rcells 8 l] (St.empty 0) fun v s' => v = inlL fcells 3 (feetL l) ∧ s'.n ≤ 400 := by
  obtain ⟨rc, hS, hC⟩ := rc_con (sound_run Try.cfgOk 300) [con_touch] (by kernel_rfl)
  have hC17 := hC con_touch (.head _)
  refine sc_ice0 (N := 400) (v2 := inlL fcells 3 (feetL l)) (Q := fun v s' => FS 0 s' v (inlL fcells 3 (feetL l)) ∧ s'.n ≤ 400) ?_ (fun _ _ h => h)
  refine sc_body Try.cfgOk feet_fn rfl ?_
  refine sk_seq ?_
  refine kK Try.cfgOk hS ?_
  refine sk_seq ?_
  refine kK Try.cfgOk hS ?_
  refine sk_seq (sk_seq ?_)
  refine sk_regionL Try.cfgOk hS ?_
  refine aK 1 ?_
  refine aM (lenB Try.cfg (St.empty 0) 25 (inlL rcells 8 l)) (.int .i64 ((l.length : Nat) : Int)) (len_inl tokC (by kernel_rfl)) ?_
  refine aN ?_
  refine sk_block ?_
  refine sk_live 19 [(3, .slice none 0 0), (6, inlL rcells 8 l), (7, .int .i64 ((l.length : Nat) : Int)), (8, .int .i64 0)] (by kernel_rfl) ⟨by kernel_rfl, by kernel_rfl, by kernel_rfl, by kernel_rfl, trivial⟩ fun m1 => ?_
  refine sk_st (St.empty 0) (by kernel_rfl) ?_
  refine virt_at (n := 19) (t := 3) (sz := 3) [(3, slL 0 3 0), (6, inlL rcells 8 l), (7, .int .i64 ((l.length : Nat) : Int)), (8, .int .i64 0)] (by decide) (wf_empty 0) (by kernel_rfl) (by kernel_rfl) (by kernel_rfl) fun m1v => ?_
  refine sk_live 19 ((fun a : Nat × (List Foot) => [(3, slL 0 3 a.2.length), (6, inlL rcells 8 l), (7, .int .i64 ((l.length : Nat) : Int)), (8, .int .i64 ((a.1 : Nat) : Int))]) (0, ([] : List Foot))) (by kernel_rfl) ⟨by kernel_rfl, by kernel_rfl, by kernel_rfl, by kernel_rfl, trivial⟩ fun m2 => ?_
  refine sk_st ((fun a : Nat × (List Foot) => ((St.empty 0).new (rowL fcells a.2))) (0, ([] : List Foot))) (by kernel_rfl) ?_
  refine (sk_while (k := 1) (N := 400) (live := (fun a : Nat × (List Foot) => [(3, slL 0 3 a.2.length), (6, inlL rcells 8 l), (7, .int .i64 ((l.length : Nat) : Int)), (8, .int .i64 ((a.1 : Nat) : Int))])) (M := (fun a : Nat × (List Foot) => ((St.empty 0).new (rowL fcells a.2)))) (fun a : Nat × (List Foot) => (a.1 ≤ l.length) ∧ (a.2 = feetL (l.take a.1)) ∧ (a.2.length = a.1)) (fun a : Nat × (List Foot) => l.length - a.1) (fun (a : Nat × (List Foot)) (o : Out) (lv : List (Nat × Value)) (M : St) => (o = .exit 0 ∧ (a.1 = l.length) ∧ lv = [(3, slL 0 3 a.2.length), (6, inlL rcells 8 l), (7, .int .i64 ((l.length : Nat) : Int)), (8, .int .i64 ((a.1 : Nat) : Int))] ∧ M = ((St.empty 0).new (rowL fcells a.2)))) (Nat.zero_le _) (fun a ha => ?_) (fun a ha => ?_) (fun a m ha => ?_) (fun a m ha => ?_) (0, ([] : List Foot)) m2 ?_).up ?_
  · exact ⟨by kernel_rfl, ((wf_empty 0).new _), (selfs (all_cons (o := rowL fcells a.2) (by kernel_rfl) (OSub.arr (subs_clo (flatL_clo fcells_clo))) (all_none)))⟩
  · exact ⟨.slice ⟨by decide, rfl⟩, sub_clo rfl, sub_clo rfl, sub_clo rfl, trivial⟩
  · exact ⟨by kernel_rfl, by kernel_rfl, by kernel_rfl, by kernel_rfl, trivial⟩
  · obtain ⟨i, o⟩ := a
    obtain ⟨i0, i1, i2⟩ := ha
    dsimp only at i0 i1 i2
    refine sk_seq ?_
    refine sk_regionL Try.cfgOk hS ?_
    refine aT (fun h3 => ?_) (fun h3 => ?_)
    · have c4e : (decide ((((i : Nat) : Int) : Int) < ((l.length : Nat) : Int))) = true := Eq.trans (by kernel_rfl) h3
      clear h3
      have c4 : (((i : Nat) : Int) : Int) < ((l.length : Nat) : Int) := of_decide_eq_true c4e
      clear c4e
      refine al_nil ?_
      refine sk_seq ?_
      refine kT ?_
      refine sk_skip (sk_seq (sk_block (sk_seq ?_)))
      refine sk_regionL Try.cfgOk hS ?_
      refine aM (indexAddrV Try.cfg 25 (inlL rcells 8 l) (.int .i64 ((i : Nat) : Int))) (elt (flatL rcells l) (i * 8)) (idx_inlL tokC (by kernel_rfl) (by first | omega | simp)) ?_
      have hx5l : i < l.length := by omega
      refine Exists.elim (get_ex hx5l) fun x5 hx5 => ?_
      clear hx5l
      refine aM (loadV Try.cfg (St.empty 0) 38 (elt (flatL rcells l) (i * 8))) (.agg #[.int .i64 x5.1, .bool x5.2.1, .int .i64 x5.2.2.1, inlL ccells 6 x5.2.2.2.1, inlL kcells 2 x5.2.2.2.2.1, inlL scells 3 x5.2.2.2.2.2.1, inlL kcells 2 x5.2.2.2.2.2.2.1, inlL wcells 4 x5.2.2.2.2.2.2.2]) (load_el tokC (by kernel_rfl) rcells_len hx5) ?_
      refine aN ?_
      refine sk_regionL Try.cfgOk hS ?_
      refine aK 2 ?_
      refine aC 17 [.agg #[.int .i64 x5.1, .bool x5.2.1, .int .i64 x5.2.2.1, inlL ccells 6 x5.2.2.2.1, inlL kcells 2 x5.2.2.2.2.1, inlL scells 3 x5.2.2.2.2.2.1, inlL kcells 2 x5.2.2.2.2.2.2.1, inlL wcells 4 x5.2.2.2.2.2.2.2]] (.agg #[inlL kcells 2 (kj (flatR [touchF (x5.1, x5.2.1, x5.2.2.1, x5.2.2.2.1, x5.2.2.2.2.1, x5.2.2.2.2.2.1, x5.2.2.2.2.2.2.1, x5.2.2.2.2.2.2.2)])), inlL scells 3 (sj (flatS [touchF (x5.1, x5.2.1, x5.2.2.1, x5.2.2.2.1, x5.2.2.2.2.1, x5.2.2.2.2.2.1, x5.2.2.2.2.2.2.1, x5.2.2.2.2.2.2.2)])), inlL kcells 2 (kj (flatW [touchF (x5.1, x5.2.1, x5.2.2.1, x5.2.2.2.1, x5.2.2.2.2.1, x5.2.2.2.2.2.1, x5.2.2.2.2.2.2.1, x5.2.2.2.2.2.2.2)]))]) _ rfl (hC17 _ _ _ _ (con_touch_at x5.1 x5.2.1 x5.2.2.1 x5.2.2.2.1 x5.2.2.2.2.1 x5.2.2.2.2.2.1 x5.2.2.2.2.2.2.1 x5.2.2.2.2.2.2.2 (by first | omega | (have q := h1 _ (List.mem_of_getElem? (by assumption)); unfold smR at q; omega)) (by first | omega | (have q := h1 _ (List.mem_of_getElem? (by assumption)); unfold smR at q; omega)) (by first | omega | (have q := h1 _ (List.mem_of_getElem? (by assumption)); unfold smR at q; omega)) (by first | omega | (have q := h1 _ (List.mem_of_getElem? (by assumption)); unfold smR at q; omega)) _)) ?_
      refine aK 1 ?_
      refine al_opF (v := slL 0 3 (o ++ [((kj (flatR [touchF (x5.1, x5.2.1, x5.2.2.1, x5.2.2.2.1, x5.2.2.2.2.1, x5.2.2.2.2.2.1, x5.2.2.2.2.2.2.1, x5.2.2.2.2.2.2.2)])), (sj (flatS [touchF (x5.1, x5.2.1, x5.2.2.1, x5.2.2.2.1, x5.2.2.2.2.1, x5.2.2.2.2.2.1, x5.2.2.2.2.2.2.1, x5.2.2.2.2.2.2.2)])), (kj (flatW [touchF (x5.1, x5.2.1, x5.2.2.1, x5.2.2.2.1, x5.2.2.2.2.1, x5.2.2.2.2.2.1, x5.2.2.2.2.2.2.1, x5.2.2.2.2.2.2.2)])))]).length) (s1 := ((((St.empty 0).new (rowL fcells o)).new (.cells [.int .i64 x5.1, .bool x5.2.1, .int .i64 x5.2.2.1, inlL ccells 6 x5.2.2.2.1, inlL kcells 2 x5.2.2.2.2.1, inlL scells 3 x5.2.2.2.2.2.1, inlL kcells 2 x5.2.2.2.2.2.2.1, inlL wcells 4 x5.2.2.2.2.2.2.2])).new (.arr [inlL kcells 2 (kj (flatR [touchF (x5.1, x5.2.1, x5.2.2.1, x5.2.2.2.1, x5.2.2.2.2.1, x5.2.2.2.2.2.1, x5.2.2.2.2.2.2.1, x5.2.2.2.2.2.2.2)])), inlL scells 3 (sj (flatS [touchF (x5.1, x5.2.1, x5.2.2.1, x5.2.2.2.1, x5.2.2.2.2.1, x5.2.2.2.2.2.1, x5.2.2.2.2.2.2.1, x5.2.2.2.2.2.2.2)])), inlL kcells 2 (kj (flatW [touchF (x5.1, x5.2.1, x5.2.2.1, x5.2.2.2.1, x5.2.2.2.2.1, x5.2.2.2.2.2.1, x5.2.2.2.2.2.2.1, x5.2.2.2.2.2.2.2)]))] 0 false)).set 0 (rowL fcells (o ++ [((kj (flatR [touchF (x5.1, x5.2.1, x5.2.2.1, x5.2.2.2.1, x5.2.2.2.2.1, x5.2.2.2.2.2.1, x5.2.2.2.2.2.2.1, x5.2.2.2.2.2.2.2)])), (sj (flatS [touchF (x5.1, x5.2.1, x5.2.2.1, x5.2.2.2.1, x5.2.2.2.2.1, x5.2.2.2.2.2.1, x5.2.2.2.2.2.2.1, x5.2.2.2.2.2.2.2)])), (kj (flatW [touchF (x5.1, x5.2.1, x5.2.2.1, x5.2.2.2.1, x5.2.2.2.2.1, x5.2.2.2.2.2.1, x5.2.2.2.2.2.2.1, x5.2.2.2.2.2.2.2)])))]))) (by kernel_rfl) (by kernel_rfl) (Eq.trans (b := appendV Try.cfg ((((St.empty 0).new (rowL fcells o)).new (.cells [.int .i64 x5.1, .bool x5.2.1, .int .i64 x5.2.2.1, inlL ccells 6 x5.2.2.2.1, inlL kcells 2 x5.2.2.2.2.1, inlL scells 3 x5.2.2.2.2.2.1, inlL kcells 2 x5.2.2.2.2.2.2.1, inlL wcells 4 x5.2.2.2.2.2.2.2])).new (.arr [inlL kcells 2 (kj (flatR [touchF (x5.1, x5.2.1, x5.2.2.1, x5.2.2.2.1, x5.2.2.2.2.1, x5.2.2.2.2.2.1, x5.2.2.2.2.2.2.1, x5.2.2.2.2.2.2.2)])), inlL scells 3 (sj (flatS [touchF (x5.1, x5.2.1, x5.2.2.1, x5.2.2.2.1, x5.2.2.2.2.1, x5.2.2.2.2.2.1, x5.2.2.2.2.2.2.1, x5.2.2.2.2.2.2.2)])), inlL kcells 2 (kj (flatW [touchF (x5.1, x5.2.1, x5.2.2.1, x5.2.2.2.1, x5.2.2.2.2.1, x5.2.2.2.2.2.1, x5.2.2.2.2.2.2.1, x5.2.2.2.2.2.2.2)]))] 0 false)) 49 (slL 0 3 o.length) (.slice (some ⟨2, 0, some 3⟩) 1 3)) (by kernel_rfl) (app_rowL (l := o) (l2 := [((kj (flatR [touchF (x5.1, x5.2.1, x5.2.2.1, x5.2.2.2.1, x5.2.2.2.2.1, x5.2.2.2.2.2.1, x5.2.2.2.2.2.2.1, x5.2.2.2.2.2.2.2)])), (sj (flatS [touchF (x5.1, x5.2.1, x5.2.2.1, x5.2.2.2.1, x5.2.2.2.2.1, x5.2.2.2.2.2.1, x5.2.2.2.2.2.2.1, x5.2.2.2.2.2.2.2)])), (kj (flatW [touchF (x5.1, x5.2.1, x5.2.2.1, x5.2.2.2.1, x5.2.2.2.2.1, x5.2.2.2.2.2.1, x5.2.2.2.2.2.2.1, x5.2.2.2.2.2.2.2)])))]) (bytes := 72) tokC (by kernel_rfl) fcells_len fcells_one (by kernel_rfl) (by kernel_rfl) (by kernel_rfl) (by (try simp only [List.length_cons, List.length_nil, List.length_append]); omega))) ?_
      refine aN ?_
      refine sk_regionL Try.cfgOk hS ?_
      refine aE (v := .int .i64 (IntKind.wrap .i64 (((i : Nat) : Int) + 1))) (.int .i64 ((i + 1 : Nat) : Int)) (congrArg (Value.int .i64) (wrap_to (by omega) (by omega))) ?_
      refine aN ?_
      refine .inl ⟨(i + 1, (o ++ [((kj (flatR [touchF (x5.1, x5.2.1, x5.2.2.1, x5.2.2.2.1, x5.2.2.2.2.1, x5.2.2.2.2.2.1, x5.2.2.2.2.2.2.1, x5.2.2.2.2.2.2.2)])), (sj (flatS [touchF (x5.1, x5.2.1, x5.2.2.1, x5.2.2.2.1, x5.2.2.2.2.1, x5.2.2.2.2.2.1, x5.2.2.2.2.2.2.1, x5.2.2.2.2.2.2.2)])), (kj (flatW [touchF (x5.1, x5.2.1, x5.2.2.1, x5.2.2.2.1, x5.2.2.2.2.1, x5.2.2.2.2.2.1, x5.2.2.2.2.2.2.1, x5.2.2.2.2.2.2.2)])))])), rfl, ⟨?_, ?_, ?_⟩, ?_, ⟨by kernel_rfl, ⟨by kernel_rfl, by kernel_rfl, by kernel_rfl, by kernel_rfl, trivial⟩, ⟨.slice ⟨by decide, rfl⟩, sub_clo rfl, sub_clo rfl, sub_clo rfl, trivial⟩, Nat.le_of_ble_eq_true (by kernel_rfl), ⟨by kernel_rfl, ((wf_empty 0).new _), (selfs (all_cons (o := rowL fcells (o ++ [((kj (flatR [touchF (x5.1, x5.2.1, x5.2.2.1, x5.2.2.2.1, x5.2.2.2.2.1, x5.2.2.2.2.2.1, x5.2.2.2.2.2.2.1, x5.2.2.2.2.2.2.2)])), (sj (flatS [touchF (x5.1, x5.2.1, x5.2.2.1, x5.2.2.2.1, x5.2.2.2.2.1, x5.2.2.2.2.2.1, x5.2.2.2.2.2.2.1, x5.2.2.2.2.2.2.2)])), (kj (flatW [touchF (x5.1, x5.2.1, x5.2.2.1, x5.2.2.2.1, x5.2.2.2.2.1, x5.2.2.2.2.2.1, x5.2.2.2.2.2.2.1, x5.2.2.2.2.2.2.2)])))])) (by kernel_rfl) (OSub.arr (subs_clo (flatL_clo fcells_clo))) (all_none)))⟩, mem_all (by kernel_rfl)⟩⟩
      · (try dsimp only); omega
      · (try dsimp only); rw [i1]; exact (map_snoc (f := touchJ) (by assumption)).symm
      · (try dsimp only); simp only [List.length_append, List.length_cons, List.length_nil]; omega
      · dsimp only; omega
    · have c4e : (decide ((((i : Nat) : Int) : Int) < ((l.length : Nat) : Int))) = false := Eq.trans (by kernel_rfl) h3
      clear h3
      have c4 : ¬ (((i : Nat) : Int) : Int) < ((l.length : Nat) : Int) := of_decide_eq_false c4e
      clear c4e
      refine al_nil ?_
      refine sk_seq ?_
      refine kF ?_
      refine sk_exit ?_
      dsimp only
      refine .inr ⟨_, _, (fun h => by cases h), ⟨rfl, ?_, rfl, rfl⟩, ⟨by kernel_rfl, ⟨by kernel_rfl, by kernel_rfl, by kernel_rfl, by kernel_rfl, trivial⟩, ⟨.slice ⟨by decide, rfl⟩, sub_clo rfl, sub_clo rfl, sub_clo rfl, trivial⟩, Nat.le_of_ble_eq_true (by kernel_rfl), ⟨by kernel_rfl, ((wf_empty 0).new _), (selfs (all_cons (o := rowL fcells o) (by kernel_rfl) (OSub.arr (subs_clo (flatL_clo fcells_clo))) (all_none)))⟩, mem_all (by kernel_rfl)⟩⟩
      · omega
  · exact ⟨by ((try dsimp only); first | done | (omega)), by ((try dsimp only); first | done | (rfl)), by ((try dsimp only); first | done | (rfl))⟩
  rintro o e1 s1 ⟨a, lv1, M1, m2, ha, ⟨rfl, hx, rfl, rfl⟩, rfl, rfl⟩
  obtain ⟨i, o⟩ := a
  obtain ⟨i0, i1, i2⟩ := ha
  dsimp only at hx i0 i1 i2
  dsimp only
  try rw [if_pos rfl]
  refine sk_seq ?_
  refine kK Try.cfgOk hS ?_
  refine sk_ret ?_
  exact ⟨[slL 0 3 o.length], by kernel_rfl, fs_to (fs_rowL (by decide) fcells_len fcells_clo fcells_one (Nat.le_of_ble_eq_true (by kernel_rfl)) (by kernel_rfl)) (congrArg (inlL fcells 3) (by rw [i1, List.take_of_length_le (by omega)])), Nat.le_of_ble_eq_true (by kernel_rfl)⟩
noncomputable def con_feet : Con Try.prog 0 := Con.pure (α := (List Rec8)) 11 (fun z9 => [inlL rcells 8 z9]) (fun z9 => inlL fcells 3 (feetL z9)) (fun z9 => (z9.length ≤ 1000000) ∧ (∀ r ∈ z9, smR r)) (by
  intro x y h
  simp only [List.cons.injEq, and_true, Int.natCast_inj, UInt8.toNat_inj, Value.int.injEq, Value.bool.injEq, Value.string.injEq, Value.agg.injEq, Array.mk.injEq, true_and, rcells_iff] at h
  first | exact h | (simp only [Prod.ext_iff, h, and_self, and_true, true_and]; done) | simp_all [Prod.ext_iff]) (fun _ => rfl) (fun _ => rfl) 400 (by
  rintro x ⟨p0, p1⟩
  exact feet_sc x p0 p1)
theorem con_feet_at (l : List Rec8) (h0 : l.length ≤ 1000000) (h1 : ∀ r ∈ l, smR r) (s : St) : con_feet.rel [inlL rcells 8 l] s (inlL fcells 3 (feetL l)) s := con_pure l ⟨h0, h1⟩ s
theorem keptA_fn : Try.cfg.fn 7 = some Try.f7 := by kernel_rfl
set_option maxHeartbeats 4000000 in
set_option maxRecDepth 100000 in
theorem keptA_sc (l : List Rec8) (h0 : l.length ≤ 1000000) (h1 : ∀ r ∈ l, smR r) : SC Try.prog 0 7 [inlL rcells 8 l] (St.empty 0) fun v s' => v = inlL wlcells 1 (keptL l) ∧ s'.n ≤ 400 := by
  obtain ⟨rc, hS, hC⟩ := rc_con (sound_run Try.cfgOk 300) [con_feet, con_kept] (by kernel_rfl)
  have hC11 := hC con_feet (.head _)
  have hC12 := hC con_kept (.tail _ (.head _))
  refine sc_ice0 (N := 400) (v2 := inlL wlcells 1 (keptL l)) (Q := fun v s' => FS 0 s' v (inlL wlcells 1 (keptL l)) ∧ s'.n ≤ 400) ?_ (fun _ _ h => h)
  refine sc_body Try.cfgOk keptA_fn rfl ?_
  refine sk_seq ?_
  refine kK Try.cfgOk hS ?_
  refine sk_seq ?_
  refine kK Try.cfgOk hS ?_
  refine sk_seq ?_
  refine sk_regionL Try.cfgOk hS ?_
  refine aK 1 ?_
  refine aC 11 [inlL rcells 8 l] (inlL fcells 3 (feetL l)) _ rfl (hC11 _ _ _ _ (con_feet_at l (by first | omega | (have q := h1 _ (List.mem_of_getElem? (by assumption)); unfold smR at q; omega) | exact fun f hf => feet_small h1 f (List.mem_of_mem_drop hf) | assumption | (rw [List.length_drop]; omega)) (by first | omega | (have q := h1 _ (List.mem_of_getElem? (by assumption)); unfold smR at q; omega) | exact fun f hf => feet_small h1 f (List.mem_of_mem_drop hf) | assumption | (rw [List.length_drop]; omega)) _)) ?_
  refine aN ?_
  refine sk_seq (sk_seq ?_)
  refine sk_regionL Try.cfgOk hS ?_
  refine aK 1 ?_
  refine aM (lenB Try.cfg (St.empty 0) 25 (inlL rcells 8 l)) (.int .i64 ((l.length : Nat) : Int)) (len_inl tokC (by kernel_rfl)) ?_
  refine aN ?_
  refine sk_block ?_
  refine sk_live 27 [(3, .slice none 0 0), (4, inlL fcells 3 (feetL l)), (9, inlL rcells 8 l), (10, .int .i64 ((l.length : Nat) : Int)), (11, .int .i64 0)] (by kernel_rfl) ⟨by kernel_rfl, by kernel_rfl, by kernel_rfl, by kernel_rfl, by kernel_rfl, trivial⟩ fun m1 => ?_
  refine sk_st (St.empty 0) (by kernel_rfl) ?_
  refine virt_at (n := 27) (t := 3) (sz := 1) [(3, slL 0 1 0), (4, inlL fcells 3 (feetL l)), (9, inlL rcells 8 l), (10, .int .i64 ((l.length : Nat) : Int)), (11, .int .i64 0)] (by decide) (wf_empty 0) (by kernel_rfl) (by kernel_rfl) (by kernel_rfl) fun m1v => ?_
  refine sk_live 27 ((fun a : Nat × (List (List Wr)) => [(3, slL 0 1 a.2.length), (4, inlL fcells 3 (feetL l)), (9, inlL rcells 8 l), (10, .int .i64 ((l.length : Nat) : Int)), (11, .int .i64 ((a.1 : Nat) : Int))]) (0, ([] : List (List Wr)))) (by kernel_rfl) ⟨by kernel_rfl, by kernel_rfl, by kernel_rfl, by kernel_rfl, by kernel_rfl, trivial⟩ fun m2 => ?_
  refine sk_st ((fun a : Nat × (List (List Wr)) => ((St.empty 0).new (rowL wlcells a.2))) (0, ([] : List (List Wr)))) (by kernel_rfl) ?_
  refine (sk_while (k := 1) (N := 400) (live := (fun a : Nat × (List (List Wr)) => [(3, slL 0 1 a.2.length), (4, inlL fcells 3 (feetL l)), (9, inlL rcells 8 l), (10, .int .i64 ((l.length : Nat) : Int)), (11, .int .i64 ((a.1 : Nat) : Int))])) (M := (fun a : Nat × (List (List Wr)) => ((St.empty 0).new (rowL wlcells a.2)))) (fun a : Nat × (List (List Wr)) => (a.1 ≤ l.length) ∧ (a.2 = (keptL l).take a.1) ∧ (a.2.length = a.1) ∧ ((feetL l).length = l.length)) (fun a : Nat × (List (List Wr)) => l.length - a.1) (fun (a : Nat × (List (List Wr))) (o : Out) (lv : List (Nat × Value)) (M : St) => (o = .exit 0 ∧ (a.1 = l.length) ∧ lv = [(3, slL 0 1 a.2.length), (4, inlL fcells 3 (feetL l)), (9, inlL rcells 8 l), (10, .int .i64 ((l.length : Nat) : Int)), (11, .int .i64 ((a.1 : Nat) : Int))] ∧ M = ((St.empty 0).new (rowL wlcells a.2)))) (Nat.zero_le _) (fun a ha => ?_) (fun a ha => ?_) (fun a m ha => ?_) (fun a m ha => ?_) (0, ([] : List (List Wr))) m2 ?_).up ?_
  · exact ⟨by kernel_rfl, ((wf_empty 0).new _), (selfs (all_cons (o := rowL wlcells a.2) (by kernel_rfl) (OSub.arr (subs_clo (flatL_clo wlcells_clo))) (all_none)))⟩
  · exact ⟨.slice ⟨by decide, rfl⟩, sub_clo rfl, sub_clo rfl, sub_clo rfl, sub_clo rfl, trivial⟩
  · exact ⟨by kernel_rfl, by kernel_rfl, by kernel_rfl, by kernel_rfl, by kernel_rfl, trivial⟩
  · obtain ⟨i, o⟩ := a
    obtain ⟨i0, i1, i2, i3⟩ := ha
    dsimp only at i0 i1 i2 i3
    refine sk_seq ?_
    refine sk_regionL Try.cfgOk hS ?_
    refine aT (fun h3 => ?_) (fun h3 => ?_)
    · have c4e : (decide ((((i : Nat) : Int) : Int) < ((l.length : Nat) : Int))) = true := Eq.trans (by kernel_rfl) h3
      clear h3
      have c4 : (((i : Nat) : Int) : Int) < ((l.length : Nat) : Int) := of_decide_eq_true c4e
      clear c4e
      refine al_nil ?_
      refine sk_seq ?_
      refine kT ?_
      refine sk_skip (sk_seq (sk_block (sk_seq ?_)))
      refine sk_regionL Try.cfgOk hS ?_
      refine aK 1 ?_
      refine aM (indexAddrV Try.cfg 25 (inlL rcells 8 l) (.int .i64 ((i : Nat) : Int))) (elt (flatL rcells l) (i * 8)) (idx_inlL tokC (by kernel_rfl) (by first | omega | simp)) ?_
      have hx5l : i < l.length := by omega
      refine Exists.elim (get_ex hx5l) fun x5 hx5 => ?_
      clear hx5l
      refine aM (loadV Try.cfg (St.empty 0) 38 (elt (flatL rcells l) (i * 8))) (.agg #[.int .i64 x5.1, .bool x5.2.1, .int .i64 x5.2.2.1, inlL ccells 6 x5.2.2.2.1, inlL kcells 2 x5.2.2.2.2.1, inlL scells 3 x5.2.2.2.2.2.1, inlL kcells 2 x5.2.2.2.2.2.2.1, inlL wcells 4 x5.2.2.2.2.2.2.2]) (load_el tokC (by kernel_rfl) rcells_len hx5) ?_
      refine aN ?_
      refine sk_drawL Try.cfgOk hS ?_
      refine dK 4 ?_
      refine dE (v := .int .i64 (IntKind.wrap .i64 (((i : Nat) : Int) + 1))) (.int .i64 ((i + 1 : Nat) : Int)) (congrArg (Value.int .i64) (wrap_to (by omega) (by omega))) ?_
      refine dM (sliceV Try.cfg 49 (inlL fcells 3 (feetL l)) (some (.int .i64 ((i + 1 : Nat) : Int))) none none) (inlL fcells 3 ((feetL l).drop (i + 1))) (cut_lo (m := i + 1) tokC (by kernel_rfl) fcells_len (by omega)) ?_
      refine dC 12 [.agg #[.int .i64 x5.1, .bool x5.2.1, .int .i64 x5.2.2.1, inlL ccells 6 x5.2.2.2.1, inlL kcells 2 x5.2.2.2.2.1, inlL scells 3 x5.2.2.2.2.2.1, inlL kcells 2 x5.2.2.2.2.2.2.1, inlL wcells 4 x5.2.2.2.2.2.2.2], inlL fcells 3 ((feetL l).drop (i + 1))] (inlL wcells 4 (keptW (x5.1, x5.2.1, x5.2.2.1, x5.2.2.2.1, x5.2.2.2.2.1, x5.2.2.2.2.2.1, x5.2.2.2.2.2.2.1, x5.2.2.2.2.2.2.2) ((feetL l).drop (i + 1)))) _ rfl (hC12 _ _ _ _ (con_kept_at x5.1 x5.2.1 x5.2.2.1 x5.2.2.2.1 x5.2.2.2.2.1 x5.2.2.2.2.2.1 x5.2.2.2.2.2.2.1 x5.2.2.2.2.2.2.2 ((feetL l).drop (i + 1)) (by first | omega | (have q := h1 _ (List.mem_of_getElem? (by assumption)); unfold smR at q; omega) | exact fun f hf => feet_small h1 f (List.mem_of_mem_drop hf) | assumption | (rw [List.length_drop]; omega)) (by first | omega | (have q := h1 _ (List.mem_of_getElem? (by assumption)); unfold smR at q; omega) | exact fun f hf => feet_small h1 f (List.mem_of_mem_drop hf) | assumption | (rw [List.length_drop]; omega)) (by first | omega | (have q := h1 _ (List.mem_of_getElem? (by assumption)); unfold smR at q; omega) | exact fun f hf => feet_small h1 f (List.mem_of_mem_drop hf) | assumption | (rw [List.length_drop]; omega)) _)) ?_
      refine dK 1 ?_
      refine ald_opF (v := slL 0 1 (o ++ [(keptW (x5.1, x5.2.1, x5.2.2.1, x5.2.2.2.1, x5.2.2.2.2.1, x5.2.2.2.2.2.1, x5.2.2.2.2.2.2.1, x5.2.2.2.2.2.2.2) ((feetL l).drop (i + 1)))]).length) (s1 := ((((St.empty 0).new (rowL wlcells o)).new (.cells [.int .i64 x5.1, .bool x5.2.1, .int .i64 x5.2.2.1, inlL ccells 6 x5.2.2.2.1, inlL kcells 2 x5.2.2.2.2.1, inlL scells 3 x5.2.2.2.2.2.1, inlL kcells 2 x5.2.2.2.2.2.2.1, inlL wcells 4 x5.2.2.2.2.2.2.2])).new (.arr [inlL wcells 4 (keptW (x5.1, x5.2.1, x5.2.2.1, x5.2.2.2.1, x5.2.2.2.2.1, x5.2.2.2.2.2.1, x5.2.2.2.2.2.2.1, x5.2.2.2.2.2.2.2) ((feetL l).drop (i + 1)))] 0 false)).set 0 (rowL wlcells (o ++ [(keptW (x5.1, x5.2.1, x5.2.2.1, x5.2.2.2.1, x5.2.2.2.2.1, x5.2.2.2.2.2.1, x5.2.2.2.2.2.2.1, x5.2.2.2.2.2.2.2) ((feetL l).drop (i + 1)))]))) (by kernel_rfl) (by kernel_rfl) (Eq.trans (b := appendV Try.cfg ((((St.empty 0).new (rowL wlcells o)).new (.cells [.int .i64 x5.1, .bool x5.2.1, .int .i64 x5.2.2.1, inlL ccells 6 x5.2.2.2.1, inlL kcells 2 x5.2.2.2.2.1, inlL scells 3 x5.2.2.2.2.2.1, inlL kcells 2 x5.2.2.2.2.2.2.1, inlL wcells 4 x5.2.2.2.2.2.2.2])).new (.arr [inlL wcells 4 (keptW (x5.1, x5.2.1, x5.2.2.1, x5.2.2.2.1, x5.2.2.2.2.1, x5.2.2.2.2.2.1, x5.2.2.2.2.2.2.1, x5.2.2.2.2.2.2.2) ((feetL l).drop (i + 1)))] 0 false)) 27 (slL 0 1 o.length) (.slice (some ⟨2, 0, some 1⟩) 1 1)) (by kernel_rfl) (app_rowL (l := o) (l2 := [(keptW (x5.1, x5.2.1, x5.2.2.1, x5.2.2.2.1, x5.2.2.2.2.1, x5.2.2.2.2.2.1, x5.2.2.2.2.2.2.1, x5.2.2.2.2.2.2.2) ((feetL l).drop (i + 1)))]) (bytes := 24) tokC (by kernel_rfl) wlcells_len wlcells_one (by kernel_rfl) (by kernel_rfl) (by kernel_rfl) (by (try simp only [List.length_cons, List.length_nil, List.length_append]); omega))) (by kernel_rfl) ?_
      refine dK 1 ?_
      refine ald_nil ?_
      refine sk_regionL Try.cfgOk hS ?_
      refine aE (v := .int .i64 (IntKind.wrap .i64 (((i : Nat) : Int) + 1))) (.int .i64 ((i + 1 : Nat) : Int)) (congrArg (Value.int .i64) (wrap_to (by omega) (by omega))) ?_
      refine aN ?_
      refine .inl ⟨(i + 1, (o ++ [(keptW (x5.1, x5.2.1, x5.2.2.1, x5.2.2.2.1, x5.2.2.2.2.1, x5.2.2.2.2.2.1, x5.2.2.2.2.2.2.1, x5.2.2.2.2.2.2.2) ((feetL l).drop (i + 1)))])), rfl, ⟨?_, ?_, ?_, ?_⟩, ?_, ⟨by kernel_rfl, ⟨by kernel_rfl, by kernel_rfl, by kernel_rfl, by kernel_rfl, by kernel_rfl, trivial⟩, ⟨.slice ⟨by decide, rfl⟩, sub_clo rfl, sub_clo rfl, sub_clo rfl, sub_clo rfl, trivial⟩, Nat.le_of_ble_eq_true (by kernel_rfl), ⟨by kernel_rfl, ((wf_empty 0).new _), (selfs (all_cons (o := rowL wlcells (o ++ [(keptW (x5.1, x5.2.1, x5.2.2.1, x5.2.2.2.1, x5.2.2.2.2.1, x5.2.2.2.2.2.1, x5.2.2.2.2.2.2.1, x5.2.2.2.2.2.2.2) ((feetL l).drop (i + 1)))])) (by kernel_rfl) (OSub.arr (subs_clo (flatL_clo wlcells_clo))) (all_none)))⟩, mem_all (by kernel_rfl)⟩⟩
      · (try dsimp only); omega
      · (try dsimp only); rw [i1]; exact (take_one (by rw [kept_get, show _ = _ from (by assumption : l[i]? = some _)]; rfl)).symm
      · (try dsimp only); simp only [List.length_append, List.length_cons, List.length_nil]; omega
      · (try dsimp only); assumption
      · dsimp only; omega
    · have c4e : (decide ((((i : Nat) : Int) : Int) < ((l.length : Nat) : Int))) = false := Eq.trans (by kernel_rfl) h3
      clear h3
      have c4 : ¬ (((i : Nat) : Int) : Int) < ((l.length : Nat) : Int) := of_decide_eq_false c4e
      clear c4e
      refine al_nil ?_
      refine sk_seq ?_
      refine kF ?_
      refine sk_exit ?_
      dsimp only
      refine .inr ⟨_, _, (fun h => by cases h), ⟨rfl, ?_, rfl, rfl⟩, ⟨by kernel_rfl, ⟨by kernel_rfl, by kernel_rfl, by kernel_rfl, by kernel_rfl, by kernel_rfl, trivial⟩, ⟨.slice ⟨by decide, rfl⟩, sub_clo rfl, sub_clo rfl, sub_clo rfl, sub_clo rfl, trivial⟩, Nat.le_of_ble_eq_true (by kernel_rfl), ⟨by kernel_rfl, ((wf_empty 0).new _), (selfs (all_cons (o := rowL wlcells o) (by kernel_rfl) (OSub.arr (subs_clo (flatL_clo wlcells_clo))) (all_none)))⟩, mem_all (by kernel_rfl)⟩⟩
      · omega
  · exact ⟨by ((try dsimp only); first | done | (omega)), by ((try dsimp only); first | done | (rfl)), by ((try dsimp only); first | done | (rfl)), by ((try dsimp only); first | done | (exact List.length_map _))⟩
  rintro o e1 s1 ⟨a, lv1, M1, m2, ha, ⟨rfl, hx, rfl, rfl⟩, rfl, rfl⟩
  obtain ⟨i, o⟩ := a
  obtain ⟨i0, i1, i2, i3⟩ := ha
  dsimp only at hx i0 i1 i2 i3
  dsimp only
  try rw [if_pos rfl]
  refine sk_seq ?_
  refine kK Try.cfgOk hS ?_
  refine sk_ret ?_
  exact ⟨[slL 0 1 o.length], by kernel_rfl, fs_to (fs_rowL (by decide) wlcells_len wlcells_clo wlcells_one (Nat.le_of_ble_eq_true (by kernel_rfl)) (by kernel_rfl)) (congrArg (inlL wlcells 1) (by rw [i1, List.take_of_length_le (by rw [kept_len]; omega)])), Nat.le_of_ble_eq_true (by kernel_rfl)⟩
noncomputable def con_keptA : Con Try.prog 0 := Con.pure (α := (List Rec8)) 7 (fun z9 => [inlL rcells 8 z9]) (fun z9 => inlL wlcells 1 (keptL z9)) (fun z9 => (z9.length ≤ 1000000) ∧ (∀ r ∈ z9, smR r)) (by
  intro x y h
  simp only [List.cons.injEq, and_true, Int.natCast_inj, UInt8.toNat_inj, Value.int.injEq, Value.bool.injEq, Value.string.injEq, Value.agg.injEq, Array.mk.injEq, true_and, rcells_iff] at h
  first | exact h | (simp only [Prod.ext_iff, h, and_self, and_true, true_and]; done) | simp_all [Prod.ext_iff]) (fun _ => rfl) (fun _ => rfl) 400 (by
  rintro x ⟨p0, p1⟩
  exact keptA_sc x p0 p1)
theorem con_keptA_at (l : List Rec8) (h0 : l.length ≤ 1000000) (h1 : ∀ r ∈ l, smR r) (s : St) : con_keptA.rel [inlL rcells 8 l] s (inlL wlcells 1 (keptL l)) s := con_pure l ⟨h0, h1⟩ s
end Go.Proofs.Ytfpkfcdeoiofiaa