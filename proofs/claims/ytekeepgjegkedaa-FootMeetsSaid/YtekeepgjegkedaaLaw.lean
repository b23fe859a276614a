/- The law. -/
import Derived.Test.YtekeepgjegkedaaLarge
set_option linter.unusedVariables false
set_option linter.unusedSimpArgs false
set_option linter.unnecessarySimpa false
namespace Go.Proofs.Ytekeepgjegkedaa
open Go.Ai
theorem small2 {a b : Foot} (h : ¬ largeL [a, b]) : (a.1.length ≤ 60 ∧ a.2.1.length ≤ 60 ∧ a.2.2.length ≤ 60) ∧ b.1.length ≤ 60 ∧ b.2.1.length ≤ 60 ∧ b.2.2.length ≤ 60 := by
  have h0 : ¬ bigF [a, b] 0 := fun q => h ⟨0, by simp, q⟩
  have h1 : ¬ bigF [a, b] 1 := fun q => h ⟨1, by simp, q⟩
  rw [bigF_iff (x := a) rfl] at h0
  rw [bigF_iff (x := b) rfl] at h1
  omega
theorem in_eq {l : List Span} {t k : Int} : inP l t k ↔ inR l t k := by
  refine exists_congr fun x => and_congr Iff.rfl ?_
  omega
theorem reads_eq {rs : List Key} {ss : List Span} {t k : Int} : readsP rs ss t k ↔ readsR rs ss t k := by
  unfold readsP readsR
  rw [in_eq]
  exact Or.comm
theorem hits_eq {rs : List Key} {ss : List Span} {ws : List Key} {t k : Int} : hitsP rs ss ws t k ↔ hitsR rs ss ws t k := or_congr reads_eq Iff.rfl
theorem meet_eq {ar : List Key} {az : List Span} {aw br : List Key} {bz : List Span} {bw : List Key} : (ontoP aw br bz bw ∨ ontoP bw ar az aw) ↔ (meetR1 aw br bz bw ∨ meetR2 bw ar az) := by
  constructor
  · rintro (⟨x, h1, h2⟩ | ⟨x, h1, h2⟩)
    · exact .inl ⟨x, h1, hits_eq.1 h2⟩
    · rcases h2 with h2 | ⟨y, h3, h4, h5⟩
      · exact .inr ⟨x, h1, reads_eq.1 h2⟩
      · exact .inl ⟨x, Prod.ext h4 h5 ▸ h3, .inr ⟨x, h1, rfl, rfl⟩⟩
  · rintro (⟨x, h1, h2⟩ | ⟨x, h1, h2⟩)
    · exact .inl ⟨x, h1, hits_eq.2 h2⟩
    · exact .inr ⟨x, h1, .inl (reads_eq.2 h2)⟩
def in64 (n : Int) : Prop := -9223372036854775808 ≤ n ∧ n < 9223372036854775808
theorem cmp_or3 {a b c d e f : Int} : ¬ orL [cmpI a d, cmpI b e, cmpI c f] < 0 ↔ ¬ (a < d ∨ a = d ∧ (b < e ∨ b = e ∧ c < f)) := by
  simp only [orL, cmpI, List.find?_cons, List.find?_nil]
  repeat' split
  all_goals simp_all
  all_goals omega
theorem wrap1 {n : Int} (h : in64 n) (h2 : n < 9223372036854775807) : IntKind.wrap .i64 (n + 1) = n + 1 := wrap64 (by unfold in64 at h; omega)
theorem bad_eq {l : List Span} (hr : ∀ x ∈ l, in64 x.2.1 ∧ in64 x.2.2) {i : Nat} (h : ∀ j, j < i → ¬ badF l j) : badF l i ↔ badR l i := by
  cases hx : l[i]? with
  | none => constructor <;> (rintro ⟨x, h1, _⟩; rw [hx] at h1; cases h1)
  | some x =>
    by_cases h0 : 0 < i
    · have hi := (List.getElem?_eq_some_iff.1 hx).1
      obtain ⟨y, hy⟩ := get_ex (l := l) (i := i - 1) (by omega)
      rw [badF_iff2 hx hy, badR_iff2 hx hy, cmp_or3]
      have hb := h (i - 1) (by omega)
      rw [badF_iff hy] at hb
      have rx := hr x (List.mem_of_getElem? hx)
      have ry := hr y (List.mem_of_getElem? hy)
      have e : y.2.2 < 9223372036854775807 → IntKind.wrap .i64 (y.2.2 + 1) = y.2.2 + 1 := wrap1 ry.2
      have hl : ¬ y.2.1 > y.2.2 := fun q => hb (.inr (.inl q))
      unfold in64 at rx ry
      omega
    · rw [badF_iff hx, badR_iff hx]
      constructor <;> (rintro (q | q | ⟨q, _⟩); exact .inl q; exact .inr (.inl q); omega)
theorem bads_eq {l : List Span} (hr : ∀ x ∈ l, in64 x.2.1 ∧ in64 x.2.2) : badFL l ↔ badRL l := by
  have key : ∀ i, (∃ j, j < i ∧ badF l j) ↔ (∃ j, j < i ∧ badR l j) := by
    intro i
    induction i with
    | zero => exact ⟨fun ⟨_, h, _⟩ => absurd h (Nat.not_lt_zero _), fun ⟨_, h, _⟩ => absurd h (Nat.not_lt_zero _)⟩
    | succ i ih =>
      by_cases hb : ∃ j, j < i ∧ badF l j
      · obtain ⟨j, h1, h2⟩ := hb
        obtain ⟨k, h3, h4⟩ := ih.1 ⟨j, h1, h2⟩
        exact ⟨fun _ => ⟨k, by omega, h4⟩, fun _ => ⟨j, by omega, h2⟩⟩
      · have e := bad_eq hr (i := i) fun j hj q => hb ⟨j, hj, q⟩
        have hb' : ¬ ∃ j, j < i ∧ badR l j := fun q => hb (ih.2 q)
        constructor
        · rintro ⟨j, h1, h2⟩
          by_cases hj : j = i
          · exact ⟨i, by omega, e.1 (hj ▸ h2)⟩
          · exact absurd ⟨j, by omega, h2⟩ hb
        · rintro ⟨j, h1, h2⟩
          by_cases hj : j = i
          · exact ⟨i, by omega, e.2 (hj ▸ h2)⟩
          · exact absurd ⟨j, by omega, h2⟩ hb'
  exact key l.length
theorem good_eq {rs : List Key} {ss : List Span} {ws : List Key} (hr : ∀ x ∈ ss, in64 x.2.1 ∧ in64 x.2.2) : goodP rs ss ws ↔ goodR rs ss ws := and_congr (not_congr (bads_eq hr)) Iff.rfl
theorem law_fn : Try.cfg.fn 5 = some Try.f5 := by kernel_rfl
set_option maxHeartbeats 4000000 in
set_option maxRecDepth 100000 in
theorem law_sc (ar : List Key) (az : List Span) (aw : List Key) (br : List Key) (bz : List Span) (bw : List Key) (kt : Int) (kk : Int) (h0 : ∀ x ∈ az, in64 x.2.1 ∧ in64 x.2.2) : SC Try.prog 0 5 [.agg #[inlL kcells 2 ar, inlL scells 3 az, inlL kcells 2 aw], .agg #[inlL kcells 2 br, inlL scells 3 bz, inlL kcells 2 bw], .agg #[.int .i64 kt, .int .i64 kk]] (St.empty 0) fun v s' => v = .bool true ∧ s'.n ≤ 400 := by
  obtain ⟨rc, hS, hC⟩ := rc_con (sound_run Try.cfgOk 300) [con_alive, con_large, con_meetP_, con_meetR_, con_goodP_, con_goodR_, con_readsF, con_readsR_, con_writesP, con_writesR, con_lessP, con_lessR] (by kernel_rfl)
  have hC8 := hC con_alive (.head _)
  have hC9 := hC con_large (.tail _ (.head _))
  have hC19 := hC con_meetP_ (.tail _ (.tail _ (.head _)))
  have hC20 := hC con_meetR_ (.tail _ (.tail _ (.tail _ (.head _))))
  have hC11 := hC con_goodP_ (.tail _ (.tail _ (.tail _ (.tail _ (.head _)))))
  have hC21 := hC con_goodR_ (.tail _ (.tail _ (.tail _ (.tail _ (.tail _ (.head _))))))
  have hC17 := hC con_readsF (.tail _ (.tail _ (.tail _ (.tail _ (.tail _ (.tail _ (.head _)))))))
  have hC14 := hC con_readsR_ (.tail _ (.tail _ (.tail _ (.tail _ (.tail _ (.tail _ (.tail _ (.head _))))))))
  have hC18 := hC con_writesP (.tail _ (.tail _ (.tail _ (.tail _ (.tail _ (.tail _ (.tail _ (.tail _ (.head _)))))))))
  have hC15 := hC con_writesR (.tail _ (.tail _ (.tail _ (.tail _ (.tail _ (.tail _ (.tail _ (.tail _ (.tail _ (.head _))))))))))
  have hC22 := hC con_lessP (.tail _ (.tail _ (.tail _ (.tail _ (.tail _ (.tail _ (.tail _ (.tail _ (.tail _ (.tail _ (.head _)))))))))))
  have hC23 := hC con_lessR (.tail _ (.tail _ (.tail _ (.tail _ (.tail _ (.tail _ (.tail _ (.tail _ (.tail _ (.tail _ (.tail _ (.head _))))))))))))
  refine sc_ice0 (N := 400) (v2 := .bool true) (Q := fun v s' => FS 0 s' v (.bool true) ∧ s'.n ≤ 400) ?_ (fun _ _ h => h)
  refine sc_body Try.cfgOk law_fn rfl ?_
  repeat' (with_reducible first | refine sk_seq ?_ | refine sk_block ?_ | refine sk_skip ?_ | refine sk_scope ?_)
  refine sk_regionK Try.cfgOk hS (by kernel_rfl) ?_
  repeat' (with_reducible first | refine sk_seq ?_ | refine sk_block ?_ | refine sk_skip ?_ | refine sk_scope ?_)
  refine sk_regionL Try.cfgOk hS ?_
  refine al_callH 8 [] (.bool true) _ rfl (fun b h => by cases h) (by kernel_rfl) (by kernel_rfl) (hC8 _ _ _ _ (con_alive_at   _)) ?_
  refine al_known (by kernel_rfl) ?_
  repeat' (with_reducible first | refine sk_seq ?_ | refine sk_block ?_ | refine sk_skip ?_ | refine sk_scope ?_)
  refine sk_false (by kernel_rfl) ?_
  repeat' (with_reducible first | refine sk_seq ?_ | refine sk_block ?_ | refine sk_skip ?_ | refine sk_scope ?_)
  refine sk_regionL Try.cfgOk hS ?_
  refine al_chunk 3 (by kernel_rfl) ?_
  refine al_callB 9 [.slice (some ⟨3, 0, some 6⟩) 2 3] (tf (largeL ([(ar, az, aw), (br, bz, bw)]))) _ rfl (fun b h => by cases h) (by kernel_rfl) (by kernel_rfl) (hC9 _ _ _ _ (con_large_at ([(ar, az, aw), (br, bz, bw)]) 3 (by first | omega | (simp; done) | (have q := small2 (by assumption); simp only at q; omega)) _ (by kernel_rfl) (by kernel_rfl) )) (fun h1 => ?_) (fun h1 => ?_)
  · have c2 : largeL ([(ar, az, aw), (br, bz, bw)]) := tf_t h1
    clear h1
    refine al_nil ?_
    repeat' (with_reducible first | refine sk_seq ?_ | refine sk_block ?_ | refine sk_skip ?_ | refine sk_scope ?_)
    refine sk_true (by kernel_rfl) ?_
    repeat' (with_reducible first | refine sk_seq ?_ | refine sk_block ?_ | refine sk_skip ?_ | refine sk_scope ?_)
    refine sk_regionK Try.cfgOk hS (by kernel_rfl) ?_
    repeat' (with_reducible first | refine sk_seq ?_ | refine sk_block ?_ | refine sk_skip ?_ | refine sk_scope ?_)
    refine sk_ret ?_
    exact ⟨[.bool true], by kernel_rfl, fs_clo rfl, Nat.le_of_ble_eq_true (by kernel_rfl)⟩
  · have c2 : ¬ (largeL ([(ar, az, aw), (br, bz, bw)])) := tf_f h1
    clear h1
    obtain ⟨⟨q1, q2, q3⟩, q4, q5, q6⟩ := small2 c2
    simp only at q1 q2 q3 q4 q5 q6
    refine al_nil ?_
    repeat' (with_reducible first | refine sk_seq ?_ | refine sk_block ?_ | refine sk_skip ?_ | refine sk_scope ?_)
    refine sk_false (by kernel_rfl) ?_
    repeat' (with_reducible first | refine sk_seq ?_ | refine sk_block ?_ | refine sk_skip ?_ | refine sk_scope ?_)
    refine sk_drawL Try.cfgOk hS ?_
    refine ald_chunk 2 (by kernel_rfl) ?_
    refine ald_callH 19 [.agg #[inlL kcells 2 ar, inlL scells 3 az, inlL kcells 2 aw], .agg #[inlL kcells 2 br, inlL scells 3 bz, inlL kcells 2 bw]] (.bool (decide (ontoP aw br bz bw ∨ ontoP bw ar az aw))) _ rfl (fun b h => by cases h) (by kernel_rfl) (by kernel_rfl) (hC19 _ _ _ _ (con_meetP__at ar az aw br bz bw (by first | omega | (simp; done) | (have q := small2 (by assumption); simp only at q; omega)) (by first | omega | (simp; done) | (have q := small2 (by assumption); simp only at q; omega)) (by first | omega | (simp; done) | (have q := small2 (by assumption); simp only at q; omega)) (by first | omega | (simp; done) | (have q := small2 (by assumption); simp only at q; omega)) (by first | omega | (simp; done) | (have q := small2 (by assumption); simp only at q; omega)) (by first | omega | (simp; done) | (have q := small2 (by assumption); simp only at q; omega)) _)) (by kernel_rfl) ?_
    refine ald_readK (d := (0, St.empty 0, St.empty 0)) (by kernel_rfl) (by kernel_rfl) (by kernel_rfl) (by kernel_rfl) (below_len (k := 1) (by kernel_rfl) (all1 (.inr (read_again (by kernel_rfl) (Eq.trans (b := .agg #[inlL kcells 2 ar, inlL scells 3 az, inlL kcells 2 aw]) (by kernel_rfl) (by kernel_rfl)))))) ?_
    refine ald_readK (d := (0, St.empty 0, St.empty 0)) (by kernel_rfl) (by kernel_rfl) (by kernel_rfl) (by kernel_rfl) (below_len (k := 1) (by kernel_rfl) (all1 (.inr (read_again (by kernel_rfl) (Eq.trans (b := .agg #[inlL kcells 2 br, inlL scells 3 bz, inlL kcells 2 bw]) (by kernel_rfl) (by kernel_rfl)))))) ?_
    refine ald_callH 20 [.agg #[inlL kcells 2 ar, inlL scells 3 az, inlL kcells 2 aw], .agg #[inlL kcells 2 br, inlL scells 3 bz, inlL kcells 2 bw]] (.bool (decide (meetR1 aw br bz bw ∨ meetR2 bw ar az))) _ rfl (fun b h => by cases h) (by kernel_rfl) (by kernel_rfl) (hC20 _ _ _ _ (con_meetR__at ar az aw br bz bw (by first | omega | (simp; done) | (have q := small2 (by assumption); simp only at q; omega)) (by first | omega | (simp; done) | (have q := small2 (by assumption); simp only at q; omega)) (by first | omega | (simp; done) | (have q := small2 (by assumption); simp only at q; omega)) (by first | omega | (simp; done) | (have q := small2 (by assumption); simp only at q; omega)) (by first | omega | (simp; done) | (have q := small2 (by assumption); simp only at q; omega)) (by first | omega | (simp; done) | (have q := small2 (by assumption); simp only at q; omega)) _)) (by kernel_rfl) ?_
    refine ald_eqv (v := .bool (!((decide (ontoP aw br bz bw ∨ ontoP bw ar az aw)) == (decide (meetR1 aw br bz bw ∨ meetR2 bw ar az))))) (.bool false) (by kernel_rfl) (by kernel_rfl) (by kernel_rfl) (congrArg Value.bool (neq_same (by first | exact Iff.rfl | exact meet_eq | exact Or.comm | exact reads_eq))) (by kernel_rfl) ?_
    refine ald_chunk 3 (by kernel_rfl) ?_
    refine ald_callH 19 [.agg #[inlL kcells 2 br, inlL scells 3 bz, inlL kcells 2 bw], .agg #[inlL kcells 2 ar, inlL scells 3 az, inlL kcells 2 aw]] (.bool (decide (ontoP bw ar az aw ∨ ontoP aw br bz bw))) _ rfl (fun b h => by cases h) (by kernel_rfl) (by kernel_rfl) (hC19 _ _ _ _ (con_meetP__at br bz bw ar az aw (by first | omega | (simp; done) | (have q := small2 (by assumption); simp only at q; omega)) (by first | omega | (simp; done) | (have q := small2 (by assumption); simp only at q; omega)) (by first | omega | (simp; done) | (have q := small2 (by assumption); simp only at q; omega)) (by first | omega | (simp; done) | (have q := small2 (by assumption); simp only at q; omega)) (by first | omega | (simp; done) | (have q := small2 (by assumption); simp only at q; omega)) (by first | omega | (simp; done) | (have q := small2 (by assumption); simp only at q; omega)) _)) (by kernel_rfl) ?_
    refine ald_readK (d := (0, St.empty 0, St.empty 0)) (by kernel_rfl) (by kernel_rfl) (by kernel_rfl) (by kernel_rfl) (below_len (k := 3) (by kernel_rfl) (all3 (.inr (read_again (by kernel_rfl) (Eq.trans (b := .agg #[inlL kcells 2 ar, inlL scells 3 az, inlL kcells 2 aw]) (by kernel_rfl) (by kernel_rfl)))) (.inl (by kernel_rfl)) (.inl (by kernel_rfl)))) ?_
    refine ald_readK (d := (0, St.empty 0, St.empty 0)) (by kernel_rfl) (by kernel_rfl) (by kernel_rfl) (by kernel_rfl) (below_len (k := 3) (by kernel_rfl) (all3 (.inr (read_again (by kernel_rfl) (Eq.trans (b := .agg #[inlL kcells 2 br, inlL scells 3 bz, inlL kcells 2 bw]) (by kernel_rfl) (by kernel_rfl)))) (.inl (by kernel_rfl)) (.inl (by kernel_rfl)))) ?_
    refine ald_callH 19 [.agg #[inlL kcells 2 ar, inlL scells 3 az, inlL kcells 2 aw], .agg #[inlL kcells 2 br, inlL scells 3 bz, inlL kcells 2 bw]] (.bool (decide (ontoP aw br bz bw ∨ ontoP bw ar az aw))) _ rfl (fun b h => by cases h) (by kernel_rfl) (by kernel_rfl) (hC19 _ _ _ _ (con_meetP__at ar az aw br bz bw (by first | omega | (simp; done) | (have q := small2 (by assumption); simp only at q; omega)) (by first | omega | (simp; done) | (have q := small2 (by assumption); simp only at q; omega)) (by first | omega | (simp; done) | (have q := small2 (by assumption); simp only at q; omega)) (by first | omega | (simp; done) | (have q := small2 (by assumption); simp only at q; omega)) (by first | omega | (simp; done) | (have q := small2 (by assumption); simp only at q; omega)) (by first | omega | (simp; done) | (have q := small2 (by assumption); simp only at q; omega)) _)) (by kernel_rfl) ?_
    refine ald_eqv (v := .bool (!((decide (ontoP bw ar az aw ∨ ontoP aw br bz bw)) == (decide (ontoP aw br bz bw ∨ ontoP bw ar az aw))))) (.bool false) (by kernel_rfl) (by kernel_rfl) (by kernel_rfl) (congrArg Value.bool (neq_same (by first | exact Iff.rfl | exact meet_eq | exact Or.comm | exact reads_eq))) (by kernel_rfl) ?_
    refine ald_chunk 3 (by kernel_rfl) ?_
    refine ald_callH 11 [.agg #[inlL kcells 2 ar, inlL scells 3 az, inlL kcells 2 aw]] (.bool (tf (goodP ar az aw))) _ rfl (fun b h => by cases h) (by kernel_rfl) (by kernel_rfl) (hC11 _ _ _ _ (con_goodP__at ar az aw (by first | omega | (simp; done) | (have q := small2 (by assumption); simp only at q; omega)) (by first | omega | (simp; done) | (have q := small2 (by assumption); simp only at q; omega)) (by first | omega | (simp; done) | (have q := small2 (by assumption); simp only at q; omega)) _)) (by kernel_rfl) ?_
    refine ald_readK (d := (0, St.empty 0, St.empty 0)) (by kernel_rfl) (by kernel_rfl) (by kernel_rfl) (by kernel_rfl) (below_len (k := 5) (by kernel_rfl) (all5 (.inr (read_again (by kernel_rfl) (Eq.trans (b := .agg #[inlL kcells 2 ar, inlL scells 3 az, inlL kcells 2 aw]) (by kernel_rfl) (by kernel_rfl)))) (.inl (by kernel_rfl)) (.inl (by kernel_rfl)) (.inl (by kernel_rfl)) (.inl (by kernel_rfl)))) ?_
    refine ald_callH 21 [.agg #[inlL kcells 2 ar, inlL scells 3 az, inlL kcells 2 aw]] (.bool (tf (goodR ar az aw))) _ rfl (fun b h => by cases h) (by kernel_rfl) (by kernel_rfl) (hC21 _ _ _ _ (con_goodR__at ar az aw (by first | omega | (simp; done) | (have q := small2 (by assumption); simp only at q; omega)) (by first | omega | (simp; done) | (have q := small2 (by assumption); simp only at q; omega)) (by first | omega | (simp; done) | (have q := small2 (by assumption); simp only at q; omega)) _)) (by kernel_rfl) ?_
    refine ald_eqv (v := .bool (!((tf (goodP ar az aw)) == (tf (goodR ar az aw))))) (.bool false) (by kernel_rfl) (by kernel_rfl) (by kernel_rfl) (congrArg Value.bool (neq_tf (good_eq h0))) (by kernel_rfl) ?_
    refine ald_chunk 1 (by kernel_rfl) ?_
    refine ald_nil ?_
    repeat' (with_reducible first | refine sk_seq ?_ | refine sk_block ?_ | refine sk_skip ?_ | refine sk_scope ?_)
    refine sk_false (by kernel_rfl) ?_
    repeat' (with_reducible first | refine sk_seq ?_ | refine sk_block ?_ | refine sk_skip ?_ | refine sk_scope ?_)
    refine sk_drawL Try.cfgOk hS ?_
    refine ald_chunk 4 (by kernel_rfl) ?_
    refine ald_opF (v := slL 4 2 ([(kt, kk)] ++ ar).length) (s1 := ((((((St.empty 0).new (.cells [inlL kcells 2 ar, inlL scells 3 az, inlL kcells 2 aw])).new (.cells [inlL kcells 2 br, inlL scells 3 bz, inlL kcells 2 bw])).new (.cells [.int .i64 kt, .int .i64 kk])).new (.arr [inlL kcells 2 ar, inlL scells 3 az, inlL kcells 2 aw, inlL kcells 2 br, inlL scells 3 bz, inlL kcells 2 bw] 0 false)).new (rowL kcells ([(kt, kk)]))).set 4 (rowL kcells ([(kt, kk)] ++ ar))) (by kernel_rfl) (by kernel_rfl) (Eq.trans (b := appendV Try.cfg ((((((St.empty 0).new (.cells [inlL kcells 2 ar, inlL scells 3 az, inlL kcells 2 aw])).new (.cells [inlL kcells 2 br, inlL scells 3 bz, inlL kcells 2 bw])).new (.cells [.int .i64 kt, .int .i64 kk])).new (.arr [inlL kcells 2 ar, inlL scells 3 az, inlL kcells 2 aw, inlL kcells 2 br, inlL scells 3 bz, inlL kcells 2 bw] 0 false)).new (rowL kcells ([(kt, kk)]))) 22 (slL 4 2 ([(kt, kk)].length)) (inlL kcells 2 ar)) (by kernel_rfl) (app_rowL (l := [(kt, kk)]) (l2 := ar) (bytes := 16) tokC (by kernel_rfl) kcells_len kcells_one (by kernel_rfl) (lenV_inl tokC) (firstV_inlL tokC kcells_len) (by simp only [List.length_cons, List.length_nil, List.length_append]; omega))) (by kernel_rfl) ?_
    refine ald_chunk 1 (by kernel_rfl) ?_
    refine ald_readK (d := (0, St.empty 0, St.empty 0)) (by kernel_rfl) (by kernel_rfl) (by kernel_rfl) (by kernel_rfl) (below_len (k := 1) (by kernel_rfl) (all1 (.inr (read_again (by kernel_rfl) (Eq.trans (b := inlL kcells 2 aw) (by kernel_rfl) (by kernel_rfl)))))) ?_
    refine ald_opF (v := slL 4 2 (([(kt, kk)] ++ ar) ++ aw).length) (s1 := ((((((St.empty 0).new (.cells [inlL kcells 2 ar, inlL scells 3 az, inlL kcells 2 aw])).new (.cells [inlL kcells 2 br, inlL scells 3 bz, inlL kcells 2 bw])).new (.cells [.int .i64 kt, .int .i64 kk])).new (.arr [inlL kcells 2 ar, inlL scells 3 az, inlL kcells 2 aw, inlL kcells 2 br, inlL scells 3 bz, inlL kcells 2 bw] 0 false)).new (rowL kcells ([(kt, kk)] ++ ar))).set 4 (rowL kcells (([(kt, kk)] ++ ar) ++ aw))) (by kernel_rfl) (by kernel_rfl) (Eq.trans (b := appendV Try.cfg ((((((St.empty 0).new (.cells [inlL kcells 2 ar, inlL scells 3 az, inlL kcells 2 aw])).new (.cells [inlL kcells 2 br, inlL scells 3 bz, inlL kcells 2 bw])).new (.cells [.int .i64 kt, .int .i64 kk])).new (.arr [inlL kcells 2 ar, inlL scells 3 az, inlL kcells 2 aw, inlL kcells 2 br, inlL scells 3 bz, inlL kcells 2 bw] 0 false)).new (rowL kcells ([(kt, kk)] ++ ar))) 22 (slL 4 2 (([(kt, kk)] ++ ar).length)) (inlL kcells 2 aw)) (by kernel_rfl) (app_rowL (l := ([(kt, kk)] ++ ar)) (l2 := aw) (bytes := 16) tokC (by kernel_rfl) kcells_len kcells_one (by kernel_rfl) (lenV_inl tokC) (firstV_inlL tokC kcells_len) (by simp only [List.length_cons, List.length_nil, List.length_append]; omega))) (by kernel_rfl) ?_
    refine ald_chunk 2 (by kernel_rfl) ?_
    refine ald_nil ?_
    repeat' (with_reducible first | refine sk_seq ?_ | refine sk_block ?_ | refine sk_skip ?_ | refine sk_scope ?_)
    refine sk_live 77 ((fun a : Nat => [(4, .pointer (some ⟨1, 0, none⟩)), (5, .pointer (some ⟨2, 0, none⟩)), (45, slL 4 2 ((([(kt, kk)] ++ ar) ++ aw).length)), (46, .int .i64 (((([(kt, kk)] ++ ar) ++ aw).length : Nat) : Int)), (47, .int .i64 ((a : Nat) : Int))]) 0) (by kernel_rfl) ⟨by kernel_rfl, by kernel_rfl, by kernel_rfl, by kernel_rfl, by kernel_rfl, trivial⟩ fun m3 => ?_
    refine sk_st ((fun a : Nat => ((((((St.empty 0).new (.cells [inlL kcells 2 ar, inlL scells 3 az, inlL kcells 2 aw])).new (.cells [inlL kcells 2 br, inlL scells 3 bz, inlL kcells 2 bw])).new (.cells [.int .i64 kt, .int .i64 kk])).new (.arr [inlL kcells 2 ar, inlL scells 3 az, inlL kcells 2 aw, inlL kcells 2 br, inlL scells 3 bz, inlL kcells 2 bw] 0 false)).new (rowL kcells (([(kt, kk)] ++ ar) ++ aw)))) 0) (by kernel_rfl) ?_
    refine (sk_while (k := 5) (N := 400) (live := (fun a : Nat => [(4, .pointer (some ⟨1, 0, none⟩)), (5, .pointer (some ⟨2, 0, none⟩)), (45, slL 4 2 ((([(kt, kk)] ++ ar) ++ aw).length)), (46, .int .i64 (((([(kt, kk)] ++ ar) ++ aw).length : Nat) : Int)), (47, .int .i64 ((a : Nat) : Int))])) (M := (fun a : Nat => ((((((St.empty 0).new (.cells [inlL kcells 2 ar, inlL scells 3 az, inlL kcells 2 aw])).new (.cells [inlL kcells 2 br, inlL scells 3 bz, inlL kcells 2 bw])).new (.cells [.int .i64 kt, .int .i64 kk])).new (.arr [inlL kcells 2 ar, inlL scells 3 az, inlL kcells 2 aw, inlL kcells 2 br, inlL scells 3 bz, inlL kcells 2 bw] 0 false)).new (rowL kcells (([(kt, kk)] ++ ar) ++ aw))))) (fun a : Nat => (a ≤ ([(kt, kk)] ++ ar ++ aw).length) ∧ (([(kt, kk)] ++ ar ++ aw).length ≤ 1000)) (fun a : Nat => ([(kt, kk)] ++ ar ++ aw).length - a) (fun (a : Nat) (o : Out) (lv : List (Nat × Value)) (M : St) => (o = .exit 0 ∧ (True) ∧ lv = [(4, .pointer (some ⟨1, 0, none⟩)), (5, .pointer (some ⟨2, 0, none⟩)), (45, slL 4 2 ((([(kt, kk)] ++ ar) ++ aw).length)), (46, .int .i64 (((([(kt, kk)] ++ ar) ++ aw).length : Nat) : Int)), (47, .int .i64 ((a : Nat) : Int))] ∧ M = ((((((St.empty 0).new (.cells [inlL kcells 2 ar, inlL scells 3 az, inlL kcells 2 aw])).new (.cells [inlL kcells 2 br, inlL scells 3 bz, inlL kcells 2 bw])).new (.cells [.int .i64 kt, .int .i64 kk])).new (.arr [inlL kcells 2 ar, inlL scells 3 az, inlL kcells 2 aw, inlL kcells 2 br, inlL scells 3 bz, inlL kcells 2 bw] 0 false)).new (rowL kcells (([(kt, kk)] ++ ar) ++ aw))))) (Nat.zero_le _) (fun a ha => ?_) (fun a ha => ?_) (fun a m ha => ?_) (fun a m ha => ?_) 0 m3 ?_).up ?_
    · exact ⟨by kernel_rfl, ((((((wf_empty 0).new _).new _).new _).new _).new _), (selfs (all_cons (o := .cells [inlL kcells 2 ar, inlL scells 3 az, inlL kcells 2 aw]) (by kernel_rfl) (OSub.cells (.cons (sub_clo rfl) (.cons (sub_clo rfl) (.cons (sub_clo rfl) .nil)))) (all_cons (o := .cells [inlL kcells 2 br, inlL scells 3 bz, inlL kcells 2 bw]) (by kernel_rfl) (OSub.cells (.cons (sub_clo rfl) (.cons (sub_clo rfl) (.cons (sub_clo rfl) .nil)))) (all_cons (o := .cells [.int .i64 kt, .int .i64 kk]) (by kernel_rfl) (OSub.cells (.cons (sub_clo rfl) (.cons (sub_clo rfl) .nil))) (all_cons (o := .arr [inlL kcells 2 ar, inlL scells 3 az, inlL kcells 2 aw, inlL kcells 2 br, inlL scells 3 bz, inlL kcells 2 bw] 0 false) (by kernel_rfl) (OSub.arr (.cons (sub_clo rfl) (.cons (sub_clo rfl) (.cons (sub_clo rfl) (.cons (sub_clo rfl) (.cons (sub_clo rfl) (.cons (sub_clo rfl) .nil))))))) (all_cons (o := rowL kcells (([(kt, kk)] ++ ar) ++ aw)) (by kernel_rfl) (OSub.arr (subs_clo (flatL_clo kcells_clo))) (all_none)))))))⟩
    · exact ⟨.ptr ⟨by decide, rfl⟩, .ptr ⟨by decide, rfl⟩, .slice ⟨by decide, rfl⟩, sub_clo rfl, sub_clo rfl, trivial⟩
    · exact ⟨by kernel_rfl, by kernel_rfl, by kernel_rfl, by kernel_rfl, by kernel_rfl, trivial⟩
    · obtain ⟨i, ea⟩ : ∃ z, z = a := ⟨_, rfl⟩
      subst ea
      obtain ⟨i0, i1⟩ := ha
      repeat' (with_reducible first | refine sk_seq ?_ | refine sk_block ?_ | refine sk_skip ?_ | refine sk_scope ?_)
      refine sk_regionL Try.cfgOk hS ?_
      refine al_test (by kernel_rfl) (by kernel_rfl) (by kernel_rfl) (fun h4 => ?_) (fun h4 => ?_)
      · have c5e : (decide ((((i : Nat) : Int) : Int) < (((([(kt, kk)] ++ ar) ++ aw).length : Nat) : Int))) = true := Eq.trans (by kernel_rfl) h4
        clear h4
        have c5 : (((i : Nat) : Int) : Int) < (((([(kt, kk)] ++ ar) ++ aw).length : Nat) : Int) := of_decide_eq_true c5e
        clear c5e
        refine al_nil ?_
        repeat' (with_reducible first | refine sk_seq ?_ | refine sk_block ?_ | refine sk_skip ?_ | refine sk_scope ?_)
        refine sk_true (by kernel_rfl) ?_
        repeat' (with_reducible first | refine sk_seq ?_ | refine sk_block ?_ | refine sk_skip ?_ | refine sk_scope ?_)
        refine sk_regionL Try.cfgOk hS ?_
        refine al_map (indexAddrV Try.cfg 22 (slL 4 2 ((([(kt, kk)] ++ ar) ++ aw).length)) (.int .i64 ((i : Nat) : Int))) (.pointer (some ⟨4, i * 2, some (((([(kt, kk)] ++ ar) ++ aw).length) * 2)⟩)) (by kernel_rfl) (by kernel_rfl) (by kernel_rfl) (idx_rowL (by kernel_rfl) (by omega)) ?_
        obtain ⟨x6, hx6⟩ := get_ex (l := (([(kt, kk)] ++ ar) ++ aw)) (i := i) (by omega)
        refine al_map (loadV Try.cfg ((((((St.empty 0).new (.cells [inlL kcells 2 ar, inlL scells 3 az, inlL kcells 2 aw])).new (.cells [inlL kcells 2 br, inlL scells 3 bz, inlL kcells 2 bw])).new (.cells [.int .i64 kt, .int .i64 kk])).new (.arr [inlL kcells 2 ar, inlL scells 3 az, inlL kcells 2 aw, inlL kcells 2 br, inlL scells 3 bz, inlL kcells 2 bw] 0 false)).new (rowL kcells (([(kt, kk)] ++ ar) ++ aw))) 30 (.pointer (some ⟨4, i * 2, some (((([(kt, kk)] ++ ar) ++ aw).length) * 2)⟩))) (.agg #[.int .i64 x6.1, .int .i64 x6.2]) (by kernel_rfl) (by kernel_rfl) (by kernel_rfl) (load_rowL (l := (([(kt, kk)] ++ ar) ++ aw)) (by kernel_rfl) kcells_len (by kernel_rfl) hx6) ?_
        refine al_known (by kernel_rfl) ?_
        repeat' (with_reducible first | refine sk_seq ?_ | refine sk_block ?_ | refine sk_skip ?_ | refine sk_scope ?_)
        refine sk_drawL Try.cfgOk hS ?_
        refine ald_chunk 2 (by kernel_rfl) ?_
        refine ald_callH 17 [.agg #[inlL kcells 2 br, inlL scells 3 bz, inlL kcells 2 bw], .agg #[.int .i64 x6.1, .int .i64 x6.2]] (.bool (decide (readsP br bz x6.1 x6.2))) _ rfl (fun b h => by cases h) (by kernel_rfl) (by kernel_rfl) (hC17 _ _ _ _ (con_readsF_at br bz bw x6.1 x6.2 (by first | omega | (simp; done) | (have q := small2 (by assumption); simp only at q; omega)) (by first | omega | (simp; done) | (have q := small2 (by assumption); simp only at q; omega)) _)) (by kernel_rfl) ?_
        refine ald_readK (d := (0, St.empty 0, St.empty 0)) (by kernel_rfl) (by kernel_rfl) (by kernel_rfl) (by kernel_rfl) (below_len (k := 1) (by kernel_rfl) (all1 (.inr (read_again (by kernel_rfl) (Eq.trans (b := .agg #[inlL kcells 2 br, inlL scells 3 bz, inlL kcells 2 bw]) (by kernel_rfl) (by kernel_rfl)))))) ?_
        refine ald_readK (d := (0, St.empty 0, St.empty 0)) (by kernel_rfl) (by kernel_rfl) (by kernel_rfl) (by kernel_rfl) (below_len (k := 1) (by kernel_rfl) (all1 (.inr (read_again (by kernel_rfl) (Eq.trans (b := .agg #[.int .i64 x6.1, .int .i64 x6.2]) (by kernel_rfl) (by kernel_rfl)))))) ?_
        refine ald_callH 14 [.agg #[inlL kcells 2 br, inlL scells 3 bz, inlL kcells 2 bw], .agg #[.int .i64 x6.1, .int .i64 x6.2]] (.bool (decide (readsR br bz x6.1 x6.2))) _ rfl (fun b h => by cases h) (by kernel_rfl) (by kernel_rfl) (hC14 _ _ _ _ (con_readsR__at br bz bw x6.1 x6.2 (by first | omega | (simp; done) | (have q := small2 (by assumption); simp only at q; omega)) (by first | omega | (simp; done) | (have q := small2 (by assumption); simp only at q; omega)) (by first | omega | (simp; done) | (have q := small2 (by assumption); simp only at q; omega)) _)) (by kernel_rfl) ?_
        refine ald_eqv (v := .bool (!((decide (readsP br bz x6.1 x6.2)) == (decide (readsR br bz x6.1 x6.2))))) (.bool false) (by kernel_rfl) (by kernel_rfl) (by kernel_rfl) (congrArg Value.bool (neq_same (by first | exact Iff.rfl | exact meet_eq | exact Or.comm | exact reads_eq))) (by kernel_rfl) ?_
        refine ald_chunk 3 (by kernel_rfl) ?_
        refine ald_callH 18 [.agg #[inlL kcells 2 br, inlL scells 3 bz, inlL kcells 2 bw], .agg #[.int .i64 x6.1, .int .i64 x6.2]] (.bool (decide (hasK bw x6.1 x6.2))) _ rfl (fun b h => by cases h) (by kernel_rfl) (by kernel_rfl) (hC18 _ _ _ _ (con_writesP_at br bz bw x6.1 x6.2 (by first | omega | (simp; done) | (have q := small2 (by assumption); simp only at q; omega)) _)) (by kernel_rfl) ?_
        refine ald_readK (d := (0, St.empty 0, St.empty 0)) (by kernel_rfl) (by kernel_rfl) (by kernel_rfl) (by kernel_rfl) (below_len (k := 3) (by kernel_rfl) (all3 (.inr (read_again (by kernel_rfl) (Eq.trans (b := .agg #[inlL kcells 2 br, inlL scells 3 bz, inlL kcells 2 bw]) (by kernel_rfl) (by kernel_rfl)))) (.inl (by kernel_rfl)) (.inl (by kernel_rfl)))) ?_
        refine ald_readK (d := (0, St.empty 0, St.empty 0)) (by kernel_rfl) (by kernel_rfl) (by kernel_rfl) (by kernel_rfl) (below_len (k := 3) (by kernel_rfl) (all3 (.inr (read_again (by kernel_rfl) (Eq.trans (b := .agg #[.int .i64 x6.1, .int .i64 x6.2]) (by kernel_rfl) (by kernel_rfl)))) (.inl (by kernel_rfl)) (.inl (by kernel_rfl)))) ?_
        refine ald_callH 15 [.agg #[inlL kcells 2 br, inlL scells 3 bz, inlL kcells 2 bw], .agg #[.int .i64 x6.1, .int .i64 x6.2]] (.bool (decide (hasK bw x6.1 x6.2))) _ rfl (fun b h => by cases h) (by kernel_rfl) (by kernel_rfl) (hC15 _ _ _ _ (con_writesR_at br bz bw x6.1 x6.2 (by first | omega | (simp; done) | (have q := small2 (by assumption); simp only at q; omega)) _)) (by kernel_rfl) ?_
        refine ald_eqv (v := .bool (!((decide (hasK bw x6.1 x6.2)) == (decide (hasK bw x6.1 x6.2))))) (.bool false) (by kernel_rfl) (by kernel_rfl) (by kernel_rfl) (congrArg Value.bool (neq_same (by first | exact Iff.rfl | exact meet_eq | exact Or.comm | exact reads_eq))) (by kernel_rfl) ?_
        refine ald_chunk 4 (by kernel_rfl) ?_
        refine ald_callH 22 [.agg #[.int .i64 kt, .int .i64 kk], .agg #[.int .i64 x6.1, .int .i64 x6.2]] (.bool (decide (kt < x6.1 ∨ kt = x6.1 ∧ kk < x6.2))) _ rfl (fun b h => by cases h) (by kernel_rfl) (by kernel_rfl) (hC22 _ _ _ _ (con_lessP_at kt kk x6.1 x6.2  _)) (by kernel_rfl) ?_
        refine ald_readK (d := (0, St.empty 0, St.empty 0)) (by kernel_rfl) (by kernel_rfl) (by kernel_rfl) (by kernel_rfl) (below_len (k := 5) (by kernel_rfl) (all5 (.inr (read_again (by kernel_rfl) (Eq.trans (b := .agg #[.int .i64 kt, .int .i64 kk]) (by kernel_rfl) (by kernel_rfl)))) (.inl (by kernel_rfl)) (.inl (by kernel_rfl)) (.inl (by kernel_rfl)) (.inl (by kernel_rfl)))) ?_
        refine ald_readK (d := (0, St.empty 0, St.empty 0)) (by kernel_rfl) (by kernel_rfl) (by kernel_rfl) (by kernel_rfl) (below_len (k := 5) (by kernel_rfl) (all5 (.inr (read_again (by kernel_rfl) (Eq.trans (b := .agg #[.int .i64 x6.1, .int .i64 x6.2]) (by kernel_rfl) (by kernel_rfl)))) (.inl (by kernel_rfl)) (.inl (by kernel_rfl)) (.inl (by kernel_rfl)) (.inl (by kernel_rfl)))) ?_
        refine ald_callH 23 [.agg #[.int .i64 kt, .int .i64 kk], .agg #[.int .i64 x6.1, .int .i64 x6.2]] (.bool (decide (kt < x6.1 ∨ kt = x6.1 ∧ kk < x6.2))) _ rfl (fun b h => by cases h) (by kernel_rfl) (by kernel_rfl) (hC23 _ _ _ _ (con_lessR_at kt kk x6.1 x6.2  _)) (by kernel_rfl) ?_
        refine ald_eqv (v := .bool (!((decide (kt < x6.1 ∨ kt = x6.1 ∧ kk < x6.2)) == (decide (kt < x6.1 ∨ kt = x6.1 ∧ kk < x6.2))))) (.bool false) (by kernel_rfl) (by kernel_rfl) (by kernel_rfl) (congrArg Value.bool (neq_same (by first | exact Iff.rfl | exact meet_eq | exact Or.comm | exact reads_eq))) (by kernel_rfl) ?_
        refine ald_chunk 1 (by kernel_rfl) ?_
        refine ald_nil ?_
        repeat' (with_reducible first | refine sk_seq ?_ | refine sk_block ?_ | refine sk_skip ?_ | refine sk_scope ?_)
        refine sk_false (by kernel_rfl) ?_
        repeat' (with_reducible first | refine sk_seq ?_ | refine sk_block ?_ | refine sk_skip ?_ | refine sk_scope ?_)
        refine sk_regionL Try.cfgOk hS ?_
        refine al_eqv (v := .int .i64 (IntKind.wrap .i64 (((i : Nat) : Int) + 1))) (.int .i64 ((i + 1 : Nat) : Int)) (by kernel_rfl) (by kernel_rfl) (by kernel_rfl) (congrArg (Value.int .i64) (wrap_to (by omega) (by omega))) ?_
        refine al_known (by kernel_rfl) ?_
        repeat' (with_reducible first | refine sk_seq ?_ | refine sk_block ?_ | refine sk_skip ?_ | refine sk_scope ?_)
        refine .inl ⟨i + 1, rfl, ⟨?_, ?_⟩, ?_, ⟨by kernel_rfl, ⟨by kernel_rfl, by kernel_rfl, by kernel_rfl, by kernel_rfl, by kernel_rfl, trivial⟩, ⟨.ptr ⟨by decide, rfl⟩, .ptr ⟨by decide, rfl⟩, .slice ⟨by decide, rfl⟩, sub_clo rfl, sub_clo rfl, trivial⟩, Nat.le_of_ble_eq_true (by kernel_rfl), ⟨by kernel_rfl, ((((((wf_empty 0).new _).new _).new _).new _).new _), (selfs (all_cons (o := .cells [inlL kcells 2 ar, inlL scells 3 az, inlL kcells 2 aw]) (by kernel_rfl) (OSub.cells (.cons (sub_clo rfl) (.cons (sub_clo rfl) (.cons (sub_clo rfl) .nil)))) (all_cons (o := .cells [inlL kcells 2 br, inlL scells 3 bz, inlL kcells 2 bw]) (by kernel_rfl) (OSub.cells (.cons (sub_clo rfl) (.cons (sub_clo rfl) (.cons (sub_clo rfl) .nil)))) (all_cons (o := .cells [.int .i64 kt, .int .i64 kk]) (by kernel_rfl) (OSub.cells (.cons (sub_clo rfl) (.cons (sub_clo rfl) .nil))) (all_cons (o := .arr [inlL kcells 2 ar, inlL scells 3 az, inlL kcells 2 aw, inlL kcells 2 br, inlL scells 3 bz, inlL kcells 2 bw] 0 false) (by kernel_rfl) (OSub.arr (.cons (sub_clo rfl) (.cons (sub_clo rfl) (.cons (sub_clo rfl) (.cons (sub_clo rfl) (.cons (sub_clo rfl) (.cons (sub_clo rfl) .nil))))))) (all_cons (o := rowL kcells (([(kt, kk)] ++ ar) ++ aw)) (by kernel_rfl) (OSub.arr (subs_clo (flatL_clo kcells_clo))) (all_none)))))))⟩, mem_all (by kernel_rfl)⟩⟩
        · omega
        · assumption
        · omega
      · have c5e : (decide ((((i : Nat) : Int) : Int) < (((([(kt, kk)] ++ ar) ++ aw).length : Nat) : Int))) = false := Eq.trans (by kernel_rfl) h4
        clear h4
        have c5 : ¬ (((i : Nat) : Int) : Int) < (((([(kt, kk)] ++ ar) ++ aw).length : Nat) : Int) := of_decide_eq_false c5e
        clear c5e
        refine al_nil ?_
        repeat' (with_reducible first | refine sk_seq ?_ | refine sk_block ?_ | refine sk_skip ?_ | refine sk_scope ?_)
        refine sk_false (by kernel_rfl) ?_
        repeat' (with_reducible first | refine sk_seq ?_ | refine sk_block ?_ | refine sk_skip ?_ | refine sk_scope ?_)
        refine sk_exit ?_
        dsimp only
        refine .inr ⟨_, _, (fun h => by cases h), ⟨rfl, ?_, rfl, rfl⟩, ⟨by kernel_rfl, ⟨by kernel_rfl, by kernel_rfl, by kernel_rfl, by kernel_rfl, by kernel_rfl, trivial⟩, ⟨.ptr ⟨by decide, rfl⟩, .ptr ⟨by decide, rfl⟩, .slice ⟨by decide, rfl⟩, sub_clo rfl, sub_clo rfl, trivial⟩, Nat.le_of_ble_eq_true (by kernel_rfl), ⟨by kernel_rfl, ((((((wf_empty 0).new _).new _).new _).new _).new _), (selfs (all_cons (o := .cells [inlL kcells 2 ar, inlL scells 3 az, inlL kcells 2 aw]) (by kernel_rfl) (OSub.cells (.cons (sub_clo rfl) (.cons (sub_clo rfl) (.cons (sub_clo rfl) .nil)))) (all_cons (o := .cells [inlL kcells 2 br, inlL scells 3 bz, inlL kcells 2 bw]) (by kernel_rfl) (OSub.cells (.cons (sub_clo rfl) (.cons (sub_clo rfl) (.cons (sub_clo rfl) .nil)))) (all_cons (o := .cells [.int .i64 kt, .int .i64 kk]) (by kernel_rfl) (OSub.cells (.cons (sub_clo rfl) (.cons (sub_clo rfl) .nil))) (all_cons (o := .arr [inlL kcells 2 ar, inlL scells 3 az, inlL kcells 2 aw, inlL kcells 2 br, inlL scells 3 bz, inlL kcells 2 bw] 0 false) (by kernel_rfl) (OSub.arr (.cons (sub_clo rfl) (.cons (sub_clo rfl) (.cons (sub_clo rfl) (.cons (sub_clo rfl) (.cons (sub_clo rfl) (.cons (sub_clo rfl) .nil))))))) (all_cons (o := rowL kcells (([(kt, kk)] ++ ar) ++ aw)) (by kernel_rfl) (OSub.arr (subs_clo (flatL_clo kcells_clo))) (all_none)))))))⟩, mem_all (by kernel_rfl)⟩⟩
        · trivial
    · exact ⟨by omega, by simp only [List.length_cons, List.length_nil, List.length_append]; omega⟩
    rintro o e1 s1 ⟨a, lv1, M1, m3, ha, ⟨rfl, hx, rfl, rfl⟩, rfl, rfl⟩
    obtain ⟨i, ea⟩ : ∃ z, z = a := ⟨_, rfl⟩
    subst ea
    obtain ⟨i0, i1⟩ := ha
    dsimp only
    try rw [if_pos rfl]
    repeat' (with_reducible first | refine sk_seq ?_ | refine sk_block ?_ | refine sk_skip ?_ | refine sk_scope ?_)
    refine sk_regionK Try.cfgOk hS (by kernel_rfl) ?_
    repeat' (with_reducible first | refine sk_seq ?_ | refine sk_block ?_ | refine sk_skip ?_ | refine sk_scope ?_)
    refine sk_ret ?_
    exact ⟨[.bool true], by kernel_rfl, fs_clo rfl, Nat.le_of_ble_eq_true (by kernel_rfl)⟩
noncomputable def con_law : Con Try.prog 0 := Con.pure (α := (List Key) × (List Span) × (List Key) × (List Key) × (List Span) × (List Key) × Int × Int) 5 (fun z9 => [.agg #[inlL kcells 2 z9.1, inlL scells 3 z9.2.1, inlL kcells 2 z9.2.2.1], .agg #[inlL kcells 2 z9.2.2.2.1, inlL scells 3 z9.2.2.2.2.1, inlL kcells 2 z9.2.2.2.2.2.1], .agg #[.int .i64 z9.2.2.2.2.2.2.1, .int .i64 z9.2.2.2.2.2.2.2]]) (fun z9 => .bool true) (fun z9 => (∀ x ∈ z9.2.1, in64 x.2.1 ∧ in64 x.2.2)) (by
  rintro ⟨a0, a1, a2, a3, a4, a5, a6, a7⟩ ⟨b0, b1, b2, b3, b4, b5, b6, b7⟩ h
  simp only [List.cons.injEq, and_true, Value.int.injEq, Value.bool.injEq, Value.string.injEq, Value.agg.injEq, Array.mk.injEq, true_and, kcells_iff, scells_iff] at h
  first | exact h | (simp only [Prod.ext_iff, h, and_self, and_true, true_and]; done) | simp_all [Prod.ext_iff]) (fun _ => rfl) (fun _ => rfl) 400 (by
  rintro ⟨a0, a1, a2, a3, a4, a5, a6, a7⟩ p0
  exact law_sc a0 a1 a2 a3 a4 a5 a6 a7 p0)
theorem con_law_at (ar : List Key) (az : List Span) (aw : List Key) (br : List Key) (bz : List Span) (bw : List Key) (kt : Int) (kk : Int) (h0 : ∀ x ∈ az, in64 x.2.1 ∧ in64 x.2.2) (s : St) : con_law.rel [.agg #[inlL kcells 2 ar, inlL scells 3 az, inlL kcells 2 aw], .agg #[inlL kcells 2 br, inlL scells 3 bz, inlL kcells 2 bw], .agg #[.int .i64 kt, .int .i64 kk]] s (.bool true) s := con_pure (ar, az, aw, br, bz, bw, kt, kk) h0 s
end Go.Proofs.Ytekeepgjegkedaa
