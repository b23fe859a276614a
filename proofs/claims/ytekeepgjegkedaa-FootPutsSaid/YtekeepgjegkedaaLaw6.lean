/- The law: which bytes a foot has. -/
import Derived.Test.YtekeepgjegkedaaTake
import Derived.Test.YtekeepgjegkedaaLaw
import Derived.Test.YtekeepgjegkedaaNum
set_option linter.unusedVariables false
set_option linter.unusedSimpArgs false
set_option linter.unnecessarySimpa false
namespace Go.Proofs.Ytekeepgjegkedaa
open Go.Ai
theorem copies_fn : Try.cfg.fn 13 = some Try.f13 := by kernel_rfl
set_option maxHeartbeats 4000000 in
set_option maxRecDepth 100000 in
theorem copies_sc (rs : List Key) (ss : List Span) (ws : List Key) (h0 : rs.length ≤ 1000000) (h1 : ss.length ≤ 1000000) (h2 : ws.length ≤ 1000000) : SC Try.prog 0 13 [.agg #[inlL kcells 2 rs, inlL scells 3 ss, inlL kcells 2 ws]] (St.empty 0) fun v s' => v = .agg #[inlL kcells 2 rs, inlL scells 3 ss, inlL kcells 2 ws] ∧ s'.n ≤ 400 := by
  have hS := sound_run Try.cfgOk 300
  refine sc_ice0 (N := 400) (v2 := .agg #[inlL kcells 2 rs, inlL scells 3 ss, inlL kcells 2 ws]) (Q := fun v s' => FS 0 s' v (.agg #[inlL kcells 2 rs, inlL scells 3 ss, inlL kcells 2 ws]) ∧ s'.n ≤ 400) ?_ (fun _ _ h => h)
  refine sc_body Try.cfgOk copies_fn rfl ?_
  repeat' (with_reducible first | refine sk_seq ?_ | refine sk_block ?_ | refine sk_skip ?_ | refine sk_scope ?_)
  refine sk_regionK Try.cfgOk hS (by kernel_rfl) ?_
  repeat' (with_reducible first | refine sk_seq ?_ | refine sk_block ?_ | refine sk_skip ?_ | refine sk_scope ?_)
  refine sk_drawL Try.cfgOk hS ?_
  refine ald_chunk 3 (by kernel_rfl) ?_
  refine ald_opF (v := slL 2 2 (([] : List Key) ++ rs).length) (s1 := ((((St.empty 0).new (.cells [inlL kcells 2 rs, inlL scells 3 ss, inlL kcells 2 ws])).new (.cells [.slice none 0 0, .slice none 0 0, .slice none 0 0])).new (rowL kcells ([] : List Key))).set 2 (rowL kcells (([] : List Key) ++ rs))) (by kernel_rfl) (by kernel_rfl) (Eq.trans (b := appendV Try.cfg ((((St.empty 0).new (.cells [inlL kcells 2 rs, inlL scells 3 ss, inlL kcells 2 ws])).new (.cells [.slice none 0 0, .slice none 0 0, .slice none 0 0])).new (rowL kcells ([] : List Key))) 22 (slL 2 2 (([] : List Key).length)) (inlL kcells 2 rs)) (by kernel_rfl) (app_rowL (l := ([] : List Key)) (l2 := rs) (bytes := 16) tokC (by kernel_rfl) kcells_len kcells_one (by kernel_rfl) (lenV_inl tokC) (firstV_inlL tokC kcells_len) (by (try simp only [List.length_cons, List.length_nil, List.length_append]); omega))) (by kernel_rfl) ?_
  refine ald_chunk 2 (by kernel_rfl) ?_
  refine ald_readK (d := (0, St.empty 0, St.empty 0)) (by kernel_rfl) (by kernel_rfl) (by kernel_rfl) (by kernel_rfl) (below_len (k := 1) (by kernel_rfl) (all1 (.inr (read_again (by kernel_rfl) (Eq.trans (b := inlL scells 3 ss) (by kernel_rfl) (by kernel_rfl)))))) ?_
  refine ald_opF (v := slL 3 3 (([] : List Span) ++ ss).length) (s1 := (((((St.empty 0).new (.cells [inlL kcells 2 rs, inlL scells 3 ss, inlL kcells 2 ws])).new (.cells [.slice none 0 0, .slice none 0 0, .slice none 0 0])).new (rowL kcells (([] : List Key) ++ rs))).new (rowL scells ([] : List Span))).set 3 (rowL scells (([] : List Span) ++ ss))) (by kernel_rfl) (by kernel_rfl) (Eq.trans (b := appendV Try.cfg (((((St.empty 0).new (.cells [inlL kcells 2 rs, inlL scells 3 ss, inlL kcells 2 ws])).new (.cells [.slice none 0 0, .slice none 0 0, .slice none 0 0])).new (rowL kcells (([] : List Key) ++ rs))).new (rowL scells ([] : List Span))) 23 (slL 3 3 (([] : List Span).length)) (inlL scells 3 ss)) (by kernel_rfl) (app_rowL (l := ([] : List Span)) (l2 := ss) (bytes := 24) tokC (by kernel_rfl) scells_len scells_one (by kernel_rfl) (lenV_inl tokC) (firstV_inlL tokC scells_len) (by (try simp only [List.length_cons, List.length_nil, List.length_append]); omega))) (by kernel_rfl) ?_
  refine ald_chunk 2 (by kernel_rfl) ?_
  refine ald_readK (d := (0, St.empty 0, St.empty 0)) (by kernel_rfl) (by kernel_rfl) (by kernel_rfl) (by kernel_rfl) (below_len (k := 2) (by kernel_rfl) (all2 (.inr (read_again (by kernel_rfl) (Eq.trans (b := inlL kcells 2 ws) (by kernel_rfl) (by kernel_rfl)))) (.inr (read_again (by kernel_rfl) (Eq.trans (b := inlL kcells 2 ws) (by kernel_rfl) (by kernel_rfl)))))) ?_
  refine ald_opF (v := slL 4 2 (([] : List Key) ++ ws).length) (s1 := ((((((St.empty 0).new (.cells [inlL kcells 2 rs, inlL scells 3 ss, inlL kcells 2 ws])).new (.cells [.slice none 0 0, .slice none 0 0, .slice none 0 0])).new (rowL kcells (([] : List Key) ++ rs))).new (rowL scells (([] : List Span) ++ ss))).new (rowL kcells ([] : List Key))).set 4 (rowL kcells (([] : List Key) ++ ws))) (by kernel_rfl) (by kernel_rfl) (Eq.trans (b := appendV Try.cfg ((((((St.empty 0).new (.cells [inlL kcells 2 rs, inlL scells 3 ss, inlL kcells 2 ws])).new (.cells [.slice none 0 0, .slice none 0 0, .slice none 0 0])).new (rowL kcells (([] : List Key) ++ rs))).new (rowL scells (([] : List Span) ++ ss))).new (rowL kcells ([] : List Key))) 22 (slL 4 2 (([] : List Key).length)) (inlL kcells 2 ws)) (by kernel_rfl) (app_rowL (l := ([] : List Key)) (l2 := ws) (bytes := 16) tokC (by kernel_rfl) kcells_len kcells_one (by kernel_rfl) (lenV_inl tokC) (firstV_inlL tokC kcells_len) (by (try simp only [List.length_cons, List.length_nil, List.length_append]); omega))) (by kernel_rfl) ?_
  refine ald_chunk 2 (by kernel_rfl) ?_
  refine ald_nil ?_
  repeat' (with_reducible first | refine sk_seq ?_ | refine sk_block ?_ | refine sk_skip ?_ | refine sk_scope ?_)
  refine sk_ret ?_
  exact ⟨[.agg #[slL 2 2 ((([] : List Key) ++ rs).length), slL 3 3 ((([] : List Span) ++ ss).length), slL 4 2 ((([] : List Key) ++ ws).length)]], by kernel_rfl, .agg (.cons (fs_to (fs_rowL (by decide) kcells_len kcells_clo kcells_one (Nat.le_of_ble_eq_true (by kernel_rfl)) (by kernel_rfl)) (congrArg (inlL kcells 2) (by rfl))) (.cons (fs_to (fs_rowL (by decide) scells_len scells_clo scells_one (Nat.le_of_ble_eq_true (by kernel_rfl)) (by kernel_rfl)) (congrArg (inlL scells 3) (by rfl))) (.cons (fs_to (fs_rowL (by decide) kcells_len kcells_clo kcells_one (Nat.le_of_ble_eq_true (by kernel_rfl)) (by kernel_rfl)) (congrArg (inlL kcells 2) (by rfl))) (.nil)))), Nat.le_of_ble_eq_true (by kernel_rfl)⟩
noncomputable def con_copies : Con Try.prog 0 := Con.pure (α := (List Key) × (List Span) × (List Key)) 13 (fun z9 => [.agg #[inlL kcells 2 z9.1, inlL scells 3 z9.2.1, inlL kcells 2 z9.2.2]]) (fun z9 => .agg #[inlL kcells 2 z9.1, inlL scells 3 z9.2.1, inlL kcells 2 z9.2.2]) (fun z9 => (z9.1.length ≤ 1000000) ∧ (z9.2.1.length ≤ 1000000) ∧ (z9.2.2.length ≤ 1000000)) (by
  rintro ⟨a0, a1, a2⟩ ⟨b0, b1, b2⟩ h
  simp only [List.cons.injEq, and_true, Int.natCast_inj, Value.int.injEq, Value.bool.injEq, Value.string.injEq, Value.agg.injEq, Array.mk.injEq, true_and, kcells_iff, scells_iff] at h
  first | exact h | (simp only [Prod.ext_iff, h, and_self, and_true, true_and]; done) | simp_all [Prod.ext_iff]) (fun _ => rfl) (fun _ => rfl) 400 (by
  rintro ⟨a0, a1, a2⟩ ⟨p0, p1, p2⟩
  exact copies_sc a0 a1 a2 p0 p1 p2)
theorem con_copies_at (rs : List Key) (ss : List Span) (ws : List Key) (h0 : rs.length ≤ 1000000) (h1 : ss.length ≤ 1000000) (h2 : ws.length ≤ 1000000) (s : St) : con_copies.rel [.agg #[inlL kcells 2 rs, inlL scells 3 ss, inlL kcells 2 ws]] s (.agg #[inlL kcells 2 rs, inlL scells 3 ss, inlL kcells 2 ws]) s := con_pure (rs, ss, ws) ⟨h0, h1, h2⟩ s
theorem small1 {a : Foot} (h : ¬ largeL [a]) : a.1.length ≤ 60 ∧ a.2.1.length ≤ 60 ∧ a.2.2.length ≤ 60 := by
  have h0 : ¬ bigF [a] 0 := fun q => h ⟨0, by simp, q⟩
  rw [bigF_iff (x := a) rfl] at h0
  omega
theorem put_eq {ar : List Key} {az : List Span} {aw : List Key} (hg : goodP ar az aw) : putP ar az aw = footB ar az aw := by rw [putP, tf_true hg, if_pos rfl]
theorem put_none {ar : List Key} {az : List Span} {aw : List Key} (hg : ¬ goodP ar az aw) : (((putP ar az aw).length : Nat) : Int) = 0 := by rw [putP, tf_false hg]; rfl
theorem put_back {ar : List Key} {az : List Span} {aw : List Key} (h0 : okK ar) (h1 : okS az) (h2 : okK aw) (hg : goodP ar az aw) : rk (putP ar az aw) = ar ∧ rs (putP ar az aw) = az ∧ rkw (putP ar az aw) = aw := by
  rw [put_eq hg]
  obtain ⟨e1, e2, e3, _⟩ := foot_back h0 h1 h2 hg
  exact ⟨e1, e2, e3⟩
theorem put_takes {ar : List Key} {az : List Span} {aw : List Key} (h0 : okK ar) (h1 : okS az) (h2 : okK aw) (hg : goodP ar az aw) : takeP (putP ar az aw) := by
  rw [put_eq hg]
  exact take_put h0 h1 h2 hg
theorem law6_fn : Try.cfg.fn 6 = some Try.f6 := by kernel_rfl
set_option maxHeartbeats 4000000 in
set_option maxRecDepth 100000 in
theorem law6_sc (ar : List Key) (az : List Span) (aw : List Key) (h0 : ∀ x ∈ az, in64 x.2.1 ∧ in64 x.2.2) (h1 : ∀ x ∈ ar, in64 x.2) (h2 : ∀ x ∈ aw, in64 x.2) : SC Try.prog 0 6 [.agg #[inlL kcells 2 ar, inlL scells 3 az, inlL kcells 2 aw]] (St.empty 0) fun v s' => v = .bool true ∧ s'.n ≤ 400 := by
  obtain ⟨rc, hS, hC⟩ := rc_con (sound_run Try.cfgOk 300) [con_alive, con_large, con_copies, con_fput, con_nfeet, con_goodR_, con_ftake, con_rput, con_nsame] (by kernel_rfl)
  have hC8 := hC con_alive (.head _)
  have hC9 := hC con_large (.tail _ (.head _))
  have hC13 := hC con_copies (.tail _ (.tail _ (.head _)))
  have hC24 := hC con_fput (.tail _ (.tail _ (.tail _ (.head _))))
  have hC12 := hC con_nfeet (.tail _ (.tail _ (.tail _ (.tail _ (.head _)))))
  have hC21 := hC con_goodR_ (.tail _ (.tail _ (.tail _ (.tail _ (.tail _ (.head _))))))
  have hC25 := hC con_ftake (.tail _ (.tail _ (.tail _ (.tail _ (.tail _ (.tail _ (.head _)))))))
  have hC27 := hC con_rput (.tail _ (.tail _ (.tail _ (.tail _ (.tail _ (.tail _ (.tail _ (.head _))))))))
  have hC26 := hC con_nsame (.tail _ (.tail _ (.tail _ (.tail _ (.tail _ (.tail _ (.tail _ (.tail _ (.head _)))))))))
  refine sc_ice0 (N := 400) (v2 := .bool true) (Q := fun v s' => FS 0 s' v (.bool true) ∧ s'.n ≤ 400) ?_ (fun _ _ h => h)
  refine sc_body Try.cfgOk law6_fn rfl ?_
  repeat' (with_reducible first | refine sk_seq ?_ | refine sk_block ?_ | refine sk_skip ?_ | refine sk_scope ?_)
  refine sk_regionK Try.cfgOk hS (by kernel_rfl) ?_
  repeat' (with_reducible first | refine sk_seq ?_ | refine sk_block ?_ | refine sk_skip ?_ | refine sk_scope ?_)
  refine sk_regionL Try.cfgOk hS ?_
  refine al_callH 8 [] (.bool true) _ rfl (fun b h => by cases h) (by kernel_rfl) (by kernel_rfl) (hC8 _ _ _ _ (con_alive_at   _)) ?_
  refine al_known (by kernel_rfl) ?_
  repeat' (with_reducible first | refine sk_seq ?_ | refine sk_block ?_ | refine sk_skip ?_ | refine sk_scope ?_)
  refine sk_false (by kernel_rfl) ?_
  repeat' (with_reducible first | refine sk_seq ?_ | refine sk_block ?_ | refine sk_skip ?_ | refine sk_scope ?_)
  refine sk_regionL Try.cfgOk hS ?_
  refine al_chunk 2 (by kernel_rfl) ?_
  refine al_callB 9 [.slice (some ⟨1, 0, some 3⟩) 1 3] (tf (largeL ([(ar, az, aw)]))) _ rfl (fun b h => by cases h) (by kernel_rfl) (by kernel_rfl) (hC9 _ _ _ _ (con_large_at ([(ar, az, aw)]) 1 (by first | omega | assumption | (simp; done) | (rw [pe]; omega) | (rw [pb.1]; first | assumption | omega) | (rw [pb.2.1]; first | assumption | omega) | (rw [pb.2.2]; first | assumption | omega)) _ (by kernel_rfl) (by kernel_rfl) )) (fun h1 => ?_) (fun h1 => ?_)
  · have c2 : largeL ([(ar, az, aw)]) := tf_t h1
    clear h1
    refine al_nil ?_
    repeat' (with_reducible first | refine sk_seq ?_ | refine sk_block ?_ | refine sk_skip ?_ | refine sk_scope ?_)
    refine sk_true (by kernel_rfl) ?_
    repeat' (with_reducible first | refine sk_seq ?_ | refine sk_block ?_ | refine sk_skip ?_ | refine sk_scope ?_)
    refine sk_regionK Try.cfgOk hS (by kernel_rfl) ?_
    repeat' (with_reducible first | refine sk_seq ?_ | refine sk_block ?_ | refine sk_skip ?_ | refine sk_scope ?_)
    refine sk_ret ?_
    exact ⟨[.bool true], by kernel_rfl, .same (sub_clo rfl), Nat.le_of_ble_eq_true (by kernel_rfl)⟩
  · have c2 : ¬ (largeL ([(ar, az, aw)])) := tf_f h1
    clear h1
    obtain ⟨q1, q2, q3⟩ := small1 c2
    simp only at q1 q2 q3
    have ok0 : okK ar := ⟨by omega, h1⟩
    have ok1 : okS az := ⟨by omega, h0⟩
    have ok2 : okK aw := ⟨by omega, h2⟩
    refine al_nil ?_
    repeat' (with_reducible first | refine sk_seq ?_ | refine sk_block ?_ | refine sk_skip ?_ | refine sk_scope ?_)
    refine sk_false (by kernel_rfl) ?_
    repeat' (with_reducible first | refine sk_seq ?_ | refine sk_block ?_ | refine sk_skip ?_ | refine sk_scope ?_)
    refine sk_regionL Try.cfgOk hS ?_
    refine al_chunk 1 (by kernel_rfl) ?_
    refine al_callH 13 [.agg #[inlL kcells 2 ar, inlL scells 3 az, inlL kcells 2 aw]] (.agg #[inlL kcells 2 ar, inlL scells 3 az, inlL kcells 2 aw]) _ rfl (fun b h => by cases h) (by kernel_rfl) (by kernel_rfl) (hC13 _ _ _ _ (con_copies_at ar az aw (by first | omega | assumption | (simp; done) | (rw [pe]; omega) | (rw [pb.1]; first | assumption | omega) | (rw [pb.2.1]; first | assumption | omega) | (rw [pb.2.2]; first | assumption | omega)) (by first | omega | assumption | (simp; done) | (rw [pe]; omega) | (rw [pb.1]; first | assumption | omega) | (rw [pb.2.1]; first | assumption | omega) | (rw [pb.2.2]; first | assumption | omega)) (by first | omega | assumption | (simp; done) | (rw [pe]; omega) | (rw [pb.1]; first | assumption | omega) | (rw [pb.2.1]; first | assumption | omega) | (rw [pb.2.2]; first | assumption | omega)) _)) ?_
    refine al_known (by kernel_rfl) ?_
    repeat' (with_reducible first | refine sk_seq ?_ | refine sk_block ?_ | refine sk_skip ?_ | refine sk_scope ?_)
    refine sk_regionL Try.cfgOk hS ?_
    refine al_chunk 1 (by kernel_rfl) ?_
    refine al_callH 24 [.agg #[inlL kcells 2 ar, inlL scells 3 az, inlL kcells 2 aw]] (inlL bcells 1 (putP ar az aw)) _ rfl (fun b h => by cases h) (by kernel_rfl) (by kernel_rfl) (hC24 _ _ _ _ (con_fput_at ar az aw (by first | omega | assumption | (simp; done) | (rw [pe]; omega) | (rw [pb.1]; first | assumption | omega) | (rw [pb.2.1]; first | assumption | omega) | (rw [pb.2.2]; first | assumption | omega)) (by first | omega | assumption | (simp; done) | (rw [pe]; omega) | (rw [pb.1]; first | assumption | omega) | (rw [pb.2.1]; first | assumption | omega) | (rw [pb.2.2]; first | assumption | omega)) (by first | omega | assumption | (simp; done) | (rw [pe]; omega) | (rw [pb.1]; first | assumption | omega) | (rw [pb.2.1]; first | assumption | omega) | (rw [pb.2.2]; first | assumption | omega)) _)) ?_
    refine al_known (by kernel_rfl) ?_
    repeat' (with_reducible first | refine sk_seq ?_ | refine sk_block ?_ | refine sk_skip ?_ | refine sk_scope ?_)
    refine sk_regionL Try.cfgOk hS ?_
    refine al_chunk 2 (by kernel_rfl) ?_
    refine al_callB 12 [.agg #[inlL kcells 2 ar, inlL scells 3 az, inlL kcells 2 aw], .agg #[inlL kcells 2 ar, inlL scells 3 az, inlL kcells 2 aw]] (decide (ar = ar ∧ az = az ∧ aw = aw)) _ rfl (fun b h => by cases h) (by kernel_rfl) (by kernel_rfl) (hC12 _ _ _ _ (con_nfeet_at ar az aw ar az aw (by first | omega | assumption | (simp; done) | (rw [pe]; omega) | (rw [pb.1]; first | assumption | omega) | (rw [pb.2.1]; first | assumption | omega) | (rw [pb.2.2]; first | assumption | omega)) (by first | omega | assumption | (simp; done) | (rw [pe]; omega) | (rw [pb.1]; first | assumption | omega) | (rw [pb.2.1]; first | assumption | omega) | (rw [pb.2.2]; first | assumption | omega)) (by first | omega | assumption | (simp; done) | (rw [pe]; omega) | (rw [pb.1]; first | assumption | omega) | (rw [pb.2.1]; first | assumption | omega) | (rw [pb.2.2]; first | assumption | omega)) (by first | omega | assumption | (simp; done) | (rw [pe]; omega) | (rw [pb.1]; first | assumption | omega) | (rw [pb.2.1]; first | assumption | omega) | (rw [pb.2.2]; first | assumption | omega)) (by first | omega | assumption | (simp; done) | (rw [pe]; omega) | (rw [pb.1]; first | assumption | omega) | (rw [pb.2.1]; first | assumption | omega) | (rw [pb.2.2]; first | assumption | omega)) (by first | omega | assumption | (simp; done) | (rw [pe]; omega) | (rw [pb.1]; first | assumption | omega) | (rw [pb.2.1]; first | assumption | omega) | (rw [pb.2.2]; first | assumption | omega)) _)) (fun h3 => ?_) (fun h3 => ?_)
    · have c4 : ar = ar ∧ az = az ∧ aw = aw := of_decide_eq_true h3
      clear h3
      refine al_known (by kernel_rfl) ?_
      repeat' (with_reducible first | refine sk_seq ?_ | refine sk_block ?_ | refine sk_skip ?_ | refine sk_scope ?_)
      refine sk_false (by kernel_rfl) ?_
      repeat' (with_reducible first | refine sk_seq ?_ | refine sk_block ?_ | refine sk_skip ?_ | refine sk_scope ?_)
      refine sk_regionL Try.cfgOk hS ?_
      refine al_chunk 1 (by kernel_rfl) ?_
      refine al_callB 21 [.agg #[inlL kcells 2 ar, inlL scells 3 az, inlL kcells 2 aw]] (tf (goodR ar az aw)) _ rfl (fun b h => by cases h) (by kernel_rfl) (by kernel_rfl) (hC21 _ _ _ _ (con_goodR__at ar az aw (by first | omega | assumption | (simp; done) | (rw [pe]; omega) | (rw [pb.1]; first | assumption | omega) | (rw [pb.2.1]; first | assumption | omega) | (rw [pb.2.2]; first | assumption | omega)) (by first | omega | assumption | (simp; done) | (rw [pe]; omega) | (rw [pb.1]; first | assumption | omega) | (rw [pb.2.1]; first | assumption | omega) | (rw [pb.2.2]; first | assumption | omega)) (by first | omega | assumption | (simp; done) | (rw [pe]; omega) | (rw [pb.1]; first | assumption | omega) | (rw [pb.2.1]; first | assumption | omega) | (rw [pb.2.2]; first | assumption | omega)) _)) (fun h5 => ?_) (fun h5 => ?_)
      · have c6 : goodR ar az aw := tf_t h5
        clear h5
        have hg := (good_eq h0).2 c6
        have pb := put_back ok0 ok1 ok2 hg
        have pt := put_takes ok0 ok1 ok2 hg
        have pe := put_eq hg
        have pl := footB_len ok0 ok1 ok2
        refine al_known (by kernel_rfl) ?_
        repeat' (with_reducible first | refine sk_seq ?_ | refine sk_block ?_ | refine sk_skip ?_ | refine sk_scope ?_)
        refine sk_false (by kernel_rfl) ?_
        repeat' (with_reducible first | refine sk_seq ?_ | refine sk_block ?_ | refine sk_skip ?_ | refine sk_scope ?_)
        refine sk_regionL Try.cfgOk hS ?_
        refine al_chunk 1 (by kernel_rfl) ?_
        by_cases q7 : takeP (putP ar az aw)
        ·
          refine al_callH 25 [inlL bcells 1 (putP ar az aw)] (.tuple #[.agg #[inlL kcells 2 (rk (putP ar az aw)), inlL scells 3 (rs (putP ar az aw)), inlL kcells 2 (rkw (putP ar az aw))], .nilIface]) _ rfl (fun b h => by cases h) (by kernel_rfl) (by kernel_rfl) (rc_eq (hC25 _ _ _ _ (con_ftake_at (putP ar az aw) (by first | omega | assumption | (simp; done) | (rw [pe]; omega) | (rw [pb.1]; first | assumption | omega) | (rw [pb.2.1]; first | assumption | omega) | (rw [pb.2.2]; first | assumption | omega)) (by first | omega | assumption | (simp; done) | (rw [pe]; omega) | (rw [pb.1]; first | assumption | omega) | (rw [pb.2.1]; first | assumption | omega) | (rw [pb.2.2]; first | assumption | omega)) (by first | omega | assumption | (simp; done) | (rw [pe]; omega) | (rw [pb.1]; first | assumption | omega) | (rw [pb.2.1]; first | assumption | omega) | (rw [pb.2.2]; first | assumption | omega)) (by first | omega | assumption | (simp; done) | (rw [pe]; omega) | (rw [pb.1]; first | assumption | omega) | (rw [pb.2.1]; first | assumption | omega) | (rw [pb.2.2]; first | assumption | omega)) _)) (takeV_t q7)) ?_
          refine al_known (by kernel_rfl) ?_
          repeat' (with_reducible first | refine sk_seq ?_ | refine sk_block ?_ | refine sk_skip ?_ | refine sk_scope ?_)
          refine sk_regionL Try.cfgOk hS ?_
          refine al_chunk 5 (by kernel_rfl) ?_
          refine al_callH 27 [.agg #[inlL kcells 2 ar, inlL scells 3 az, inlL kcells 2 aw]] (inlL bcells 1 (footB ar az aw)) _ rfl (fun b h => by cases h) (by kernel_rfl) (by kernel_rfl) (hC27 _ _ _ _ (con_rput_at ar az aw (by first | omega | assumption | (simp; done) | (rw [pe]; omega) | (rw [pb.1]; first | assumption | omega) | (rw [pb.2.1]; first | assumption | omega) | (rw [pb.2.2]; first | assumption | omega)) (by first | omega | assumption | (simp; done) | (rw [pe]; omega) | (rw [pb.1]; first | assumption | omega) | (rw [pb.2.1]; first | assumption | omega) | (rw [pb.2.2]; first | assumption | omega)) (by first | omega | assumption | (simp; done) | (rw [pe]; omega) | (rw [pb.1]; first | assumption | omega) | (rw [pb.2.1]; first | assumption | omega) | (rw [pb.2.2]; first | assumption | omega)) _)) ?_
          refine al_callB 26 [inlL bcells 1 (putP ar az aw), inlL bcells 1 (footB ar az aw)] (decide ((putP ar az aw) = (footB ar az aw))) _ rfl (fun b h => by cases h) (by kernel_rfl) (by kernel_rfl) (hC26 _ _ _ _ (con_nsame_at (putP ar az aw) (footB ar az aw)  _)) (fun h8 => ?_) (fun h8 => ?_)
          · have c9 : (putP ar az aw) = (footB ar az aw) := of_decide_eq_true h8
            clear h8
            refine al_chunk 4 (by kernel_rfl) ?_
            refine al_callB 12 [.agg #[inlL kcells 2 (rk (putP ar az aw)), inlL scells 3 (rs (putP ar az aw)), inlL kcells 2 (rkw (putP ar az aw))], .agg #[inlL kcells 2 ar, inlL scells 3 az, inlL kcells 2 aw]] (decide ((rk (putP ar az aw)) = ar ∧ (rs (putP ar az aw)) = az ∧ (rkw (putP ar az aw)) = aw)) _ rfl (fun b h => by cases h) (by kernel_rfl) (by kernel_rfl) (hC12 _ _ _ _ (con_nfeet_at (rk (putP ar az aw)) (rs (putP ar az aw)) (rkw (putP ar az aw)) ar az aw (by first | omega | assumption | (simp; done) | (rw [pe]; omega) | (rw [pb.1]; first | assumption | omega) | (rw [pb.2.1]; first | assumption | omega) | (rw [pb.2.2]; first | assumption | omega)) (by first | omega | assumption | (simp; done) | (rw [pe]; omega) | (rw [pb.1]; first | assumption | omega) | (rw [pb.2.1]; first | assumption | omega) | (rw [pb.2.2]; first | assumption | omega)) (by first | omega | assumption | (simp; done) | (rw [pe]; omega) | (rw [pb.1]; first | assumption | omega) | (rw [pb.2.1]; first | assumption | omega) | (rw [pb.2.2]; first | assumption | omega)) (by first | omega | assumption | (simp; done) | (rw [pe]; omega) | (rw [pb.1]; first | assumption | omega) | (rw [pb.2.1]; first | assumption | omega) | (rw [pb.2.2]; first | assumption | omega)) (by first | omega | assumption | (simp; done) | (rw [pe]; omega) | (rw [pb.1]; first | assumption | omega) | (rw [pb.2.1]; first | assumption | omega) | (rw [pb.2.2]; first | assumption | omega)) (by first | omega | assumption | (simp; done) | (rw [pe]; omega) | (rw [pb.1]; first | assumption | omega) | (rw [pb.2.1]; first | assumption | omega) | (rw [pb.2.2]; first | assumption | omega)) _)) (fun h10 => ?_) (fun h10 => ?_)
            · have c11 : (rk (putP ar az aw)) = ar ∧ (rs (putP ar az aw)) = az ∧ (rkw (putP ar az aw)) = aw := of_decide_eq_true h10
              clear h10
              refine al_known (by kernel_rfl) ?_
              repeat' (with_reducible first | refine sk_seq ?_ | refine sk_block ?_ | refine sk_skip ?_ | refine sk_scope ?_)
              refine sk_ret ?_
              exact ⟨[.bool true], by kernel_rfl, .same (sub_clo rfl), Nat.le_of_ble_eq_true (by kernel_rfl)⟩
            · have c11 : ¬ ((rk (putP ar az aw)) = ar ∧ (rs (putP ar az aw)) = az ∧ (rkw (putP ar az aw)) = aw) := of_decide_eq_false h10
              clear h10
              refine al_known (by kernel_rfl) ?_
              repeat' (with_reducible first | refine sk_seq ?_ | refine sk_block ?_ | refine sk_skip ?_ | refine sk_scope ?_)
              refine sk_ret ?_
              exact ⟨[.bool false], by kernel_rfl, fs_to (fs_clo rfl) (congrArg Value.bool (by first | rfl | exact absurd (⟨rfl, rfl, rfl⟩ : ar = ar ∧ az = az ∧ aw = aw) (by assumption) | exact absurd (put_none (fun q => absurd ((good_eq h0).1 q) (by assumption))) (by assumption) | exact absurd pt (by assumption) | exact absurd pe (by assumption) | exact absurd pb (by assumption))), Nat.le_of_ble_eq_true (by kernel_rfl)⟩
          · have c9 : ¬ ((putP ar az aw) = (footB ar az aw)) := of_decide_eq_false h8
            clear h8
            refine al_known (by kernel_rfl) ?_
            repeat' (with_reducible first | refine sk_seq ?_ | refine sk_block ?_ | refine sk_skip ?_ | refine sk_scope ?_)
            refine sk_ret ?_
            exact ⟨[.bool false], by kernel_rfl, fs_to (fs_clo rfl) (congrArg Value.bool (by first | rfl | exact absurd (⟨rfl, rfl, rfl⟩ : ar = ar ∧ az = az ∧ aw = aw) (by assumption) | exact absurd (put_none (fun q => absurd ((good_eq h0).1 q) (by assumption))) (by assumption) | exact absurd pt (by assumption) | exact absurd pe (by assumption) | exact absurd pb (by assumption))), Nat.le_of_ble_eq_true (by kernel_rfl)⟩
        ·
          refine al_callH 25 [inlL bcells 1 (putP ar az aw)] (.tuple #[.agg #[inlL kcells 2 ([] : List Key), inlL scells 3 ([] : List Span), inlL kcells 2 ([] : List Key)], .iface 53 (.int .i64 2)]) _ rfl (fun b h => by cases h) (by kernel_rfl) (by kernel_rfl) (rc_eq (hC25 _ _ _ _ (con_ftake_at (putP ar az aw) (by first | omega | assumption | (simp; done) | (rw [pe]; omega) | (rw [pb.1]; first | assumption | omega) | (rw [pb.2.1]; first | assumption | omega) | (rw [pb.2.2]; first | assumption | omega)) (by first | omega | assumption | (simp; done) | (rw [pe]; omega) | (rw [pb.1]; first | assumption | omega) | (rw [pb.2.1]; first | assumption | omega) | (rw [pb.2.2]; first | assumption | omega)) (by first | omega | assumption | (simp; done) | (rw [pe]; omega) | (rw [pb.1]; first | assumption | omega) | (rw [pb.2.1]; first | assumption | omega) | (rw [pb.2.2]; first | assumption | omega)) (by first | omega | assumption | (simp; done) | (rw [pe]; omega) | (rw [pb.1]; first | assumption | omega) | (rw [pb.2.1]; first | assumption | omega) | (rw [pb.2.2]; first | assumption | omega)) _)) (takeV_f q7)) ?_
          refine al_known (by kernel_rfl) ?_
          repeat' (with_reducible first | refine sk_seq ?_ | refine sk_block ?_ | refine sk_skip ?_ | refine sk_scope ?_)
          refine sk_regionK Try.cfgOk hS (by kernel_rfl) ?_
          repeat' (with_reducible first | refine sk_seq ?_ | refine sk_block ?_ | refine sk_skip ?_ | refine sk_scope ?_)
          refine sk_ret ?_
          exact ⟨[.bool false], by kernel_rfl, fs_to (fs_clo rfl) (congrArg Value.bool (by first | rfl | exact absurd (⟨rfl, rfl, rfl⟩ : ar = ar ∧ az = az ∧ aw = aw) (by assumption) | exact absurd (put_none (fun q => absurd ((good_eq h0).1 q) (by assumption))) (by assumption) | exact absurd pt (by assumption) | exact absurd pe (by assumption) | exact absurd pb (by assumption))), Nat.le_of_ble_eq_true (by kernel_rfl)⟩
      · have c6 : ¬ (goodR ar az aw) := tf_f h5
        clear h5
        refine al_known (by kernel_rfl) ?_
        repeat' (with_reducible first | refine sk_seq ?_ | refine sk_block ?_ | refine sk_skip ?_ | refine sk_scope ?_)
        refine sk_true (by kernel_rfl) ?_
        repeat' (with_reducible first | refine sk_seq ?_ | refine sk_block ?_ | refine sk_skip ?_ | refine sk_scope ?_)
        refine sk_regionL Try.cfgOk hS ?_
        refine al_chunk 1 (by kernel_rfl) ?_
        refine al_map (lenB Try.cfg (St.empty 0) 42 (inlL bcells 1 (putP ar az aw))) (.int .i64 (((putP ar az aw).length : Nat) : Int)) (by kernel_rfl) (by kernel_rfl) (by kernel_rfl) (len_inl tokC (by kernel_rfl)) ?_
        refine al_test (by kernel_rfl) (by kernel_rfl) (by kernel_rfl) (fun h12 => ?_) (fun h12 => ?_)
        · have c13e : (((((putP ar az aw).length : Nat) : Int) : Int) == 0) = true := Eq.trans (by kernel_rfl) h12
          clear h12
          have c13 : ((((putP ar az aw).length : Nat) : Int) : Int) = 0 := eq_of_beq c13e
          clear c13e
          refine al_known (by kernel_rfl) ?_
          repeat' (with_reducible first | refine sk_seq ?_ | refine sk_block ?_ | refine sk_skip ?_ | refine sk_scope ?_)
          refine sk_ret ?_
          exact ⟨[.bool true], by kernel_rfl, .same (sub_clo rfl), Nat.le_of_ble_eq_true (by kernel_rfl)⟩
        · have c13e : (((((putP ar az aw).length : Nat) : Int) : Int) == 0) = false := Eq.trans (by kernel_rfl) h12
          clear h12
          have c13 : ¬ ((((putP ar az aw).length : Nat) : Int) : Int) = 0 := ne_of_beq_false c13e
          clear c13e
          refine al_known (by kernel_rfl) ?_
          repeat' (with_reducible first | refine sk_seq ?_ | refine sk_block ?_ | refine sk_skip ?_ | refine sk_scope ?_)
          refine sk_ret ?_
          exact ⟨[.bool false], by kernel_rfl, fs_to (fs_clo rfl) (congrArg Value.bool (by first | rfl | exact absurd (⟨rfl, rfl, rfl⟩ : ar = ar ∧ az = az ∧ aw = aw) (by assumption) | exact absurd (put_none (fun q => absurd ((good_eq h0).1 q) (by assumption))) (by assumption) | exact absurd pt (by assumption) | exact absurd pe (by assumption) | exact absurd pb (by assumption))), Nat.le_of_ble_eq_true (by kernel_rfl)⟩
    · have c4 : ¬ (ar = ar ∧ az = az ∧ aw = aw) := of_decide_eq_false h3
      clear h3
      refine al_known (by kernel_rfl) ?_
      repeat' (with_reducible first | refine sk_seq ?_ | refine sk_block ?_ | refine sk_skip ?_ | refine sk_scope ?_)
      refine sk_true (by kernel_rfl) ?_
      repeat' (with_reducible first | refine sk_seq ?_ | refine sk_block ?_ | refine sk_skip ?_ | refine sk_scope ?_)
      refine sk_regionK Try.cfgOk hS (by kernel_rfl) ?_
      repeat' (with_reducible first | refine sk_seq ?_ | refine sk_block ?_ | refine sk_skip ?_ | refine sk_scope ?_)
      refine sk_ret ?_
      exact ⟨[.bool false], by kernel_rfl, fs_to (fs_clo rfl) (congrArg Value.bool (by first | rfl | exact absurd (⟨rfl, rfl, rfl⟩ : ar = ar ∧ az = az ∧ aw = aw) (by assumption) | exact absurd (put_none (fun q => absurd ((good_eq h0).1 q) (by assumption))) (by assumption) | exact absurd pt (by assumption) | exact absurd pe (by assumption) | exact absurd pb (by assumption))), Nat.le_of_ble_eq_true (by kernel_rfl)⟩
end Go.Proofs.Ytekeepgjegkedaa