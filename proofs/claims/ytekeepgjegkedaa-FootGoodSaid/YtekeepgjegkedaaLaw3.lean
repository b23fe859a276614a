/- The law: feet that were put together are good. -/
import Derived.Test.YtekeepgjegkedaaSame
set_option linter.unusedVariables false
set_option linter.unusedSimpArgs false
set_option linter.unnecessarySimpa false
namespace Go.Proofs.Ytekeepgjegkedaa
open Go.Ai
theorem small_two {a b : Foot} (h : ¬ largeL [a, b]) : (a.1.length ≤ 60 ∧ a.2.1.length ≤ 60 ∧ a.2.2.length ≤ 60) ∧ b.1.length ≤ 60 ∧ b.2.1.length ≤ 60 ∧ b.2.2.length ≤ 60 := by
  have h0 : ¬ bigF [a, b] 0 := fun q => h ⟨0, by simp, q⟩
  have h1 : ¬ bigF [a, b] 1 := fun q => h ⟨1, by simp, q⟩
  rw [bigF_iff (x := a) rfl] at h0
  rw [bigF_iff (x := b) rfl] at h1
  omega
abbrev T4 (t : Int) : Prop := 0 ≤ t ∧ t < 4
theorem pw_at {α : Type} {R : α → α → Prop} {l : List α} (h : l.Pairwise R) {i : Nat} {x y : α} (hy : l[i - 1]? = some y) (hx : l[i]? = some x) (h0 : 0 < i) : R y x := by
  obtain ⟨q1, rfl⟩ := List.getElem?_eq_some_iff.1 hx
  obtain ⟨q2, rfl⟩ := List.getElem?_eq_some_iff.1 hy
  exact List.pairwise_iff_getElem.1 h (i - 1) i q2 q1 (by omega)
theorem rising_up {l : List Key} (h : Up l) : risingL l ↔ ∀ x ∈ l, T4 x.1 := by
  constructor
  · intro hr x hx
    refine Classical.byContradiction fun hn => hr ?_
    obtain ⟨i, hi, rfl⟩ := List.mem_iff_getElem.1 hx
    exact ⟨i, hi, (badK_iff (List.getElem?_eq_getElem hi)).2 (.inl hn)⟩
  · rintro ha ⟨i, hi, x, hx, hb⟩
    rcases hb with hb | ⟨h0, y, hy, hb⟩
    · exact hb (ha x (List.mem_of_getElem? hx))
    · exact hb (pw_at h hy hx h0)
theorem bad_can {l : List Span} (h : Can l) (hn : ∀ x ∈ l, okN x) : ¬ badFL l ↔ ∀ x ∈ l, T4 x.1 := by
  constructor
  · intro hr x hx
    refine Classical.byContradiction fun hn => hr ?_
    obtain ⟨i, hi, rfl⟩ := List.mem_iff_getElem.1 hx
    exact ⟨i, hi, (badF_iff (List.getElem?_eq_getElem hi)).2 (.inl hn)⟩
  · rintro ha ⟨i, hi, x, hx, hb⟩
    have hm := List.mem_of_getElem? hx
    rcases hb with hb | hb | ⟨h0, y, hy, hb⟩
    · exact hb (ha x hm)
    · have := h.2 x hm
      omega
    · have hg := pw_at h.1 hy hx h0
      have hm2 := List.mem_of_getElem? hy
      have q := apS_iff (hn y hm2) (hn x hm) (h.2 x hm)
      have q2 := h.2 y hm2
      unfold gap at hg
      rcases hb with hb | hb
      · exact hb (cmp_or3.2 (by omega))
      · exact hb (q.2 (by omega))
theorem lenR2 {a c d f : List Key} {b e : List Span} : (flatR [(a, b, c), (d, e, f)]).length = a.length + d.length := by simp [flatR]
theorem lenS2 {a c d f : List Key} {b e : List Span} : (flatS [(a, b, c), (d, e, f)]).length = b.length + e.length := by simp [flatS]
theorem lenW2 {a c d f : List Key} {b e : List Span} : (flatW [(a, b, c), (d, e, f)]).length = c.length + f.length := by simp [flatW]
theorem lenR1 {a c : List Key} {b : List Span} : (flatR [(a, b, c)]).length = a.length := by simp [flatR]
theorem lenS1 {a c : List Key} {b : List Span} : (flatS [(a, b, c)]).length = b.length := by simp [flatS]
theorem lenW1 {a c : List Key} {b : List Span} : (flatW [(a, b, c)]).length = c.length := by simp [flatW]
theorem in_app {x : Key} {a b : List Key} : x ∈ a ++ b ↔ x ∈ b ++ a := by simp only [List.mem_append]; exact Or.comm
theorem flatR2 (a b : Foot) : flatR [a, b] = a.1 ++ b.1 := by simp [flatR]
theorem flatS2 (a b : Foot) : flatS [a, b] = a.2.1 ++ b.2.1 := by simp [flatS]
theorem flatW2 (a b : Foot) : flatW [a, b] = a.2.2 ++ b.2.2 := by simp [flatW]
theorem flatR1 (a : Foot) : flatR [a] = a.1 := by simp [flatR]
theorem flatS1 (a : Foot) : flatS [a] = a.2.1 := by simp [flatS]
theorem flatW1 (a : Foot) : flatW [a] = a.2.2 := by simp [flatW]
theorem ok_two {a b : Foot} (ha : ∀ x ∈ a.2.1, okN x) (hb : ∀ x ∈ b.2.1, okN x) : ∀ x ∈ flatS [a, b], okN x := by
  rw [flatS2]
  intro x hx
  exact (List.mem_append.1 hx).elim (ha x) (hb x)
theorem kj_eq {a b : List Key} (h : ∀ x, x ∈ a ↔ x ∈ b) : kj a = kj b := kj_is (kj_up b) fun x => (h x).trans kj_mem.symm
theorem sj_eq {a b : List Span} (ha : ∀ x ∈ a, okN x) (hb : ∀ x ∈ b, okN x) (h : ∀ t k, hasP a t k ↔ hasP b t k) : sj a = sj b := sj_is ha (sj_can hb).1 fun t k => (h t k).trans ((sj_can hb).2.2 t k).symm
/-- once more, the other way round, with a part once more -/
theorem jn_once {a b : Foot} (ha : ∀ x ∈ a.2.1, okN x) (hb : ∀ x ∈ b.2.1, okN x) : jn [jn [a, b]] = jn [a, b] := by
  have c := sj_can (ok_two ha hb)
  refine Prod.ext (kj_is (kj_up _) fun x => by rw [flatR1]) (Prod.ext (sj_is (by rw [flatS1]; exact c.2.1) c.1 fun t k => by rw [flatS1]) (kj_is (kj_up _) fun x => by rw [flatW1]))
theorem jn_swap {a b : Foot} (ha : ∀ x ∈ a.2.1, okN x) (hb : ∀ x ∈ b.2.1, okN x) : jn [b, a] = jn [a, b] :=
  Prod.ext (kj_eq fun x => by rw [flatR2, flatR2]; exact in_app) (Prod.ext (sj_eq (ok_two hb ha) (ok_two ha hb) fun t k => by rw [flatS2, flatS2, hasP_app, hasP_app]; exact Or.comm) (kj_eq fun x => by rw [flatW2, flatW2]; exact in_app))
theorem jn_again {a b : Foot} (ha : ∀ x ∈ a.2.1, okN x) (hb : ∀ x ∈ b.2.1, okN x) : jn [jn [a, b], a] = jn [a, b] := by
  have c := sj_can (ok_two ha hb)
  refine Prod.ext (kj_is (kj_up _) fun x => ?_) (Prod.ext (sj_is (ok_two c.2.1 ha) c.1 fun t k => ?_) (kj_is (kj_up _) fun x => ?_))
  · rw [flatR2, List.mem_append]
    exact ⟨fun h => h.elim id fun h => kj_mem.2 (by rw [flatR2]; exact List.mem_append_left _ h), .inl⟩
  · rw [flatS2, hasP_app]
    exact ⟨fun h => h.elim id fun h => (c.2.2 t k).2 (by rw [flatS2, hasP_app]; exact .inl h), .inl⟩
  · rw [flatW2, List.mem_append]
    exact ⟨fun h => h.elim id fun h => kj_mem.2 (by rw [flatW2]; exact List.mem_append_left _ h), .inl⟩
theorem jn_good {a b : Foot} (ha : ∀ x ∈ a.2.1, okN x) (hb : ∀ x ∈ b.2.1, okN x) {R W : List Key} {S : List Span} (e : (R, S, W) = jn [a, b]) : goodP R S W ↔ (∀ x ∈ R ++ W, T4 x.1) ∧ ∀ x ∈ S, T4 x.1 := by
  have c := sj_can (ok_two ha hb)
  obtain ⟨rfl, rfl, rfl⟩ : R = kj (flatR [a, b]) ∧ S = sj (flatS [a, b]) ∧ W = kj (flatW [a, b]) := by
    have := Prod.ext_iff.1 e
    have h2 := Prod.ext_iff.1 this.2
    exact ⟨this.1, h2.1, h2.2⟩
  unfold goodP
  rw [bad_can c.1 c.2.1, rising_up (kj_up _), rising_up (kj_up _)]
  simp only [List.mem_append]
  exact ⟨fun ⟨h1, h2, h3⟩ => ⟨fun x hx => hx.elim (h2 x) (h3 x), h1⟩, fun ⟨h1, h2⟩ => ⟨h2, fun x hx => h1 x (.inl hx), fun x hx => h1 x (.inr hx)⟩⟩
/-- one element more is looked at -/
theorem seen_t {α : Type} {P : Prop} {p : α → Prop} {l : List α} {i : Nat} {x : α} (h : true = tf (P ∧ ∀ x ∈ l.take i, p x)) (hx : l[i]? = some x) (hp : p x) : true = tf (P ∧ ∀ x ∈ l.take (i + 1), p x) := by
  obtain ⟨h1, h2⟩ := tf_t h.symm
  refine (tf_true ⟨h1, fun z hz => ?_⟩).symm
  rw [List.take_add_one, hx] at hz
  rcases List.mem_append.1 hz with hz | hz
  · exact h2 z hz
  · rw [Option.toList_some, List.mem_singleton] at hz
    exact hz ▸ hp
theorem seen_f {α : Type} {P : Prop} {p : α → Prop} {l : List α} {i : Nat} (h : false = tf (P ∧ ∀ x ∈ l.take i, p x)) : false = tf (P ∧ ∀ x ∈ l.take (i + 1), p x) := by
  refine (tf_false fun q => tf_f h.symm ⟨q.1, fun z hz => q.2 z ?_⟩).symm
  rw [List.take_add_one]
  exact List.mem_append_left _ hz
theorem seen_n {α : Type} {P : Prop} {p : α → Prop} {l : List α} {i : Nat} {x : α} (hx : l[i]? = some x) (hp : ¬ p x) : false = tf (P ∧ ∀ x ∈ l.take (i + 1), p x) := by
  refine (tf_false fun q => hp (q.2 x ?_)).symm
  rw [List.take_add_one, hx]
  exact List.mem_append_right _ (by simp)
theorem seen_all {α : Type} {P : Prop} {p : α → Prop} {l : List α} {i : Nat} {ok : Bool} (h : ok = tf (P ∧ ∀ x ∈ l.take i, p x)) (hi : ¬ i < l.length) : ok = tf (P ∧ ∀ x ∈ l, p x) := by
  rwa [List.take_of_length_le (by omega)] at h
theorem eql_of {a b : Bool} (h : a = b) : (a == b) = true := by rw [h]; exact beq_self_eq_true _
theorem parts3 {a b : Foot} (h : a = b) : a.1 = b.1 ∧ a.2.1 = b.2.1 ∧ a.2.2 = b.2.2 := by rw [h]; exact ⟨rfl, rfl, rfl⟩
theorem good_bits {ok : Bool} {a b : Foot} (ha : ∀ x ∈ a.2.1, okN x) (hb : ∀ x ∈ b.2.1, okN x) (h : ok = tf ((True ∧ ∀ x ∈ ([] : List Key) ++ kj (flatR [a, b]) ++ kj (flatW [a, b]), T4 x.1) ∧ ∀ x ∈ sj (flatS [a, b]), T4 x.1)) : tf (goodP (kj (flatR [a, b])) (sj (flatS [a, b])) (kj (flatW [a, b]))) = ok := by
  rw [h]
  refine tf_iff ((jn_good ha hb rfl).trans ?_)
  rw [List.nil_append, true_and]
theorem seen_0 {α : Type} {P : Prop} {p : α → Prop} {l : List α} {ok : Bool} (h : ok = tf P) : ok = tf (P ∧ ∀ x ∈ l.take 0, p x) := by
  rw [h]
  exact tf_iff ⟨fun q => ⟨q, fun x hx => by simp at hx⟩, fun q => q.1⟩
theorem law3_fn : Try.cfg.fn 3 = some Try.f3 := by kernel_rfl
set_option maxHeartbeats 4000000 in
set_option maxRecDepth 100000 in
theorem law3_sc (ar : List Key) (az : List Span) (aw : List Key) (br : List Key) (bz : List Span) (bw : List Key) (h0 : ∀ x ∈ az, in64 x.2.1 ∧ in64 x.2.2) (h1 : ∀ x ∈ bz, in64 x.2.1 ∧ in64 x.2.2) : SC Try.prog 0 3 [.agg #[inlL kcells 2 ar, inlL scells 3 az, inlL kcells 2 aw], .agg #[inlL kcells 2 br, inlL scells 3 bz, inlL kcells 2 bw]] (St.empty 0) fun v s' => v = .bool true ∧ s'.n ≤ 400 := by
  obtain ⟨rc, hS, hC⟩ := rc_con (sound_run Try.cfgOk 300) [con_alive, con_large, con_joinF, con_goodP_, con_nfeet] (by kernel_rfl)
  have hC8 := hC con_alive (.head _)
  have hC9 := hC con_large (.tail _ (.head _))
  have hC10 := hC con_joinF (.tail _ (.tail _ (.head _)))
  have hC11 := hC con_goodP_ (.tail _ (.tail _ (.tail _ (.head _))))
  have hC12 := hC con_nfeet (.tail _ (.tail _ (.tail _ (.tail _ (.head _)))))
  refine sc_ice0 (N := 400) (v2 := .bool true) (Q := fun v s' => FS 0 s' v (.bool true) ∧ s'.n ≤ 400) ?_ (fun _ _ h => h)
  refine sc_body Try.cfgOk law3_fn rfl ?_
  refine sk_seq ?_
  refine kK Try.cfgOk hS ?_
  refine sk_seq (sk_seq ?_)
  refine sk_regionL Try.cfgOk hS ?_
  refine aC 8 [] (.bool true) _ rfl (hC8 _ _ _ _ (con_alive_at   _)) ?_
  refine aN ?_
  refine kF ?_
  refine sk_skip (sk_seq (sk_seq ?_))
  refine sk_regionL Try.cfgOk hS ?_
  refine aK 3 ?_
  refine aB 9 [.slice (some ⟨2, 0, some 6⟩) 2 3] (tf (largeL ([(ar, az, aw), (br, bz, bw)]))) _ rfl (hC9 _ _ _ _ (con_large_at ([(ar, az, aw), (br, bz, bw)]) 2 (by first | omega | (simp; done) | (simp only [lenR2, lenS2, lenW2, lenR1, lenS1, lenW1]; omega) | (refine Nat.le_trans (kj_len _) ?_; simp only [lenR2, lenS2, lenW2, lenR1, lenS1, lenW1]; omega) | (refine Nat.le_trans (sj_len _) ?_; simp only [lenR2, lenS2, lenW2, lenR1, lenS1, lenW1]; omega)) _ (by kernel_rfl) (by kernel_rfl) )) (fun h1 => ?_) (fun h1 => ?_)
  · have c2 : largeL ([(ar, az, aw), (br, bz, bw)]) := tf_t h1
    clear h1
    refine al_nil ?_
    refine kT ?_
    refine sk_seq ?_
    refine kK Try.cfgOk hS ?_
    refine sk_ret ?_
    exact ⟨[.bool true], by kernel_rfl, .same (sub_clo rfl), Nat.le_of_ble_eq_true (by kernel_rfl)⟩
  · have c2 : ¬ (largeL ([(ar, az, aw), (br, bz, bw)])) := tf_f h1
    clear h1
    obtain ⟨⟨q1, q2, q3⟩, q4, q5, q6⟩ := small_two c2
    simp only at q1 q2 q3 q4 q5 q6
    have kR : (kj (flatR [(ar, az, aw), (br, bz, bw)])).length ≤ 120 := Nat.le_trans (kj_len _) (by rw [lenR2]; omega)
    have kS : (sj (flatS [(ar, az, aw), (br, bz, bw)])).length ≤ 120 := Nat.le_trans (sj_len _) (by rw [lenS2]; omega)
    have kW : (kj (flatW [(ar, az, aw), (br, bz, bw)])).length ≤ 120 := Nat.le_trans (kj_len _) (by rw [lenW2]; omega)
    refine al_nil ?_
    refine kF ?_
    refine sk_skip (sk_seq ?_)
    refine sk_regionL Try.cfgOk hS ?_
    refine aK 3 ?_
    refine aC 10 [.slice (some ⟨3, 0, some 6⟩) 2 3] (.agg #[inlL kcells 2 (kj (flatR ([(ar, az, aw), (br, bz, bw)]))), inlL scells 3 (sj (flatS ([(ar, az, aw), (br, bz, bw)]))), inlL kcells 2 (kj (flatW ([(ar, az, aw), (br, bz, bw)])))]) _ rfl (hC10 _ _ _ _ (con_joinF_at ([(ar, az, aw), (br, bz, bw)]) 3 (by first | omega | (simp; done) | (simp only [lenR2, lenS2, lenW2, lenR1, lenS1, lenW1]; omega) | (refine Nat.le_trans (kj_len _) ?_; simp only [lenR2, lenS2, lenW2, lenR1, lenS1, lenW1]; omega) | (refine Nat.le_trans (sj_len _) ?_; simp only [lenR2, lenS2, lenW2, lenR1, lenS1, lenW1]; omega)) (by first | omega | (simp; done) | (simp only [lenR2, lenS2, lenW2, lenR1, lenS1, lenW1]; omega) | (refine Nat.le_trans (kj_len _) ?_; simp only [lenR2, lenS2, lenW2, lenR1, lenS1, lenW1]; omega) | (refine Nat.le_trans (sj_len _) ?_; simp only [lenR2, lenS2, lenW2, lenR1, lenS1, lenW1]; omega)) (by first | omega | (simp; done) | (simp only [lenR2, lenS2, lenW2, lenR1, lenS1, lenW1]; omega) | (refine Nat.le_trans (kj_len _) ?_; simp only [lenR2, lenS2, lenW2, lenR1, lenS1, lenW1]; omega) | (refine Nat.le_trans (sj_len _) ?_; simp only [lenR2, lenS2, lenW2, lenR1, lenS1, lenW1]; omega)) (by first | omega | (simp; done) | (simp only [lenR2, lenS2, lenW2, lenR1, lenS1, lenW1]; omega) | (refine Nat.le_trans (kj_len _) ?_; simp only [lenR2, lenS2, lenW2, lenR1, lenS1, lenW1]; omega) | (refine Nat.le_trans (sj_len _) ?_; simp only [lenR2, lenS2, lenW2, lenR1, lenS1, lenW1]; omega)) _ (by kernel_rfl) (by kernel_rfl) )) ?_
    refine aN ?_
    refine sk_seq ?_
    refine kK Try.cfgOk hS ?_
    refine sk_seq (sk_seq ?_)
    refine sk_drawL Try.cfgOk hS ?_
    refine dK 3 ?_
    refine ald_opF (v := slL 5 2 (([] : List Key) ++ (kj (flatR ([(ar, az, aw), (br, bz, bw)])))).length) (s1 := (((((((St.empty 0).new (.cells [inlL kcells 2 ar, inlL scells 3 az, inlL kcells 2 aw])).new (.cells [inlL kcells 2 br, inlL scells 3 bz, inlL kcells 2 bw])).new (.arr [inlL kcells 2 ar, inlL scells 3 az, inlL kcells 2 aw, inlL kcells 2 br, inlL scells 3 bz, inlL kcells 2 bw] 0 false)).new (.arr [inlL kcells 2 ar, inlL scells 3 az, inlL kcells 2 aw, inlL kcells 2 br, inlL scells 3 bz, inlL kcells 2 bw] 0 false)).new (.cells [inlL kcells 2 (kj (flatR ([(ar, az, aw), (br, bz, bw)]))), inlL scells 3 (sj (flatS ([(ar, az, aw), (br, bz, bw)]))), inlL kcells 2 (kj (flatW ([(ar, az, aw), (br, bz, bw)])))])).new (rowL kcells ([] : List Key))).set 5 (rowL kcells (([] : List Key) ++ (kj (flatR ([(ar, az, aw), (br, bz, bw)])))))) (by kernel_rfl) (by kernel_rfl) (Eq.trans (b := appendV Try.cfg (((((((St.empty 0).new (.cells [inlL kcells 2 ar, inlL scells 3 az, inlL kcells 2 aw])).new (.cells [inlL kcells 2 br, inlL scells 3 bz, inlL kcells 2 bw])).new (.arr [inlL kcells 2 ar, inlL scells 3 az, inlL kcells 2 aw, inlL kcells 2 br, inlL scells 3 bz, inlL kcells 2 bw] 0 false)).new (.arr [inlL kcells 2 ar, inlL scells 3 az, inlL kcells 2 aw, inlL kcells 2 br, inlL scells 3 bz, inlL kcells 2 bw] 0 false)).new (.cells [inlL kcells 2 (kj (flatR ([(ar, az, aw), (br, bz, bw)]))), inlL scells 3 (sj (flatS ([(ar, az, aw), (br, bz, bw)]))), inlL kcells 2 (kj (flatW ([(ar, az, aw), (br, bz, bw)])))])).new (rowL kcells ([] : List Key))) 22 (slL 5 2 (([] : List Key).length)) (inlL kcells 2 (kj (flatR ([(ar, az, aw), (br, bz, bw)]))))) (by kernel_rfl) (app_rowL (l := ([] : List Key)) (l2 := (kj (flatR ([(ar, az, aw), (br, bz, bw)])))) (bytes := 16) tokC (by kernel_rfl) kcells_len kcells_one (by kernel_rfl) (lenV_inl tokC) (firstV_inlL tokC kcells_len) (by (try simp only [List.length_append, List.length_nil]); omega))) (by kernel_rfl) ?_
    refine dK 1 ?_
    refine ald_readK (d := (0, St.empty 0, St.empty 0)) (by kernel_rfl) (by kernel_rfl) (by kernel_rfl) (by kernel_rfl) (below_len (k := 1) (by kernel_rfl) (all1 (.inr (read_again (by kernel_rfl) (Eq.trans (b := inlL kcells 2 (kj (flatW ([(ar, az, aw), (br, bz, bw)])))) (by kernel_rfl) (by kernel_rfl)))))) ?_
    refine ald_opF (v := slL 5 2 ((([] : List Key) ++ (kj (flatR ([(ar, az, aw), (br, bz, bw)])))) ++ (kj (flatW ([(ar, az, aw), (br, bz, bw)])))).length) (s1 := (((((((St.empty 0).new (.cells [inlL kcells 2 ar, inlL scells 3 az, inlL kcells 2 aw])).new (.cells [inlL kcells 2 br, inlL scells 3 bz, inlL kcells 2 bw])).new (.arr [inlL kcells 2 ar, inlL scells 3 az, inlL kcells 2 aw, inlL kcells 2 br, inlL scells 3 bz, inlL kcells 2 bw] 0 false)).new (.arr [inlL kcells 2 ar, inlL scells 3 az, inlL kcells 2 aw, inlL kcells 2 br, inlL scells 3 bz, inlL kcells 2 bw] 0 false)).new (.cells [inlL kcells 2 (kj (flatR ([(ar, az, aw), (br, bz, bw)]))), inlL scells 3 (sj (flatS ([(ar, az, aw), (br, bz, bw)]))), inlL kcells 2 (kj (flatW ([(ar, az, aw), (br, bz, bw)])))])).new (rowL kcells (([] : List Key) ++ (kj (flatR ([(ar, az, aw), (br, bz, bw)])))))).set 5 (rowL kcells ((([] : List Key) ++ (kj (flatR ([(ar, az, aw), (br, bz, bw)])))) ++ (kj (flatW ([(ar, az, aw), (br, bz, bw)])))))) (by kernel_rfl) (by kernel_rfl) (Eq.trans (b := appendV Try.cfg (((((((St.empty 0).new (.cells [inlL kcells 2 ar, inlL scells 3 az, inlL kcells 2 aw])).new (.cells [inlL kcells 2 br, inlL scells 3 bz, inlL kcells 2 bw])).new (.arr [inlL kcells 2 ar, inlL scells 3 az, inlL kcells 2 aw, inlL kcells 2 br, inlL scells 3 bz, inlL kcells 2 bw] 0 false)).new (.arr [inlL kcells 2 ar, inlL scells 3 az, inlL kcells 2 aw, inlL kcells 2 br, inlL scells 3 bz, inlL kcells 2 bw] 0 false)).new (.cells [inlL kcells 2 (kj (flatR ([(ar, az, aw), (br, bz, bw)]))), inlL scells 3 (sj (flatS ([(ar, az, aw), (br, bz, bw)]))), inlL kcells 2 (kj (flatW ([(ar, az, aw), (br, bz, bw)])))])).new (rowL kcells (([] : List Key) ++ (kj (flatR ([(ar, az, aw), (br, bz, bw)])))))) 22 (slL 5 2 ((([] : List Key) ++ (kj (flatR ([(ar, az, aw), (br, bz, bw)])))).length)) (inlL kcells 2 (kj (flatW ([(ar, az, aw), (br, bz, bw)]))))) (by kernel_rfl) (app_rowL (l := (([] : List Key) ++ (kj (flatR ([(ar, az, aw), (br, bz, bw)]))))) (l2 := (kj (flatW ([(ar, az, aw), (br, bz, bw)])))) (bytes := 16) tokC (by kernel_rfl) kcells_len kcells_one (by kernel_rfl) (lenV_inl tokC) (firstV_inlL tokC kcells_len) (by (try simp only [List.length_append, List.length_nil]); omega))) (by kernel_rfl) ?_
    refine dK 2 ?_
    refine ald_nil ?_
    refine sk_block ?_
    refine sk_live 91 ((fun a : Nat × Bool => [(2, .pointer (some ⟨0, 0, none⟩)), (3, .pointer (some ⟨1, 0, none⟩)), (5, .pointer (some ⟨4, 0, none⟩)), (6, .bool a.2), (27, slL 5 2 (((([] : List Key) ++ (kj (flatR ([(ar, az, aw), (br, bz, bw)])))) ++ (kj (flatW ([(ar, az, aw), (br, bz, bw)])))).length)), (28, .int .i64 ((((([] : List Key) ++ (kj (flatR ([(ar, az, aw), (br, bz, bw)])))) ++ (kj (flatW ([(ar, az, aw), (br, bz, bw)])))).length : Nat) : Int)), (29, .int .i64 ((a.1 : Nat) : Int))]) (0, true)) (by kernel_rfl) ⟨by kernel_rfl, by kernel_rfl, by kernel_rfl, by kernel_rfl, by kernel_rfl, by kernel_rfl, by kernel_rfl, trivial⟩ fun m3 => ?_
    refine sk_st ((fun a : Nat × Bool => (((((((St.empty 0).new (.cells [inlL kcells 2 ar, inlL scells 3 az, inlL kcells 2 aw])).new (.cells [inlL kcells 2 br, inlL scells 3 bz, inlL kcells 2 bw])).new (.arr [inlL kcells 2 ar, inlL scells 3 az, inlL kcells 2 aw, inlL kcells 2 br, inlL scells 3 bz, inlL kcells 2 bw] 0 false)).new (.arr [inlL kcells 2 ar, inlL scells 3 az, inlL kcells 2 aw, inlL kcells 2 br, inlL scells 3 bz, inlL kcells 2 bw] 0 false)).new (.cells [inlL kcells 2 (kj (flatR ([(ar, az, aw), (br, bz, bw)]))), inlL scells 3 (sj (flatS ([(ar, az, aw), (br, bz, bw)]))), inlL kcells 2 (kj (flatW ([(ar, az, aw), (br, bz, bw)])))])).new (rowL kcells ((([] : List Key) ++ (kj (flatR ([(ar, az, aw), (br, bz, bw)])))) ++ (kj (flatW ([(ar, az, aw), (br, bz, bw)]))))))) (0, true)) (by kernel_rfl) ?_
    refine (sk_while (k := 6) (N := 400) (live := (fun a : Nat × Bool => [(2, .pointer (some ⟨0, 0, none⟩)), (3, .pointer (some ⟨1, 0, none⟩)), (5, .pointer (some ⟨4, 0, none⟩)), (6, .bool a.2), (27, slL 5 2 (((([] : List Key) ++ (kj (flatR ([(ar, az, aw), (br, bz, bw)])))) ++ (kj (flatW ([(ar, az, aw), (br, bz, bw)])))).length)), (28, .int .i64 ((((([] : List Key) ++ (kj (flatR ([(ar, az, aw), (br, bz, bw)])))) ++ (kj (flatW ([(ar, az, aw), (br, bz, bw)])))).length : Nat) : Int)), (29, .int .i64 ((a.1 : Nat) : Int))])) (M := (fun a : Nat × Bool => (((((((St.empty 0).new (.cells [inlL kcells 2 ar, inlL scells 3 az, inlL kcells 2 aw])).new (.cells [inlL kcells 2 br, inlL scells 3 bz, inlL kcells 2 bw])).new (.arr [inlL kcells 2 ar, inlL scells 3 az, inlL kcells 2 aw, inlL kcells 2 br, inlL scells 3 bz, inlL kcells 2 bw] 0 false)).new (.arr [inlL kcells 2 ar, inlL scells 3 az, inlL kcells 2 aw, inlL kcells 2 br, inlL scells 3 bz, inlL kcells 2 bw] 0 false)).new (.cells [inlL kcells 2 (kj (flatR ([(ar, az, aw), (br, bz, bw)]))), inlL scells 3 (sj (flatS ([(ar, az, aw), (br, bz, bw)]))), inlL kcells 2 (kj (flatW ([(ar, az, aw), (br, bz, bw)])))])).new (rowL kcells ((([] : List Key) ++ (kj (flatR ([(ar, az, aw), (br, bz, bw)])))) ++ (kj (flatW ([(ar, az, aw), (br, bz, bw)])))))))) (fun a : Nat × Bool => (a.1 ≤ (([] : List Key) ++ (kj (flatR [(ar, az, aw), (br, bz, bw)])) ++ (kj (flatW [(ar, az, aw), (br, bz, bw)]))).length) ∧ (a.2 = tf (True ∧ ∀ x ∈ (([] : List Key) ++ (kj (flatR [(ar, az, aw), (br, bz, bw)])) ++ (kj (flatW [(ar, az, aw), (br, bz, bw)]))).take a.1, T4 x.1)) ∧ ((([] : List Key) ++ (kj (flatR [(ar, az, aw), (br, bz, bw)])) ++ (kj (flatW [(ar, az, aw), (br, bz, bw)]))).length ≤ 1000)) (fun a : Nat × Bool => (([] : List Key) ++ (kj (flatR [(ar, az, aw), (br, bz, bw)])) ++ (kj (flatW [(ar, az, aw), (br, bz, bw)]))).length - a.1) (fun (a : Nat × Bool) (o : Out) (lv : List (Nat × Value)) (M : St) => (o = .exit 0 ∧ (a.2 = tf (True ∧ ∀ x ∈ (([] : List Key) ++ (kj (flatR [(ar, az, aw), (br, bz, bw)])) ++ (kj (flatW [(ar, az, aw), (br, bz, bw)]))), T4 x.1)) ∧ lv = [(2, .pointer (some ⟨0, 0, none⟩)), (3, .pointer (some ⟨1, 0, none⟩)), (5, .pointer (some ⟨4, 0, none⟩)), (6, .bool a.2), (27, slL 5 2 (((([] : List Key) ++ (kj (flatR ([(ar, az, aw), (br, bz, bw)])))) ++ (kj (flatW ([(ar, az, aw), (br, bz, bw)])))).length)), (28, .int .i64 ((((([] : List Key) ++ (kj (flatR ([(ar, az, aw), (br, bz, bw)])))) ++ (kj (flatW ([(ar, az, aw), (br, bz, bw)])))).length : Nat) : Int)), (29, .int .i64 ((a.1 : Nat) : Int))] ∧ M = (((((((St.empty 0).new (.cells [inlL kcells 2 ar, inlL scells 3 az, inlL kcells 2 aw])).new (.cells [inlL kcells 2 br, inlL scells 3 bz, inlL kcells 2 bw])).new (.arr [inlL kcells 2 ar, inlL scells 3 az, inlL kcells 2 aw, inlL kcells 2 br, inlL scells 3 bz, inlL kcells 2 bw] 0 false)).new (.arr [inlL kcells 2 ar, inlL scells 3 az, inlL kcells 2 aw, inlL kcells 2 br, inlL scells 3 bz, inlL kcells 2 bw] 0 false)).new (.cells [inlL kcells 2 (kj (flatR ([(ar, az, aw), (br, bz, bw)]))), inlL scells 3 (sj (flatS ([(ar, az, aw), (br, bz, bw)]))), inlL kcells 2 (kj (flatW ([(ar, az, aw), (br, bz, bw)])))])).new (rowL kcells ((([] : List Key) ++ (kj (flatR ([(ar, az, aw), (br, bz, bw)])))) ++ (kj (flatW ([(ar, az, aw), (br, bz, bw)])))))))) (Nat.zero_le _) (fun a ha => ?_) (fun a ha => ?_) (fun a m ha => ?_) (fun a m ha => ?_) (0, true) m3 ?_).up ?_
    · exact ⟨by kernel_rfl, (((((((wf_empty 0).new _).new _).new _).new _).new _).new _), (selfs (all_cons (o := .cells [inlL kcells 2 ar, inlL scells 3 az, inlL kcells 2 aw]) (by kernel_rfl) (OSub.cells (.cons (sub_clo rfl) (.cons (sub_clo rfl) (.cons (sub_clo rfl) .nil)))) (all_cons (o := .cells [inlL kcells 2 br, inlL scells 3 bz, inlL kcells 2 bw]) (by kernel_rfl) (OSub.cells (.cons (sub_clo rfl) (.cons (sub_clo rfl) (.cons (sub_clo rfl) .nil)))) (all_cons (o := .arr [inlL kcells 2 ar, inlL scells 3 az, inlL kcells 2 aw, inlL kcells 2 br, inlL scells 3 bz, inlL kcells 2 bw] 0 false) (by kernel_rfl) (OSub.arr (.cons (sub_clo rfl) (.cons (sub_clo rfl) (.cons (sub_clo rfl) (.cons (sub_clo rfl) (.cons (sub_clo rfl) (.cons (sub_clo rfl) .nil))))))) (all_cons (o := .arr [inlL kcells 2 ar, inlL scells 3 az, inlL kcells 2 aw, inlL kcells 2 br, inlL scells 3 bz, inlL kcells 2 bw] 0 false) (by kernel_rfl) (OSub.arr (.cons (sub_clo rfl) (.cons (sub_clo rfl) (.cons (sub_clo rfl) (.cons (sub_clo rfl) (.cons (sub_clo rfl) (.cons (sub_clo rfl) .nil))))))) (all_cons (o := .cells [inlL kcells 2 (kj (flatR ([(ar, az, aw), (br, bz, bw)]))), inlL scells 3 (sj (flatS ([(ar, az, aw), (br, bz, bw)]))), inlL kcells 2 (kj (flatW ([(ar, az, aw), (br, bz, bw)])))]) (by kernel_rfl) (OSub.cells (.cons (sub_clo rfl) (.cons (sub_clo rfl) (.cons (sub_clo rfl) .nil)))) (all_cons (o := rowL kcells ((([] : List Key) ++ (kj (flatR ([(ar, az, aw), (br, bz, bw)])))) ++ (kj (flatW ([(ar, az, aw), (br, bz, bw)]))))) (by kernel_rfl) (OSub.arr (subs_clo (flatL_clo kcells_clo))) (all_none))))))))⟩
    · exact ⟨.ptr ⟨by decide, rfl⟩, .ptr ⟨by decide, rfl⟩, .ptr ⟨by decide, rfl⟩, sub_clo rfl, .slice ⟨by decide, rfl⟩, sub_clo rfl, sub_clo rfl, trivial⟩
    · exact ⟨by kernel_rfl, by kernel_rfl, by kernel_rfl, by kernel_rfl, by kernel_rfl, by kernel_rfl, by kernel_rfl, trivial⟩
    · obtain ⟨i, ok⟩ := a
      obtain ⟨i0, i1, i2⟩ := ha
      dsimp only at i0 i1 i2
      rcases ok with _ | _
      ·
        refine sk_seq ?_
        refine sk_regionL Try.cfgOk hS ?_
        refine aT (fun h4 => ?_) (fun h4 => ?_)
        · have c5e : (decide ((((i : Nat) : Int) : Int) < ((((([] : List Key) ++ (kj (flatR ([(ar, az, aw), (br, bz, bw)])))) ++ (kj (flatW ([(ar, az, aw), (br, bz, bw)])))).length : Nat) : Int))) = true := Eq.trans (by kernel_rfl) h4
          clear h4
          have c5 : (((i : Nat) : Int) : Int) < ((((([] : List Key) ++ (kj (flatR ([(ar, az, aw), (br, bz, bw)])))) ++ (kj (flatW ([(ar, az, aw), (br, bz, bw)])))).length : Nat) : Int) := of_decide_eq_true c5e
          clear c5e
          refine al_nil ?_
          refine sk_seq ?_
          refine kT ?_
          refine sk_skip (sk_seq (sk_block (sk_seq ?_)))
          refine sk_regionL Try.cfgOk hS ?_
          refine aM (indexAddrV Try.cfg 22 (slL 5 2 (((([] : List Key) ++ (kj (flatR ([(ar, az, aw), (br, bz, bw)])))) ++ (kj (flatW ([(ar, az, aw), (br, bz, bw)])))).length)) (.int .i64 ((i : Nat) : Int))) (.pointer (some ⟨5, i * 2, some ((((([] : List Key) ++ (kj (flatR ([(ar, az, aw), (br, bz, bw)])))) ++ (kj (flatW ([(ar, az, aw), (br, bz, bw)])))).length) * 2)⟩)) (idx_rowL (by kernel_rfl) (by omega)) ?_
          have hx6l : i < ((([] : List Key) ++ (kj (flatR ([(ar, az, aw), (br, bz, bw)])))) ++ (kj (flatW ([(ar, az, aw), (br, bz, bw)])))).length := by omega
          refine Exists.elim (get_ex hx6l) fun x6 hx6 => ?_
          clear hx6l
          refine aM (loadV Try.cfg (((((((St.empty 0).new (.cells [inlL kcells 2 ar, inlL scells 3 az, inlL kcells 2 aw])).new (.cells [inlL kcells 2 br, inlL scells 3 bz, inlL kcells 2 bw])).new (.arr [inlL kcells 2 ar, inlL scells 3 az, inlL kcells 2 aw, inlL kcells 2 br, inlL scells 3 bz, inlL kcells 2 bw] 0 false)).new (.arr [inlL kcells 2 ar, inlL scells 3 az, inlL kcells 2 aw, inlL kcells 2 br, inlL scells 3 bz, inlL kcells 2 bw] 0 false)).new (.cells [inlL kcells 2 (kj (flatR ([(ar, az, aw), (br, bz, bw)]))), inlL scells 3 (sj (flatS ([(ar, az, aw), (br, bz, bw)]))), inlL kcells 2 (kj (flatW ([(ar, az, aw), (br, bz, bw)])))])).new (rowL kcells ((([] : List Key) ++ (kj (flatR ([(ar, az, aw), (br, bz, bw)])))) ++ (kj (flatW ([(ar, az, aw), (br, bz, bw)])))))) 30 (.pointer (some ⟨5, i * 2, some ((((([] : List Key) ++ (kj (flatR ([(ar, az, aw), (br, bz, bw)])))) ++ (kj (flatW ([(ar, az, aw), (br, bz, bw)])))).length) * 2)⟩))) (.agg #[.int .i64 x6.1, .int .i64 x6.2]) (load_rowL (l := ((([] : List Key) ++ (kj (flatR ([(ar, az, aw), (br, bz, bw)])))) ++ (kj (flatW ([(ar, az, aw), (br, bz, bw)]))))) (by kernel_rfl) kcells_len (by kernel_rfl) hx6) ?_
          refine aN ?_
          refine kK Try.cfgOk hS ?_
          refine sk_regionL Try.cfgOk hS ?_
          refine aE (v := .int .i64 (IntKind.wrap .i64 (((i : Nat) : Int) + 1))) (.int .i64 ((i + 1 : Nat) : Int)) (congrArg (Value.int .i64) (wrap_to (by omega) (by omega))) ?_
          refine aN ?_
          refine .inl ⟨(i + 1, false), rfl, ⟨?_, ?_, ?_⟩, ?_, ⟨by kernel_rfl, ⟨by kernel_rfl, by kernel_rfl, by kernel_rfl, by kernel_rfl, by kernel_rfl, by kernel_rfl, by kernel_rfl, trivial⟩, ⟨.ptr ⟨by decide, rfl⟩, .ptr ⟨by decide, rfl⟩, .ptr ⟨by decide, rfl⟩, sub_clo rfl, .slice ⟨by decide, rfl⟩, sub_clo rfl, sub_clo rfl, trivial⟩, Nat.le_of_ble_eq_true (by kernel_rfl), ⟨by kernel_rfl, (((((((wf_empty 0).new _).new _).new _).new _).new _).new _), (selfs (all_cons (o := .cells [inlL kcells 2 ar, inlL scells 3 az, inlL kcells 2 aw]) (by kernel_rfl) (OSub.cells (.cons (sub_clo rfl) (.cons (sub_clo rfl) (.cons (sub_clo rfl) .nil)))) (all_cons (o := .cells [inlL kcells 2 br, inlL scells 3 bz, inlL kcells 2 bw]) (by kernel_rfl) (OSub.cells (.cons (sub_clo rfl) (.cons (sub_clo rfl) (.cons (sub_clo rfl) .nil)))) (all_cons (o := .arr [inlL kcells 2 ar, inlL scells 3 az, inlL kcells 2 aw, inlL kcells 2 br, inlL scells 3 bz, inlL kcells 2 bw] 0 false) (by kernel_rfl) (OSub.arr (.cons (sub_clo rfl) (.cons (sub_clo rfl) (.cons (sub_clo rfl) (.cons (sub_clo rfl) (.cons (sub_clo rfl) (.cons (sub_clo rfl) .nil))))))) (all_cons (o := .arr [inlL kcells 2 ar, inlL scells 3 az, inlL kcells 2 aw, inlL kcells 2 br, inlL scells 3 bz, inlL kcells 2 bw] 0 false) (by kernel_rfl) (OSub.arr (.cons (sub_clo rfl) (.cons (sub_clo rfl) (.cons (sub_clo rfl) (.cons (sub_clo rfl) (.cons (sub_clo rfl) (.cons (sub_clo rfl) .nil))))))) (all_cons (o := .cells [inlL kcells 2 (kj (flatR ([(ar, az, aw), (br, bz, bw)]))), inlL scells 3 (sj (flatS ([(ar, az, aw), (br, bz, bw)]))), inlL kcells 2 (kj (flatW ([(ar, az, aw), (br, bz, bw)])))]) (by kernel_rfl) (OSub.cells (.cons (sub_clo rfl) (.cons (sub_clo rfl) (.cons (sub_clo rfl) .nil)))) (all_cons (o := rowL kcells ((([] : List Key) ++ (kj (flatR ([(ar, az, aw), (br, bz, bw)])))) ++ (kj (flatW ([(ar, az, aw), (br, bz, bw)]))))) (by kernel_rfl) (OSub.arr (subs_clo (flatL_clo kcells_clo))) (all_none))))))))⟩, mem_all (by kernel_rfl)⟩⟩
          · (try dsimp only); omega
          · (try dsimp only); first | exact seen_t i1 (by assumption) ⟨by omega, by omega⟩ | exact seen_f i1 | exact seen_n (by assumption) (fun q => by have := q.1; have := q.2; omega) | (subst_vars; exact seen_f (by assumption)) | (subst_vars; exact seen_t (by assumption) (by assumption) ⟨by omega, by omega⟩)
          · (try dsimp only); assumption
          · dsimp only; omega
        · have c5e : (decide ((((i : Nat) : Int) : Int) < ((((([] : List Key) ++ (kj (flatR ([(ar, az, aw), (br, bz, bw)])))) ++ (kj (flatW ([(ar, az, aw), (br, bz, bw)])))).length : Nat) : Int))) = false := Eq.trans (by kernel_rfl) h4
          clear h4
          have c5 : ¬ (((i : Nat) : Int) : Int) < ((((([] : List Key) ++ (kj (flatR ([(ar, az, aw), (br, bz, bw)])))) ++ (kj (flatW ([(ar, az, aw), (br, bz, bw)])))).length : Nat) : Int) := of_decide_eq_false c5e
          clear c5e
          refine al_nil ?_
          refine sk_seq ?_
          refine kF ?_
          refine sk_exit ?_
          dsimp only
          refine .inr ⟨_, _, (fun h => by cases h), ⟨rfl, ?_, rfl, rfl⟩, ⟨by kernel_rfl, ⟨by kernel_rfl, by kernel_rfl, by kernel_rfl, by kernel_rfl, by kernel_rfl, by kernel_rfl, by kernel_rfl, trivial⟩, ⟨.ptr ⟨by decide, rfl⟩, .ptr ⟨by decide, rfl⟩, .ptr ⟨by decide, rfl⟩, sub_clo rfl, .slice ⟨by decide, rfl⟩, sub_clo rfl, sub_clo rfl, trivial⟩, Nat.le_of_ble_eq_true (by kernel_rfl), ⟨by kernel_rfl, (((((((wf_empty 0).new _).new _).new _).new _).new _).new _), (selfs (all_cons (o := .cells [inlL kcells 2 ar, inlL scells 3 az, inlL kcells 2 aw]) (by kernel_rfl) (OSub.cells (.cons (sub_clo rfl) (.cons (sub_clo rfl) (.cons (sub_clo rfl) .nil)))) (all_cons (o := .cells [inlL kcells 2 br, inlL scells 3 bz, inlL kcells 2 bw]) (by kernel_rfl) (OSub.cells (.cons (sub_clo rfl) (.cons (sub_clo rfl) (.cons (sub_clo rfl) .nil)))) (all_cons (o := .arr [inlL kcells 2 ar, inlL scells 3 az, inlL kcells 2 aw, inlL kcells 2 br, inlL scells 3 bz, inlL kcells 2 bw] 0 false) (by kernel_rfl) (OSub.arr (.cons (sub_clo rfl) (.cons (sub_clo rfl) (.cons (sub_clo rfl) (.cons (sub_clo rfl) (.cons (sub_clo rfl) (.cons (sub_clo rfl) .nil))))))) (all_cons (o := .arr [inlL kcells 2 ar, inlL scells 3 az, inlL kcells 2 aw, inlL kcells 2 br, inlL scells 3 bz, inlL kcells 2 bw] 0 false) (by kernel_rfl) (OSub.arr (.cons (sub_clo rfl) (.cons (sub_clo rfl) (.cons (sub_clo rfl) (.cons (sub_clo rfl) (.cons (sub_clo rfl) (.cons (sub_clo rfl) .nil))))))) (all_cons (o := .cells [inlL kcells 2 (kj (flatR ([(ar, az, aw), (br, bz, bw)]))), inlL scells 3 (sj (flatS ([(ar, az, aw), (br, bz, bw)]))), inlL kcells 2 (kj (flatW ([(ar, az, aw), (br, bz, bw)])))]) (by kernel_rfl) (OSub.cells (.cons (sub_clo rfl) (.cons (sub_clo rfl) (.cons (sub_clo rfl) .nil)))) (all_cons (o := rowL kcells ((([] : List Key) ++ (kj (flatR ([(ar, az, aw), (br, bz, bw)])))) ++ (kj (flatW ([(ar, az, aw), (br, bz, bw)]))))) (by kernel_rfl) (OSub.arr (subs_clo (flatL_clo kcells_clo))) (all_none))))))))⟩, mem_all (by kernel_rfl)⟩⟩
          · exact seen_all i1 (by omega)
      ·
        refine sk_seq ?_
        refine sk_regionL Try.cfgOk hS ?_
        refine aT (fun h7 => ?_) (fun h7 => ?_)
        · have c8e : (decide ((((i : Nat) : Int) : Int) < ((((([] : List Key) ++ (kj (flatR ([(ar, az, aw), (br, bz, bw)])))) ++ (kj (flatW ([(ar, az, aw), (br, bz, bw)])))).length : Nat) : Int))) = true := Eq.trans (by kernel_rfl) h7
          clear h7
          have c8 : (((i : Nat) : Int) : Int) < ((((([] : List Key) ++ (kj (flatR ([(ar, az, aw), (br, bz, bw)])))) ++ (kj (flatW ([(ar, az, aw), (br, bz, bw)])))).length : Nat) : Int) := of_decide_eq_true c8e
          clear c8e
          refine al_nil ?_
          refine sk_seq ?_
          refine kT ?_
          refine sk_skip (sk_seq (sk_block (sk_seq ?_)))
          refine sk_regionL Try.cfgOk hS ?_
          refine aM (indexAddrV Try.cfg 22 (slL 5 2 (((([] : List Key) ++ (kj (flatR ([(ar, az, aw), (br, bz, bw)])))) ++ (kj (flatW ([(ar, az, aw), (br, bz, bw)])))).length)) (.int .i64 ((i : Nat) : Int))) (.pointer (some ⟨5, i * 2, some ((((([] : List Key) ++ (kj (flatR ([(ar, az, aw), (br, bz, bw)])))) ++ (kj (flatW ([(ar, az, aw), (br, bz, bw)])))).length) * 2)⟩)) (idx_rowL (by kernel_rfl) (by omega)) ?_
          have hx9l : i < ((([] : List Key) ++ (kj (flatR ([(ar, az, aw), (br, bz, bw)])))) ++ (kj (flatW ([(ar, az, aw), (br, bz, bw)])))).length := by omega
          refine Exists.elim (get_ex hx9l) fun x9 hx9 => ?_
          clear hx9l
          refine aM (loadV Try.cfg (((((((St.empty 0).new (.cells [inlL kcells 2 ar, inlL scells 3 az, inlL kcells 2 aw])).new (.cells [inlL kcells 2 br, inlL scells 3 bz, inlL kcells 2 bw])).new (.arr [inlL kcells 2 ar, inlL scells 3 az, inlL kcells 2 aw, inlL kcells 2 br, inlL scells 3 bz, inlL kcells 2 bw] 0 false)).new (.arr [inlL kcells 2 ar, inlL scells 3 az, inlL kcells 2 aw, inlL kcells 2 br, inlL scells 3 bz, inlL kcells 2 bw] 0 false)).new (.cells [inlL kcells 2 (kj (flatR ([(ar, az, aw), (br, bz, bw)]))), inlL scells 3 (sj (flatS ([(ar, az, aw), (br, bz, bw)]))), inlL kcells 2 (kj (flatW ([(ar, az, aw), (br, bz, bw)])))])).new (rowL kcells ((([] : List Key) ++ (kj (flatR ([(ar, az, aw), (br, bz, bw)])))) ++ (kj (flatW ([(ar, az, aw), (br, bz, bw)])))))) 30 (.pointer (some ⟨5, i * 2, some ((((([] : List Key) ++ (kj (flatR ([(ar, az, aw), (br, bz, bw)])))) ++ (kj (flatW ([(ar, az, aw), (br, bz, bw)])))).length) * 2)⟩))) (.agg #[.int .i64 x9.1, .int .i64 x9.2]) (load_rowL (l := ((([] : List Key) ++ (kj (flatR ([(ar, az, aw), (br, bz, bw)])))) ++ (kj (flatW ([(ar, az, aw), (br, bz, bw)]))))) (by kernel_rfl) kcells_len (by kernel_rfl) hx9) ?_
          refine aN ?_
          refine sk_regionL Try.cfgOk hS ?_
          refine aK 4 ?_
          refine aT (fun h10 => ?_) (fun h10 => ?_)
          · have c11e : (decide ((x9.1 : Int) ≥ 0)) = true := Eq.trans (by kernel_rfl) h10
            clear h10
            have c11 : (x9.1 : Int) ≥ 0 := of_decide_eq_true c11e
            clear c11e
            refine aK 4 ?_
            refine aT (fun h12 => ?_) (fun h12 => ?_)
            · have c13e : (decide ((x9.1 : Int) < 4)) = true := Eq.trans (by kernel_rfl) h12
              clear h12
              have c13 : (x9.1 : Int) < 4 := of_decide_eq_true c13e
              clear c13e
              refine aN ?_
              refine sk_regionL Try.cfgOk hS ?_
              refine aE (v := .int .i64 (IntKind.wrap .i64 (((i : Nat) : Int) + 1))) (.int .i64 ((i + 1 : Nat) : Int)) (congrArg (Value.int .i64) (wrap_to (by omega) (by omega))) ?_
              refine aN ?_
              refine .inl ⟨(i + 1, true), rfl, ⟨?_, ?_, ?_⟩, ?_, ⟨by kernel_rfl, ⟨by kernel_rfl, by kernel_rfl, by kernel_rfl, by kernel_rfl, by kernel_rfl, by kernel_rfl, by kernel_rfl, trivial⟩, ⟨.ptr ⟨by decide, rfl⟩, .ptr ⟨by decide, rfl⟩, .ptr ⟨by decide, rfl⟩, sub_clo rfl, .slice ⟨by decide, rfl⟩, sub_clo rfl, sub_clo rfl, trivial⟩, Nat.le_of_ble_eq_true (by kernel_rfl), ⟨by kernel_rfl, (((((((wf_empty 0).new _).new _).new _).new _).new _).new _), (selfs (all_cons (o := .cells [inlL kcells 2 ar, inlL scells 3 az, inlL kcells 2 aw]) (by kernel_rfl) (OSub.cells (.cons (sub_clo rfl) (.cons (sub_clo rfl) (.cons (sub_clo rfl) .nil)))) (all_cons (o := .cells [inlL kcells 2 br, inlL scells 3 bz, inlL kcells 2 bw]) (by kernel_rfl) (OSub.cells (.cons (sub_clo rfl) (.cons (sub_clo rfl) (.cons (sub_clo rfl) .nil)))) (all_cons (o := .arr [inlL kcells 2 ar, inlL scells 3 az, inlL kcells 2 aw, inlL kcells 2 br, inlL scells 3 bz, inlL kcells 2 bw] 0 false) (by kernel_rfl) (OSub.arr (.cons (sub_clo rfl) (.cons (sub_clo rfl) (.cons (sub_clo rfl) (.cons (sub_clo rfl) (.cons (sub_clo rfl) (.cons (sub_clo rfl) .nil))))))) (all_cons (o := .arr [inlL kcells 2 ar, inlL scells 3 az, inlL kcells 2 aw, inlL kcells 2 br, inlL scells 3 bz, inlL kcells 2 bw] 0 false) (by kernel_rfl) (OSub.arr (.cons (sub_clo rfl) (.cons (sub_clo rfl) (.cons (sub_clo rfl) (.cons (sub_clo rfl) (.cons (sub_clo rfl) (.cons (sub_clo rfl) .nil))))))) (all_cons (o := .cells [inlL kcells 2 (kj (flatR ([(ar, az, aw), (br, bz, bw)]))), inlL scells 3 (sj (flatS ([(ar, az, aw), (br, bz, bw)]))), inlL kcells 2 (kj (flatW ([(ar, az, aw), (br, bz, bw)])))]) (by kernel_rfl) (OSub.cells (.cons (sub_clo rfl) (.cons (sub_clo rfl) (.cons (sub_clo rfl) .nil)))) (all_cons (o := rowL kcells ((([] : List Key) ++ (kj (flatR ([(ar, az, aw), (br, bz, bw)])))) ++ (kj (flatW ([(ar, az, aw), (br, bz, bw)]))))) (by kernel_rfl) (OSub.arr (subs_clo (flatL_clo kcells_clo))) (all_none))))))))⟩, mem_all (by kernel_rfl)⟩⟩
              · (try dsimp only); omega
              · (try dsimp only); first | exact seen_t i1 (by assumption) ⟨by omega, by omega⟩ | exact seen_f i1 | exact seen_n (by assumption) (fun q => by have := q.1; have := q.2; omega) | (subst_vars; exact seen_f (by assumption)) | (subst_vars; exact seen_t (by assumption) (by assumption) ⟨by omega, by omega⟩)
              · (try dsimp only); assumption
              · dsimp only; omega
            · have c13e : (decide ((x9.1 : Int) < 4)) = false := Eq.trans (by kernel_rfl) h12
              clear h12
              have c13 : ¬ (x9.1 : Int) < 4 := of_decide_eq_false c13e
              clear c13e
              refine aN ?_
              refine sk_regionL Try.cfgOk hS ?_
              refine aE (v := .int .i64 (IntKind.wrap .i64 (((i : Nat) : Int) + 1))) (.int .i64 ((i + 1 : Nat) : Int)) (congrArg (Value.int .i64) (wrap_to (by omega) (by omega))) ?_
              refine aN ?_
              refine .inl ⟨(i + 1, false), rfl, ⟨?_, ?_, ?_⟩, ?_, ⟨by kernel_rfl, ⟨by kernel_rfl, by kernel_rfl, by kernel_rfl, by kernel_rfl, by kernel_rfl, by kernel_rfl, by kernel_rfl, trivial⟩, ⟨.ptr ⟨by decide, rfl⟩, .ptr ⟨by decide, rfl⟩, .ptr ⟨by decide, rfl⟩, sub_clo rfl, .slice ⟨by decide, rfl⟩, sub_clo rfl, sub_clo rfl, trivial⟩, Nat.le_of_ble_eq_true (by kernel_rfl), ⟨by kernel_rfl, (((((((wf_empty 0).new _).new _).new _).new _).new _).new _), (selfs (all_cons (o := .cells [inlL kcells 2 ar, inlL scells 3 az, inlL kcells 2 aw]) (by kernel_rfl) (OSub.cells (.cons (sub_clo rfl) (.cons (sub_clo rfl) (.cons (sub_clo rfl) .nil)))) (all_cons (o := .cells [inlL kcells 2 br, inlL scells 3 bz, inlL kcells 2 bw]) (by kernel_rfl) (OSub.cells (.cons (sub_clo rfl) (.cons (sub_clo rfl) (.cons (sub_clo rfl) .nil)))) (all_cons (o := .arr [inlL kcells 2 ar, inlL scells 3 az, inlL kcells 2 aw, inlL kcells 2 br, inlL scells 3 bz, inlL kcells 2 bw] 0 false) (by kernel_rfl) (OSub.arr (.cons (sub_clo rfl) (.cons (sub_clo rfl) (.cons (sub_clo rfl) (.cons (sub_clo rfl) (.cons (sub_clo rfl) (.cons (sub_clo rfl) .nil))))))) (all_cons (o := .arr [inlL kcells 2 ar, inlL scells 3 az, inlL kcells 2 aw, inlL kcells 2 br, inlL scells 3 bz, inlL kcells 2 bw] 0 false) (by kernel_rfl) (OSub.arr (.cons (sub_clo rfl) (.cons (sub_clo rfl) (.cons (sub_clo rfl) (.cons (sub_clo rfl) (.cons (sub_clo rfl) (.cons (sub_clo rfl) .nil))))))) (all_cons (o := .cells [inlL kcells 2 (kj (flatR ([(ar, az, aw), (br, bz, bw)]))), inlL scells 3 (sj (flatS ([(ar, az, aw), (br, bz, bw)]))), inlL kcells 2 (kj (flatW ([(ar, az, aw), (br, bz, bw)])))]) (by kernel_rfl) (OSub.cells (.cons (sub_clo rfl) (.cons (sub_clo rfl) (.cons (sub_clo rfl) .nil)))) (all_cons (o := rowL kcells ((([] : List Key) ++ (kj (flatR ([(ar, az, aw), (br, bz, bw)])))) ++ (kj (flatW ([(ar, az, aw), (br, bz, bw)]))))) (by kernel_rfl) (OSub.arr (subs_clo (flatL_clo kcells_clo))) (all_none))))))))⟩, mem_all (by kernel_rfl)⟩⟩
              · (try dsimp only); omega
              · (try dsimp only); first | exact seen_t i1 (by assumption) ⟨by omega, by omega⟩ | exact seen_f i1 | exact seen_n (by assumption) (fun q => by have := q.1; have := q.2; omega) | (subst_vars; exact seen_f (by assumption)) | (subst_vars; exact seen_t (by assumption) (by assumption) ⟨by omega, by omega⟩)
              · (try dsimp only); assumption
              · dsimp only; omega
          · have c11e : (decide ((x9.1 : Int) ≥ 0)) = false := Eq.trans (by kernel_rfl) h10
            clear h10
            have c11 : ¬ (x9.1 : Int) ≥ 0 := of_decide_eq_false c11e
            clear c11e
            refine aN ?_
            refine sk_regionL Try.cfgOk hS ?_
            refine aE (v := .int .i64 (IntKind.wrap .i64 (((i : Nat) : Int) + 1))) (.int .i64 ((i + 1 : Nat) : Int)) (congrArg (Value.int .i64) (wrap_to (by omega) (by omega))) ?_
            refine aN ?_
            refine .inl ⟨(i + 1, false), rfl, ⟨?_, ?_, ?_⟩, ?_, ⟨by kernel_rfl, ⟨by kernel_rfl, by kernel_rfl, by kernel_rfl, by kernel_rfl, by kernel_rfl, by kernel_rfl, by kernel_rfl, trivial⟩, ⟨.ptr ⟨by decide, rfl⟩, .ptr ⟨by decide, rfl⟩, .ptr ⟨by decide, rfl⟩, sub_clo rfl, .slice ⟨by decide, rfl⟩, sub_clo rfl, sub_clo rfl, trivial⟩, Nat.le_of_ble_eq_true (by kernel_rfl), ⟨by kernel_rfl, (((((((wf_empty 0).new _).new _).new _).new _).new _).new _), (selfs (all_cons (o := .cells [inlL kcells 2 ar, inlL scells 3 az, inlL kcells 2 aw]) (by kernel_rfl) (OSub.cells (.cons (sub_clo rfl) (.cons (sub_clo rfl) (.cons (sub_clo rfl) .nil)))) (all_cons (o := .cells [inlL kcells 2 br, inlL scells 3 bz, inlL kcells 2 bw]) (by kernel_rfl) (OSub.cells (.cons (sub_clo rfl) (.cons (sub_clo rfl) (.cons (sub_clo rfl) .nil)))) (all_cons (o := .arr [inlL kcells 2 ar, inlL scells 3 az, inlL kcells 2 aw, inlL kcells 2 br, inlL scells 3 bz, inlL kcells 2 bw] 0 false) (by kernel_rfl) (OSub.arr (.cons (sub_clo rfl) (.cons (sub_clo rfl) (.cons (sub_clo rfl) (.cons (sub_clo rfl) (.cons (sub_clo rfl) (.cons (sub_clo rfl) .nil))))))) (all_cons (o := .arr [inlL kcells 2 ar, inlL scells 3 az, inlL kcells 2 aw, inlL kcells 2 br, inlL scells 3 bz, inlL kcells 2 bw] 0 false) (by kernel_rfl) (OSub.arr (.cons (sub_clo rfl) (.cons (sub_clo rfl) (.cons (sub_clo rfl) (.cons (sub_clo rfl) (.cons (sub_clo rfl) (.cons (sub_clo rfl) .nil))))))) (all_cons (o := .cells [inlL kcells 2 (kj (flatR ([(ar, az, aw), (br, bz, bw)]))), inlL scells 3 (sj (flatS ([(ar, az, aw), (br, bz, bw)]))), inlL kcells 2 (kj (flatW ([(ar, az, aw), (br, bz, bw)])))]) (by kernel_rfl) (OSub.cells (.cons (sub_clo rfl) (.cons (sub_clo rfl) (.cons (sub_clo rfl) .nil)))) (all_cons (o := rowL kcells ((([] : List Key) ++ (kj (flatR ([(ar, az, aw), (br, bz, bw)])))) ++ (kj (flatW ([(ar, az, aw), (br, bz, bw)]))))) (by kernel_rfl) (OSub.arr (subs_clo (flatL_clo kcells_clo))) (all_none))))))))⟩, mem_all (by kernel_rfl)⟩⟩
            · (try dsimp only); omega
            · (try dsimp only); first | exact seen_t i1 (by assumption) ⟨by omega, by omega⟩ | exact seen_f i1 | exact seen_n (by assumption) (fun q => by have := q.1; have := q.2; omega) | (subst_vars; exact seen_f (by assumption)) | (subst_vars; exact seen_t (by assumption) (by assumption) ⟨by omega, by omega⟩)
            · (try dsimp only); assumption
            · dsimp only; omega
        · have c8e : (decide ((((i : Nat) : Int) : Int) < ((((([] : List Key) ++ (kj (flatR ([(ar, az, aw), (br, bz, bw)])))) ++ (kj (flatW ([(ar, az, aw), (br, bz, bw)])))).length : Nat) : Int))) = false := Eq.trans (by kernel_rfl) h7
          clear h7
          have c8 : ¬ (((i : Nat) : Int) : Int) < ((((([] : List Key) ++ (kj (flatR ([(ar, az, aw), (br, bz, bw)])))) ++ (kj (flatW ([(ar, az, aw), (br, bz, bw)])))).length : Nat) : Int) := of_decide_eq_false c8e
          clear c8e
          refine al_nil ?_
          refine sk_seq ?_
          refine kF ?_
          refine sk_exit ?_
          dsimp only
          refine .inr ⟨_, _, (fun h => by cases h), ⟨rfl, ?_, rfl, rfl⟩, ⟨by kernel_rfl, ⟨by kernel_rfl, by kernel_rfl, by kernel_rfl, by kernel_rfl, by kernel_rfl, by kernel_rfl, by kernel_rfl, trivial⟩, ⟨.ptr ⟨by decide, rfl⟩, .ptr ⟨by decide, rfl⟩, .ptr ⟨by decide, rfl⟩, sub_clo rfl, .slice ⟨by decide, rfl⟩, sub_clo rfl, sub_clo rfl, trivial⟩, Nat.le_of_ble_eq_true (by kernel_rfl), ⟨by kernel_rfl, (((((((wf_empty 0).new _).new _).new _).new _).new _).new _), (selfs (all_cons (o := .cells [inlL kcells 2 ar, inlL scells 3 az, inlL kcells 2 aw]) (by kernel_rfl) (OSub.cells (.cons (sub_clo rfl) (.cons (sub_clo rfl) (.cons (sub_clo rfl) .nil)))) (all_cons (o := .cells [inlL kcells 2 br, inlL scells 3 bz, inlL kcells 2 bw]) (by kernel_rfl) (OSub.cells (.cons (sub_clo rfl) (.cons (sub_clo rfl) (.cons (sub_clo rfl) .nil)))) (all_cons (o := .arr [inlL kcells 2 ar, inlL scells 3 az, inlL kcells 2 aw, inlL kcells 2 br, inlL scells 3 bz, inlL kcells 2 bw] 0 false) (by kernel_rfl) (OSub.arr (.cons (sub_clo rfl) (.cons (sub_clo rfl) (.cons (sub_clo rfl) (.cons (sub_clo rfl) (.cons (sub_clo rfl) (.cons (sub_clo rfl) .nil))))))) (all_cons (o := .arr [inlL kcells 2 ar, inlL scells 3 az, inlL kcells 2 aw, inlL kcells 2 br, inlL scells 3 bz, inlL kcells 2 bw] 0 false) (by kernel_rfl) (OSub.arr (.cons (sub_clo rfl) (.cons (sub_clo rfl) (.cons (sub_clo rfl) (.cons (sub_clo rfl) (.cons (sub_clo rfl) (.cons (sub_clo rfl) .nil))))))) (all_cons (o := .cells [inlL kcells 2 (kj (flatR ([(ar, az, aw), (br, bz, bw)]))), inlL scells 3 (sj (flatS ([(ar, az, aw), (br, bz, bw)]))), inlL kcells 2 (kj (flatW ([(ar, az, aw), (br, bz, bw)])))]) (by kernel_rfl) (OSub.cells (.cons (sub_clo rfl) (.cons (sub_clo rfl) (.cons (sub_clo rfl) .nil)))) (all_cons (o := rowL kcells ((([] : List Key) ++ (kj (flatR ([(ar, az, aw), (br, bz, bw)])))) ++ (kj (flatW ([(ar, az, aw), (br, bz, bw)]))))) (by kernel_rfl) (OSub.arr (subs_clo (flatL_clo kcells_clo))) (all_none))))))))⟩, mem_all (by kernel_rfl)⟩⟩
          · exact seen_all i1 (by omega)
    · exact ⟨by ((try dsimp only); first | done | (omega)), by ((try dsimp only); first | done | (exact seen_0 (tf_true trivial).symm)), by ((try dsimp only); first | done | (simp only [List.length_append, List.length_nil]; omega))⟩
    rintro o e1 s1 ⟨a, lv1, M1, m3, ha, ⟨rfl, hx, rfl, rfl⟩, rfl, rfl⟩
    obtain ⟨i, ok⟩ := a
    obtain ⟨i0, i1, i2⟩ := ha
    dsimp only at hx i0 i1 i2
    dsimp only
    try rw [if_pos rfl]
    refine sk_seq (sk_seq ?_)
    refine sk_regionL Try.cfgOk hS ?_
    refine aK 2 ?_
    refine aM (lenB Try.cfg (St.empty 0) 23 (inlL scells 3 (sj (flatS ([(ar, az, aw), (br, bz, bw)]))))) (.int .i64 (((sj (flatS ([(ar, az, aw), (br, bz, bw)]))).length : Nat) : Int)) (len_inl tokC (by kernel_rfl)) ?_
    refine aN ?_
    refine sk_block ?_
    refine sk_live 91 ((fun a : Nat × Bool => [(2, .pointer (some ⟨0, 0, none⟩)), (3, .pointer (some ⟨1, 0, none⟩)), (5, .pointer (some ⟨4, 0, none⟩)), (6, .bool a.2), (46, inlL scells 3 (sj (flatS ([(ar, az, aw), (br, bz, bw)])))), (47, .int .i64 (((sj (flatS ([(ar, az, aw), (br, bz, bw)]))).length : Nat) : Int)), (48, .int .i64 ((a.1 : Nat) : Int))]) (0, ok)) (by kernel_rfl) ⟨by kernel_rfl, by kernel_rfl, by kernel_rfl, by kernel_rfl, by kernel_rfl, by kernel_rfl, by kernel_rfl, trivial⟩ fun m14 => ?_
    refine sk_st ((fun a : Nat × Bool => (((((((St.empty 0).new (.cells [inlL kcells 2 ar, inlL scells 3 az, inlL kcells 2 aw])).new (.cells [inlL kcells 2 br, inlL scells 3 bz, inlL kcells 2 bw])).new (.arr [inlL kcells 2 ar, inlL scells 3 az, inlL kcells 2 aw, inlL kcells 2 br, inlL scells 3 bz, inlL kcells 2 bw] 0 false)).new (.arr [inlL kcells 2 ar, inlL scells 3 az, inlL kcells 2 aw, inlL kcells 2 br, inlL scells 3 bz, inlL kcells 2 bw] 0 false)).new (.cells [inlL kcells 2 (kj (flatR ([(ar, az, aw), (br, bz, bw)]))), inlL scells 3 (sj (flatS ([(ar, az, aw), (br, bz, bw)]))), inlL kcells 2 (kj (flatW ([(ar, az, aw), (br, bz, bw)])))])).new (rowL kcells ((([] : List Key) ++ (kj (flatR ([(ar, az, aw), (br, bz, bw)])))) ++ (kj (flatW ([(ar, az, aw), (br, bz, bw)]))))))) (0, ok)) (by kernel_rfl) ?_
    refine (sk_while (k := 6) (N := 400) (live := (fun a : Nat × Bool => [(2, .pointer (some ⟨0, 0, none⟩)), (3, .pointer (some ⟨1, 0, none⟩)), (5, .pointer (some ⟨4, 0, none⟩)), (6, .bool a.2), (46, inlL scells 3 (sj (flatS ([(ar, az, aw), (br, bz, bw)])))), (47, .int .i64 (((sj (flatS ([(ar, az, aw), (br, bz, bw)]))).length : Nat) : Int)), (48, .int .i64 ((a.1 : Nat) : Int))])) (M := (fun a : Nat × Bool => (((((((St.empty 0).new (.cells [inlL kcells 2 ar, inlL scells 3 az, inlL kcells 2 aw])).new (.cells [inlL kcells 2 br, inlL scells 3 bz, inlL kcells 2 bw])).new (.arr [inlL kcells 2 ar, inlL scells 3 az, inlL kcells 2 aw, inlL kcells 2 br, inlL scells 3 bz, inlL kcells 2 bw] 0 false)).new (.arr [inlL kcells 2 ar, inlL scells 3 az, inlL kcells 2 aw, inlL kcells 2 br, inlL scells 3 bz, inlL kcells 2 bw] 0 false)).new (.cells [inlL kcells 2 (kj (flatR ([(ar, az, aw), (br, bz, bw)]))), inlL scells 3 (sj (flatS ([(ar, az, aw), (br, bz, bw)]))), inlL kcells 2 (kj (flatW ([(ar, az, aw), (br, bz, bw)])))])).new (rowL kcells ((([] : List Key) ++ (kj (flatR ([(ar, az, aw), (br, bz, bw)])))) ++ (kj (flatW ([(ar, az, aw), (br, bz, bw)])))))))) (fun a : Nat × Bool => (a.1 ≤ (sj (flatS [(ar, az, aw), (br, bz, bw)])).length) ∧ (a.2 = tf ((True ∧ ∀ x ∈ (([] : List Key) ++ (kj (flatR [(ar, az, aw), (br, bz, bw)])) ++ (kj (flatW [(ar, az, aw), (br, bz, bw)]))), T4 x.1) ∧ ∀ x ∈ (sj (flatS [(ar, az, aw), (br, bz, bw)])).take a.1, T4 x.1))) (fun a : Nat × Bool => (sj (flatS [(ar, az, aw), (br, bz, bw)])).length - a.1) (fun (a : Nat × Bool) (o : Out) (lv : List (Nat × Value)) (M : St) => (o = .exit 2 ∧ (a.2 = tf ((True ∧ ∀ x ∈ (([] : List Key) ++ (kj (flatR [(ar, az, aw), (br, bz, bw)])) ++ (kj (flatW [(ar, az, aw), (br, bz, bw)]))), T4 x.1) ∧ ∀ x ∈ (sj (flatS [(ar, az, aw), (br, bz, bw)])), T4 x.1)) ∧ lv = [(2, .pointer (some ⟨0, 0, none⟩)), (3, .pointer (some ⟨1, 0, none⟩)), (5, .pointer (some ⟨4, 0, none⟩)), (6, .bool a.2), (46, inlL scells 3 (sj (flatS ([(ar, az, aw), (br, bz, bw)])))), (47, .int .i64 (((sj (flatS ([(ar, az, aw), (br, bz, bw)]))).length : Nat) : Int)), (48, .int .i64 ((a.1 : Nat) : Int))] ∧ M = (((((((St.empty 0).new (.cells [inlL kcells 2 ar, inlL scells 3 az, inlL kcells 2 aw])).new (.cells [inlL kcells 2 br, inlL scells 3 bz, inlL kcells 2 bw])).new (.arr [inlL kcells 2 ar, inlL scells 3 az, inlL kcells 2 aw, inlL kcells 2 br, inlL scells 3 bz, inlL kcells 2 bw] 0 false)).new (.arr [inlL kcells 2 ar, inlL scells 3 az, inlL kcells 2 aw, inlL kcells 2 br, inlL scells 3 bz, inlL kcells 2 bw] 0 false)).new (.cells [inlL kcells 2 (kj (flatR ([(ar, az, aw), (br, bz, bw)]))), inlL scells 3 (sj (flatS ([(ar, az, aw), (br, bz, bw)]))), inlL kcells 2 (kj (flatW ([(ar, az, aw), (br, bz, bw)])))])).new (rowL kcells ((([] : List Key) ++ (kj (flatR ([(ar, az, aw), (br, bz, bw)])))) ++ (kj (flatW ([(ar, az, aw), (br, bz, bw)])))))))) (Nat.zero_le _) (fun a ha => ?_) (fun a ha => ?_) (fun a m ha => ?_) (fun a m ha => ?_) (0, ok) m14 ?_).up ?_
    · exact ⟨by kernel_rfl, (((((((wf_empty 0).new _).new _).new _).new _).new _).new _), (selfs (all_cons (o := .cells [inlL kcells 2 ar, inlL scells 3 az, inlL kcells 2 aw]) (by kernel_rfl) (OSub.cells (.cons (sub_clo rfl) (.cons (sub_clo rfl) (.cons (sub_clo rfl) .nil)))) (all_cons (o := .cells [inlL kcells 2 br, inlL scells 3 bz, inlL kcells 2 bw]) (by kernel_rfl) (OSub.cells (.cons (sub_clo rfl) (.cons (sub_clo rfl) (.cons (sub_clo rfl) .nil)))) (all_cons (o := .arr [inlL kcells 2 ar, inlL scells 3 az, inlL kcells 2 aw, inlL kcells 2 br, inlL scells 3 bz, inlL kcells 2 bw] 0 false) (by kernel_rfl) (OSub.arr (.cons (sub_clo rfl) (.cons (sub_clo rfl) (.cons (sub_clo rfl) (.cons (sub_clo rfl) (.cons (sub_clo rfl) (.cons (sub_clo rfl) .nil))))))) (all_cons (o := .arr [inlL kcells 2 ar, inlL scells 3 az, inlL kcells 2 aw, inlL kcells 2 br, inlL scells 3 bz, inlL kcells 2 bw] 0 false) (by kernel_rfl) (OSub.arr (.cons (sub_clo rfl) (.cons (sub_clo rfl) (.cons (sub_clo rfl) (.cons (sub_clo rfl) (.cons (sub_clo rfl) (.cons (sub_clo rfl) .nil))))))) (all_cons (o := .cells [inlL kcells 2 (kj (flatR ([(ar, az, aw), (br, bz, bw)]))), inlL scells 3 (sj (flatS ([(ar, az, aw), (br, bz, bw)]))), inlL kcells 2 (kj (flatW ([(ar, az, aw), (br, bz, bw)])))]) (by kernel_rfl) (OSub.cells (.cons (sub_clo rfl) (.cons (sub_clo rfl) (.cons (sub_clo rfl) .nil)))) (all_cons (o := rowL kcells ((([] : List Key) ++ (kj (flatR ([(ar, az, aw), (br, bz, bw)])))) ++ (kj (flatW ([(ar, az, aw), (br, bz, bw)]))))) (by kernel_rfl) (OSub.arr (subs_clo (flatL_clo kcells_clo))) (all_none))))))))⟩
    · exact ⟨.ptr ⟨by decide, rfl⟩, .ptr ⟨by decide, rfl⟩, .ptr ⟨by decide, rfl⟩, sub_clo rfl, sub_clo rfl, sub_clo rfl, sub_clo rfl, trivial⟩
    · exact ⟨by kernel_rfl, by kernel_rfl, by kernel_rfl, by kernel_rfl, by kernel_rfl, by kernel_rfl, by kernel_rfl, trivial⟩
    · obtain ⟨i, ok⟩ := a
      obtain ⟨i0, i1⟩ := ha
      dsimp only at i0 i1
      rcases ok with _ | _
      ·
        refine sk_seq ?_
        refine sk_regionL Try.cfgOk hS ?_
        refine aT (fun h15 => ?_) (fun h15 => ?_)
        · have c16e : (decide ((((i : Nat) : Int) : Int) < (((sj (flatS ([(ar, az, aw), (br, bz, bw)]))).length : Nat) : Int))) = true := Eq.trans (by kernel_rfl) h15
          clear h15
          have c16 : (((i : Nat) : Int) : Int) < (((sj (flatS ([(ar, az, aw), (br, bz, bw)]))).length : Nat) : Int) := of_decide_eq_true c16e
          clear c16e
          refine al_nil ?_
          refine sk_seq ?_
          refine kT ?_
          refine sk_skip (sk_seq (sk_block (sk_seq ?_)))
          refine sk_regionL Try.cfgOk hS ?_
          refine aM (indexAddrV Try.cfg 23 (inlL scells 3 (sj (flatS ([(ar, az, aw), (br, bz, bw)])))) (.int .i64 ((i : Nat) : Int))) (elt (flatL scells (sj (flatS ([(ar, az, aw), (br, bz, bw)])))) (i * 3)) (idx_inlL tokC (by kernel_rfl) (by first | omega | simp)) ?_
          have hx17l : i < (sj (flatS ([(ar, az, aw), (br, bz, bw)]))).length := by omega
          refine Exists.elim (get_ex hx17l) fun x17 hx17 => ?_
          clear hx17l
          refine aM (loadV Try.cfg (St.empty 0) 32 (elt (flatL scells (sj (flatS ([(ar, az, aw), (br, bz, bw)])))) (i * 3))) (.agg #[.int .i64 x17.1, .int .i64 x17.2.1, .int .i64 x17.2.2]) (load_el tokC (by kernel_rfl) scells_len hx17) ?_
          refine aN ?_
          refine kK Try.cfgOk hS ?_
          refine sk_regionL Try.cfgOk hS ?_
          refine aE (v := .int .i64 (IntKind.wrap .i64 (((i : Nat) : Int) + 1))) (.int .i64 ((i + 1 : Nat) : Int)) (congrArg (Value.int .i64) (wrap_to (by omega) (by omega))) ?_
          refine aN ?_
          refine .inl ⟨(i + 1, false), rfl, ⟨?_, ?_⟩, ?_, ⟨by kernel_rfl, ⟨by kernel_rfl, by kernel_rfl, by kernel_rfl, by kernel_rfl, by kernel_rfl, by kernel_rfl, by kernel_rfl, trivial⟩, ⟨.ptr ⟨by decide, rfl⟩, .ptr ⟨by decide, rfl⟩, .ptr ⟨by decide, rfl⟩, sub_clo rfl, sub_clo rfl, sub_clo rfl, sub_clo rfl, trivial⟩, Nat.le_of_ble_eq_true (by kernel_rfl), ⟨by kernel_rfl, (((((((wf_empty 0).new _).new _).new _).new _).new _).new _), (selfs (all_cons (o := .cells [inlL kcells 2 ar, inlL scells 3 az, inlL kcells 2 aw]) (by kernel_rfl) (OSub.cells (.cons (sub_clo rfl) (.cons (sub_clo rfl) (.cons (sub_clo rfl) .nil)))) (all_cons (o := .cells [inlL kcells 2 br, inlL scells 3 bz, inlL kcells 2 bw]) (by kernel_rfl) (OSub.cells (.cons (sub_clo rfl) (.cons (sub_clo rfl) (.cons (sub_clo rfl) .nil)))) (all_cons (o := .arr [inlL kcells 2 ar, inlL scells 3 az, inlL kcells 2 aw, inlL kcells 2 br, inlL scells 3 bz, inlL kcells 2 bw] 0 false) (by kernel_rfl) (OSub.arr (.cons (sub_clo rfl) (.cons (sub_clo rfl) (.cons (sub_clo rfl) (.cons (sub_clo rfl) (.cons (sub_clo rfl) (.cons (sub_clo rfl) .nil))))))) (all_cons (o := .arr [inlL kcells 2 ar, inlL scells 3 az, inlL kcells 2 aw, inlL kcells 2 br, inlL scells 3 bz, inlL kcells 2 bw] 0 false) (by kernel_rfl) (OSub.arr (.cons (sub_clo rfl) (.cons (sub_clo rfl) (.cons (sub_clo rfl) (.cons (sub_clo rfl) (.cons (sub_clo rfl) (.cons (sub_clo rfl) .nil))))))) (all_cons (o := .cells [inlL kcells 2 (kj (flatR ([(ar, az, aw), (br, bz, bw)]))), inlL scells 3 (sj (flatS ([(ar, az, aw), (br, bz, bw)]))), inlL kcells 2 (kj (flatW ([(ar, az, aw), (br, bz, bw)])))]) (by kernel_rfl) (OSub.cells (.cons (sub_clo rfl) (.cons (sub_clo rfl) (.cons (sub_clo rfl) .nil)))) (all_cons (o := rowL kcells ((([] : List Key) ++ (kj (flatR ([(ar, az, aw), (br, bz, bw)])))) ++ (kj (flatW ([(ar, az, aw), (br, bz, bw)]))))) (by kernel_rfl) (OSub.arr (subs_clo (flatL_clo kcells_clo))) (all_none))))))))⟩, mem_all (by kernel_rfl)⟩⟩
          · (try dsimp only); omega
          · (try dsimp only); first | exact seen_t i1 (by assumption) ⟨by omega, by omega⟩ | exact seen_f i1 | exact seen_n (by assumption) (fun q => by have := q.1; have := q.2; omega) | (subst_vars; exact seen_f (by assumption)) | (subst_vars; exact seen_t (by assumption) (by assumption) ⟨by omega, by omega⟩)
          · dsimp only; omega
        · have c16e : (decide ((((i : Nat) : Int) : Int) < (((sj (flatS ([(ar, az, aw), (br, bz, bw)]))).length : Nat) : Int))) = false := Eq.trans (by kernel_rfl) h15
          clear h15
          have c16 : ¬ (((i : Nat) : Int) : Int) < (((sj (flatS ([(ar, az, aw), (br, bz, bw)]))).length : Nat) : Int) := of_decide_eq_false c16e
          clear c16e
          refine al_nil ?_
          refine sk_seq ?_
          refine kF ?_
          refine sk_exit ?_
          dsimp only
          refine .inr ⟨_, _, (fun h => by cases h), ⟨rfl, ?_, rfl, rfl⟩, ⟨by kernel_rfl, ⟨by kernel_rfl, by kernel_rfl, by kernel_rfl, by kernel_rfl, by kernel_rfl, by kernel_rfl, by kernel_rfl, trivial⟩, ⟨.ptr ⟨by decide, rfl⟩, .ptr ⟨by decide, rfl⟩, .ptr ⟨by decide, rfl⟩, sub_clo rfl, sub_clo rfl, sub_clo rfl, sub_clo rfl, trivial⟩, Nat.le_of_ble_eq_true (by kernel_rfl), ⟨by kernel_rfl, (((((((wf_empty 0).new _).new _).new _).new _).new _).new _), (selfs (all_cons (o := .cells [inlL kcells 2 ar, inlL scells 3 az, inlL kcells 2 aw]) (by kernel_rfl) (OSub.cells (.cons (sub_clo rfl) (.cons (sub_clo rfl) (.cons (sub_clo rfl) .nil)))) (all_cons (o := .cells [inlL kcells 2 br, inlL scells 3 bz, inlL kcells 2 bw]) (by kernel_rfl) (OSub.cells (.cons (sub_clo rfl) (.cons (sub_clo rfl) (.cons (sub_clo rfl) .nil)))) (all_cons (o := .arr [inlL kcells 2 ar, inlL scells 3 az, inlL kcells 2 aw, inlL kcells 2 br, inlL scells 3 bz, inlL kcells 2 bw] 0 false) (by kernel_rfl) (OSub.arr (.cons (sub_clo rfl) (.cons (sub_clo rfl) (.cons (sub_clo rfl) (.cons (sub_clo rfl) (.cons (sub_clo rfl) (.cons (sub_clo rfl) .nil))))))) (all_cons (o := .arr [inlL kcells 2 ar, inlL scells 3 az, inlL kcells 2 aw, inlL kcells 2 br, inlL scells 3 bz, inlL kcells 2 bw] 0 false) (by kernel_rfl) (OSub.arr (.cons (sub_clo rfl) (.cons (sub_clo rfl) (.cons (sub_clo rfl) (.cons (sub_clo rfl) (.cons (sub_clo rfl) (.cons (sub_clo rfl) .nil))))))) (all_cons (o := .cells [inlL kcells 2 (kj (flatR ([(ar, az, aw), (br, bz, bw)]))), inlL scells 3 (sj (flatS ([(ar, az, aw), (br, bz, bw)]))), inlL kcells 2 (kj (flatW ([(ar, az, aw), (br, bz, bw)])))]) (by kernel_rfl) (OSub.cells (.cons (sub_clo rfl) (.cons (sub_clo rfl) (.cons (sub_clo rfl) .nil)))) (all_cons (o := rowL kcells ((([] : List Key) ++ (kj (flatR ([(ar, az, aw), (br, bz, bw)])))) ++ (kj (flatW ([(ar, az, aw), (br, bz, bw)]))))) (by kernel_rfl) (OSub.arr (subs_clo (flatL_clo kcells_clo))) (all_none))))))))⟩, mem_all (by kernel_rfl)⟩⟩
          · exact seen_all i1 (by omega)
      ·
        refine sk_seq ?_
        refine sk_regionL Try.cfgOk hS ?_
        refine aT (fun h18 => ?_) (fun h18 => ?_)
        · have c19e : (decide ((((i : Nat) : Int) : Int) < (((sj (flatS ([(ar, az, aw), (br, bz, bw)]))).length : Nat) : Int))) = true := Eq.trans (by kernel_rfl) h18
          clear h18
          have c19 : (((i : Nat) : Int) : Int) < (((sj (flatS ([(ar, az, aw), (br, bz, bw)]))).length : Nat) : Int) := of_decide_eq_true c19e
          clear c19e
          refine al_nil ?_
          refine sk_seq ?_
          refine kT ?_
          refine sk_skip (sk_seq (sk_block (sk_seq ?_)))
          refine sk_regionL Try.cfgOk hS ?_
          refine aM (indexAddrV Try.cfg 23 (inlL scells 3 (sj (flatS ([(ar, az, aw), (br, bz, bw)])))) (.int .i64 ((i : Nat) : Int))) (elt (flatL scells (sj (flatS ([(ar, az, aw), (br, bz, bw)])))) (i * 3)) (idx_inlL tokC (by kernel_rfl) (by first | omega | simp)) ?_
          have hx20l : i < (sj (flatS ([(ar, az, aw), (br, bz, bw)]))).length := by omega
          refine Exists.elim (get_ex hx20l) fun x20 hx20 => ?_
          clear hx20l
          refine aM (loadV Try.cfg (St.empty 0) 32 (elt (flatL scells (sj (flatS ([(ar, az, aw), (br, bz, bw)])))) (i * 3))) (.agg #[.int .i64 x20.1, .int .i64 x20.2.1, .int .i64 x20.2.2]) (load_el tokC (by kernel_rfl) scells_len hx20) ?_
          refine aN ?_
          refine sk_regionL Try.cfgOk hS ?_
          refine aK 4 ?_
          refine aT (fun h21 => ?_) (fun h21 => ?_)
          · have c22e : (decide ((x20.1 : Int) ≥ 0)) = true := Eq.trans (by kernel_rfl) h21
            clear h21
            have c22 : (x20.1 : Int) ≥ 0 := of_decide_eq_true c22e
            clear c22e
            refine aK 4 ?_
            refine aT (fun h23 => ?_) (fun h23 => ?_)
            · have c24e : (decide ((x20.1 : Int) < 4)) = true := Eq.trans (by kernel_rfl) h23
              clear h23
              have c24 : (x20.1 : Int) < 4 := of_decide_eq_true c24e
              clear c24e
              refine aN ?_
              refine sk_regionL Try.cfgOk hS ?_
              refine aE (v := .int .i64 (IntKind.wrap .i64 (((i : Nat) : Int) + 1))) (.int .i64 ((i + 1 : Nat) : Int)) (congrArg (Value.int .i64) (wrap_to (by omega) (by omega))) ?_
              refine aN ?_
              refine .inl ⟨(i + 1, true), rfl, ⟨?_, ?_⟩, ?_, ⟨by kernel_rfl, ⟨by kernel_rfl, by kernel_rfl, by kernel_rfl, by kernel_rfl, by kernel_rfl, by kernel_rfl, by kernel_rfl, trivial⟩, ⟨.ptr ⟨by decide, rfl⟩, .ptr ⟨by decide, rfl⟩, .ptr ⟨by decide, rfl⟩, sub_clo rfl, sub_clo rfl, sub_clo rfl, sub_clo rfl, trivial⟩, Nat.le_of_ble_eq_true (by kernel_rfl), ⟨by kernel_rfl, (((((((wf_empty 0).new _).new _).new _).new _).new _).new _), (selfs (all_cons (o := .cells [inlL kcells 2 ar, inlL scells 3 az, inlL kcells 2 aw]) (by kernel_rfl) (OSub.cells (.cons (sub_clo rfl) (.cons (sub_clo rfl) (.cons (sub_clo rfl) .nil)))) (all_cons (o := .cells [inlL kcells 2 br, inlL scells 3 bz, inlL kcells 2 bw]) (by kernel_rfl) (OSub.cells (.cons (sub_clo rfl) (.cons (sub_clo rfl) (.cons (sub_clo rfl) .nil)))) (all_cons (o := .arr [inlL kcells 2 ar, inlL scells 3 az, inlL kcells 2 aw, inlL kcells 2 br, inlL scells 3 bz, inlL kcells 2 bw] 0 false) (by kernel_rfl) (OSub.arr (.cons (sub_clo rfl) (.cons (sub_clo rfl) (.cons (sub_clo rfl) (.cons (sub_clo rfl) (.cons (sub_clo rfl) (.cons (sub_clo rfl) .nil))))))) (all_cons (o := .arr [inlL kcells 2 ar, inlL scells 3 az, inlL kcells 2 aw, inlL kcells 2 br, inlL scells 3 bz, inlL kcells 2 bw] 0 false) (by kernel_rfl) (OSub.arr (.cons (sub_clo rfl) (.cons (sub_clo rfl) (.cons (sub_clo rfl) (.cons (sub_clo rfl) (.cons (sub_clo rfl) (.cons (sub_clo rfl) .nil))))))) (all_cons (o := .cells [inlL kcells 2 (kj (flatR ([(ar, az, aw), (br, bz, bw)]))), inlL scells 3 (sj (flatS ([(ar, az, aw), (br, bz, bw)]))), inlL kcells 2 (kj (flatW ([(ar, az, aw), (br, bz, bw)])))]) (by kernel_rfl) (OSub.cells (.cons (sub_clo rfl) (.cons (sub_clo rfl) (.cons (sub_clo rfl) .nil)))) (all_cons (o := rowL kcells ((([] : List Key) ++ (kj (flatR ([(ar, az, aw), (br, bz, bw)])))) ++ (kj (flatW ([(ar, az, aw), (br, bz, bw)]))))) (by kernel_rfl) (OSub.arr (subs_clo (flatL_clo kcells_clo))) (all_none))))))))⟩, mem_all (by kernel_rfl)⟩⟩
              · (try dsimp only); omega
              · (try dsimp only); first | exact seen_t i1 (by assumption) ⟨by omega, by omega⟩ | exact seen_f i1 | exact seen_n (by assumption) (fun q => by have := q.1; have := q.2; omega) | (subst_vars; exact seen_f (by assumption)) | (subst_vars; exact seen_t (by assumption) (by assumption) ⟨by omega, by omega⟩)
              · dsimp only; omega
            · have c24e : (decide ((x20.1 : Int) < 4)) = false := Eq.trans (by kernel_rfl) h23
              clear h23
              have c24 : ¬ (x20.1 : Int) < 4 := of_decide_eq_false c24e
              clear c24e
              refine aN ?_
              refine sk_regionL Try.cfgOk hS ?_
              refine aE (v := .int .i64 (IntKind.wrap .i64 (((i : Nat) : Int) + 1))) (.int .i64 ((i + 1 : Nat) : Int)) (congrArg (Value.int .i64) (wrap_to (by omega) (by omega))) ?_
              refine aN ?_
              refine .inl ⟨(i + 1, false), rfl, ⟨?_, ?_⟩, ?_, ⟨by kernel_rfl, ⟨by kernel_rfl, by kernel_rfl, by kernel_rfl, by kernel_rfl, by kernel_rfl, by kernel_rfl, by kernel_rfl, trivial⟩, ⟨.ptr ⟨by decide, rfl⟩, .ptr ⟨by decide, rfl⟩, .ptr ⟨by decide, rfl⟩, sub_clo rfl, sub_clo rfl, sub_clo rfl, sub_clo rfl, trivial⟩, Nat.le_of_ble_eq_true (by kernel_rfl), ⟨by kernel_rfl, (((((((wf_empty 0).new _).new _).new _).new _).new _).new _), (selfs (all_cons (o := .cells [inlL kcells 2 ar, inlL scells 3 az, inlL kcells 2 aw]) (by kernel_rfl) (OSub.cells (.cons (sub_clo rfl) (.cons (sub_clo rfl) (.cons (sub_clo rfl) .nil)))) (all_cons (o := .cells [inlL kcells 2 br, inlL scells 3 bz, inlL kcells 2 bw]) (by kernel_rfl) (OSub.cells (.cons (sub_clo rfl) (.cons (sub_clo rfl) (.cons (sub_clo rfl) .nil)))) (all_cons (o := .arr [inlL kcells 2 ar, inlL scells 3 az, inlL kcells 2 aw, inlL kcells 2 br, inlL scells 3 bz, inlL kcells 2 bw] 0 false) (by kernel_rfl) (OSub.arr (.cons (sub_clo rfl) (.cons (sub_clo rfl) (.cons (sub_clo rfl) (.cons (sub_clo rfl) (.cons (sub_clo rfl) (.cons (sub_clo rfl) .nil))))))) (all_cons (o := .arr [inlL kcells 2 ar, inlL scells 3 az, inlL kcells 2 aw, inlL kcells 2 br, inlL scells 3 bz, inlL kcells 2 bw] 0 false) (by kernel_rfl) (OSub.arr (.cons (sub_clo rfl) (.cons (sub_clo rfl) (.cons (sub_clo rfl) (.cons (sub_clo rfl) (.cons (sub_clo rfl) (.cons (sub_clo rfl) .nil))))))) (all_cons (o := .cells [inlL kcells 2 (kj (flatR ([(ar, az, aw), (br, bz, bw)]))), inlL scells 3 (sj (flatS ([(ar, az, aw), (br, bz, bw)]))), inlL kcells 2 (kj (flatW ([(ar, az, aw), (br, bz, bw)])))]) (by kernel_rfl) (OSub.cells (.cons (sub_clo rfl) (.cons (sub_clo rfl) (.cons (sub_clo rfl) .nil)))) (all_cons (o := rowL kcells ((([] : List Key) ++ (kj (flatR ([(ar, az, aw), (br, bz, bw)])))) ++ (kj (flatW ([(ar, az, aw), (br, bz, bw)]))))) (by kernel_rfl) (OSub.arr (subs_clo (flatL_clo kcells_clo))) (all_none))))))))⟩, mem_all (by kernel_rfl)⟩⟩
              · (try dsimp only); omega
              · (try dsimp only); first | exact seen_t i1 (by assumption) ⟨by omega, by omega⟩ | exact seen_f i1 | exact seen_n (by assumption) (fun q => by have := q.1; have := q.2; omega) | (subst_vars; exact seen_f (by assumption)) | (subst_vars; exact seen_t (by assumption) (by assumption) ⟨by omega, by omega⟩)
              · dsimp only; omega
          · have c22e : (decide ((x20.1 : Int) ≥ 0)) = false := Eq.trans (by kernel_rfl) h21
            clear h21
            have c22 : ¬ (x20.1 : Int) ≥ 0 := of_decide_eq_false c22e
            clear c22e
            refine aN ?_
            refine sk_regionL Try.cfgOk hS ?_
            refine aE (v := .int .i64 (IntKind.wrap .i64 (((i : Nat) : Int) + 1))) (.int .i64 ((i + 1 : Nat) : Int)) (congrArg (Value.int .i64) (wrap_to (by omega) (by omega))) ?_
            refine aN ?_
            refine .inl ⟨(i + 1, false), rfl, ⟨?_, ?_⟩, ?_, ⟨by kernel_rfl, ⟨by kernel_rfl, by kernel_rfl, by kernel_rfl, by kernel_rfl, by kernel_rfl, by kernel_rfl, by kernel_rfl, trivial⟩, ⟨.ptr ⟨by decide, rfl⟩, .ptr ⟨by decide, rfl⟩, .ptr ⟨by decide, rfl⟩, sub_clo rfl, sub_clo rfl, sub_clo rfl, sub_clo rfl, trivial⟩, Nat.le_of_ble_eq_true (by kernel_rfl), ⟨by kernel_rfl, (((((((wf_empty 0).new _).new _).new _).new _).new _).new _), (selfs (all_cons (o := .cells [inlL kcells 2 ar, inlL scells 3 az, inlL kcells 2 aw]) (by kernel_rfl) (OSub.cells (.cons (sub_clo rfl) (.cons (sub_clo rfl) (.cons (sub_clo rfl) .nil)))) (all_cons (o := .cells [inlL kcells 2 br, inlL scells 3 bz, inlL kcells 2 bw]) (by kernel_rfl) (OSub.cells (.cons (sub_clo rfl) (.cons (sub_clo rfl) (.cons (sub_clo rfl) .nil)))) (all_cons (o := .arr [inlL kcells 2 ar, inlL scells 3 az, inlL kcells 2 aw, inlL kcells 2 br, inlL scells 3 bz, inlL kcells 2 bw] 0 false) (by kernel_rfl) (OSub.arr (.cons (sub_clo rfl) (.cons (sub_clo rfl) (.cons (sub_clo rfl) (.cons (sub_clo rfl) (.cons (sub_clo rfl) (.cons (sub_clo rfl) .nil))))))) (all_cons (o := .arr [inlL kcells 2 ar, inlL scells 3 az, inlL kcells 2 aw, inlL kcells 2 br, inlL scells 3 bz, inlL kcells 2 bw] 0 false) (by kernel_rfl) (OSub.arr (.cons (sub_clo rfl) (.cons (sub_clo rfl) (.cons (sub_clo rfl) (.cons (sub_clo rfl) (.cons (sub_clo rfl) (.cons (sub_clo rfl) .nil))))))) (all_cons (o := .cells [inlL kcells 2 (kj (flatR ([(ar, az, aw), (br, bz, bw)]))), inlL scells 3 (sj (flatS ([(ar, az, aw), (br, bz, bw)]))), inlL kcells 2 (kj (flatW ([(ar, az, aw), (br, bz, bw)])))]) (by kernel_rfl) (OSub.cells (.cons (sub_clo rfl) (.cons (sub_clo rfl) (.cons (sub_clo rfl) .nil)))) (all_cons (o := rowL kcells ((([] : List Key) ++ (kj (flatR ([(ar, az, aw), (br, bz, bw)])))) ++ (kj (flatW ([(ar, az, aw), (br, bz, bw)]))))) (by kernel_rfl) (OSub.arr (subs_clo (flatL_clo kcells_clo))) (all_none))))))))⟩, mem_all (by kernel_rfl)⟩⟩
            · (try dsimp only); omega
            · (try dsimp only); first | exact seen_t i1 (by assumption) ⟨by omega, by omega⟩ | exact seen_f i1 | exact seen_n (by assumption) (fun q => by have := q.1; have := q.2; omega) | (subst_vars; exact seen_f (by assumption)) | (subst_vars; exact seen_t (by assumption) (by assumption) ⟨by omega, by omega⟩)
            · dsimp only; omega
        · have c19e : (decide ((((i : Nat) : Int) : Int) < (((sj (flatS ([(ar, az, aw), (br, bz, bw)]))).length : Nat) : Int))) = false := Eq.trans (by kernel_rfl) h18
          clear h18
          have c19 : ¬ (((i : Nat) : Int) : Int) < (((sj (flatS ([(ar, az, aw), (br, bz, bw)]))).length : Nat) : Int) := of_decide_eq_false c19e
          clear c19e
          refine al_nil ?_
          refine sk_seq ?_
          refine kF ?_
          refine sk_exit ?_
          dsimp only
          refine .inr ⟨_, _, (fun h => by cases h), ⟨rfl, ?_, rfl, rfl⟩, ⟨by kernel_rfl, ⟨by kernel_rfl, by kernel_rfl, by kernel_rfl, by kernel_rfl, by kernel_rfl, by kernel_rfl, by kernel_rfl, trivial⟩, ⟨.ptr ⟨by decide, rfl⟩, .ptr ⟨by decide, rfl⟩, .ptr ⟨by decide, rfl⟩, sub_clo rfl, sub_clo rfl, sub_clo rfl, sub_clo rfl, trivial⟩, Nat.le_of_ble_eq_true (by kernel_rfl), ⟨by kernel_rfl, (((((((wf_empty 0).new _).new _).new _).new _).new _).new _), (selfs (all_cons (o := .cells [inlL kcells 2 ar, inlL scells 3 az, inlL kcells 2 aw]) (by kernel_rfl) (OSub.cells (.cons (sub_clo rfl) (.cons (sub_clo rfl) (.cons (sub_clo rfl) .nil)))) (all_cons (o := .cells [inlL kcells 2 br, inlL scells 3 bz, inlL kcells 2 bw]) (by kernel_rfl) (OSub.cells (.cons (sub_clo rfl) (.cons (sub_clo rfl) (.cons (sub_clo rfl) .nil)))) (all_cons (o := .arr [inlL kcells 2 ar, inlL scells 3 az, inlL kcells 2 aw, inlL kcells 2 br, inlL scells 3 bz, inlL kcells 2 bw] 0 false) (by kernel_rfl) (OSub.arr (.cons (sub_clo rfl) (.cons (sub_clo rfl) (.cons (sub_clo rfl) (.cons (sub_clo rfl) (.cons (sub_clo rfl) (.cons (sub_clo rfl) .nil))))))) (all_cons (o := .arr [inlL kcells 2 ar, inlL scells 3 az, inlL kcells 2 aw, inlL kcells 2 br, inlL scells 3 bz, inlL kcells 2 bw] 0 false) (by kernel_rfl) (OSub.arr (.cons (sub_clo rfl) (.cons (sub_clo rfl) (.cons (sub_clo rfl) (.cons (sub_clo rfl) (.cons (sub_clo rfl) (.cons (sub_clo rfl) .nil))))))) (all_cons (o := .cells [inlL kcells 2 (kj (flatR ([(ar, az, aw), (br, bz, bw)]))), inlL scells 3 (sj (flatS ([(ar, az, aw), (br, bz, bw)]))), inlL kcells 2 (kj (flatW ([(ar, az, aw), (br, bz, bw)])))]) (by kernel_rfl) (OSub.cells (.cons (sub_clo rfl) (.cons (sub_clo rfl) (.cons (sub_clo rfl) .nil)))) (all_cons (o := rowL kcells ((([] : List Key) ++ (kj (flatR ([(ar, az, aw), (br, bz, bw)])))) ++ (kj (flatW ([(ar, az, aw), (br, bz, bw)]))))) (by kernel_rfl) (OSub.arr (subs_clo (flatL_clo kcells_clo))) (all_none))))))))⟩, mem_all (by kernel_rfl)⟩⟩
          · exact seen_all i1 (by omega)
    · exact ⟨by ((try dsimp only); first | done | (omega)), by ((try dsimp only); first | done | (exact seen_0 hx))⟩
    rintro o e1 s1 ⟨a, lv1, M1, m14, ha, ⟨rfl, hx, rfl, rfl⟩, rfl, rfl⟩
    obtain ⟨i, ok⟩ := a
    obtain ⟨i0, i1⟩ := ha
    dsimp only at hx i0 i1
    dsimp only
    try rw [if_pos rfl]
    refine sk_seq ?_
    refine sk_drawL Try.cfgOk hS ?_
    refine dK 1 ?_
    refine dC 11 [.agg #[inlL kcells 2 (kj (flatR ([(ar, az, aw), (br, bz, bw)]))), inlL scells 3 (sj (flatS ([(ar, az, aw), (br, bz, bw)]))), inlL kcells 2 (kj (flatW ([(ar, az, aw), (br, bz, bw)])))]] (.bool (tf (goodP (kj (flatR ([(ar, az, aw), (br, bz, bw)]))) (sj (flatS ([(ar, az, aw), (br, bz, bw)]))) (kj (flatW ([(ar, az, aw), (br, bz, bw)])))))) _ rfl (hC11 _ _ _ _ (con_goodP__at (kj (flatR ([(ar, az, aw), (br, bz, bw)]))) (sj (flatS ([(ar, az, aw), (br, bz, bw)]))) (kj (flatW ([(ar, az, aw), (br, bz, bw)]))) (by first | omega | (simp; done) | (simp only [lenR2, lenS2, lenW2, lenR1, lenS1, lenW1]; omega) | (refine Nat.le_trans (kj_len _) ?_; simp only [lenR2, lenS2, lenW2, lenR1, lenS1, lenW1]; omega) | (refine Nat.le_trans (sj_len _) ?_; simp only [lenR2, lenS2, lenW2, lenR1, lenS1, lenW1]; omega)) (by first | omega | (simp; done) | (simp only [lenR2, lenS2, lenW2, lenR1, lenS1, lenW1]; omega) | (refine Nat.le_trans (kj_len _) ?_; simp only [lenR2, lenS2, lenW2, lenR1, lenS1, lenW1]; omega) | (refine Nat.le_trans (sj_len _) ?_; simp only [lenR2, lenS2, lenW2, lenR1, lenS1, lenW1]; omega)) (by first | omega | (simp; done) | (simp only [lenR2, lenS2, lenW2, lenR1, lenS1, lenW1]; omega) | (refine Nat.le_trans (kj_len _) ?_; simp only [lenR2, lenS2, lenW2, lenR1, lenS1, lenW1]; omega) | (refine Nat.le_trans (sj_len _) ?_; simp only [lenR2, lenS2, lenW2, lenR1, lenS1, lenW1]; omega)) _)) ?_
    refine dK 1 ?_
    refine dE (v := .bool (((tf (goodP (kj (flatR ([(ar, az, aw), (br, bz, bw)]))) (sj (flatS ([(ar, az, aw), (br, bz, bw)]))) (kj (flatW ([(ar, az, aw), (br, bz, bw)]))))) == ok))) (.bool true) (congrArg Value.bool (eql_of (good_bits (a := (ar, az, aw)) (b := (br, bz, bw)) h0 h1 hx))) ?_
    refine dK 3 ?_
    refine dC 10 [.slice (some ⟨6, 0, some 3⟩) 1 3] (.agg #[inlL kcells 2 (kj (flatR ([((kj (flatR ([(ar, az, aw), (br, bz, bw)]))), (sj (flatS ([(ar, az, aw), (br, bz, bw)]))), (kj (flatW ([(ar, az, aw), (br, bz, bw)]))))]))), inlL scells 3 (sj (flatS ([((kj (flatR ([(ar, az, aw), (br, bz, bw)]))), (sj (flatS ([(ar, az, aw), (br, bz, bw)]))), (kj (flatW ([(ar, az, aw), (br, bz, bw)]))))]))), inlL kcells 2 (kj (flatW ([((kj (flatR ([(ar, az, aw), (br, bz, bw)]))), (sj (flatS ([(ar, az, aw), (br, bz, bw)]))), (kj (flatW ([(ar, az, aw), (br, bz, bw)]))))])))]) _ rfl (hC10 _ _ _ _ (con_joinF_at ([((kj (flatR ([(ar, az, aw), (br, bz, bw)]))), (sj (flatS ([(ar, az, aw), (br, bz, bw)]))), (kj (flatW ([(ar, az, aw), (br, bz, bw)]))))]) 6 (by first | omega | (simp; done) | (simp only [lenR2, lenS2, lenW2, lenR1, lenS1, lenW1]; omega) | (refine Nat.le_trans (kj_len _) ?_; simp only [lenR2, lenS2, lenW2, lenR1, lenS1, lenW1]; omega) | (refine Nat.le_trans (sj_len _) ?_; simp only [lenR2, lenS2, lenW2, lenR1, lenS1, lenW1]; omega)) (by first | omega | (simp; done) | (simp only [lenR2, lenS2, lenW2, lenR1, lenS1, lenW1]; omega) | (refine Nat.le_trans (kj_len _) ?_; simp only [lenR2, lenS2, lenW2, lenR1, lenS1, lenW1]; omega) | (refine Nat.le_trans (sj_len _) ?_; simp only [lenR2, lenS2, lenW2, lenR1, lenS1, lenW1]; omega)) (by first | omega | (simp; done) | (simp only [lenR2, lenS2, lenW2, lenR1, lenS1, lenW1]; omega) | (refine Nat.le_trans (kj_len _) ?_; simp only [lenR2, lenS2, lenW2, lenR1, lenS1, lenW1]; omega) | (refine Nat.le_trans (sj_len _) ?_; simp only [lenR2, lenS2, lenW2, lenR1, lenS1, lenW1]; omega)) (by first | omega | (simp; done) | (simp only [lenR2, lenS2, lenW2, lenR1, lenS1, lenW1]; omega) | (refine Nat.le_trans (kj_len _) ?_; simp only [lenR2, lenS2, lenW2, lenR1, lenS1, lenW1]; omega) | (refine Nat.le_trans (sj_len _) ?_; simp only [lenR2, lenS2, lenW2, lenR1, lenS1, lenW1]; omega)) _ (by kernel_rfl) (by kernel_rfl) )) ?_
    refine ald_readK (d := (0, St.empty 0, St.empty 0)) (by kernel_rfl) (by kernel_rfl) (by kernel_rfl) (by kernel_rfl) (below_len (k := 2) (by kernel_rfl) (all2 (.inr (read_again (by kernel_rfl) (Eq.trans (b := .agg #[inlL kcells 2 (kj (flatR ([(ar, az, aw), (br, bz, bw)]))), inlL scells 3 (sj (flatS ([(ar, az, aw), (br, bz, bw)]))), inlL kcells 2 (kj (flatW ([(ar, az, aw), (br, bz, bw)])))]) (by kernel_rfl) (by kernel_rfl)))) (.inl (by kernel_rfl)))) ?_
    refine dB 12 [.agg #[inlL kcells 2 (kj (flatR ([((kj (flatR ([(ar, az, aw), (br, bz, bw)]))), (sj (flatS ([(ar, az, aw), (br, bz, bw)]))), (kj (flatW ([(ar, az, aw), (br, bz, bw)]))))]))), inlL scells 3 (sj (flatS ([((kj (flatR ([(ar, az, aw), (br, bz, bw)]))), (sj (flatS ([(ar, az, aw), (br, bz, bw)]))), (kj (flatW ([(ar, az, aw), (br, bz, bw)]))))]))), inlL kcells 2 (kj (flatW ([((kj (flatR ([(ar, az, aw), (br, bz, bw)]))), (sj (flatS ([(ar, az, aw), (br, bz, bw)]))), (kj (flatW ([(ar, az, aw), (br, bz, bw)]))))])))], .agg #[inlL kcells 2 (kj (flatR ([(ar, az, aw), (br, bz, bw)]))), inlL scells 3 (sj (flatS ([(ar, az, aw), (br, bz, bw)]))), inlL kcells 2 (kj (flatW ([(ar, az, aw), (br, bz, bw)])))]] (decide ((kj (flatR ([((kj (flatR ([(ar, az, aw), (br, bz, bw)]))), (sj (flatS ([(ar, az, aw), (br, bz, bw)]))), (kj (flatW ([(ar, az, aw), (br, bz, bw)]))))]))) = (kj (flatR ([(ar, az, aw), (br, bz, bw)]))) ∧ (sj (flatS ([((kj (flatR ([(ar, az, aw), (br, bz, bw)]))), (sj (flatS ([(ar, az, aw), (br, bz, bw)]))), (kj (flatW ([(ar, az, aw), (br, bz, bw)]))))]))) = (sj (flatS ([(ar, az, aw), (br, bz, bw)]))) ∧ (kj (flatW ([((kj (flatR ([(ar, az, aw), (br, bz, bw)]))), (sj (flatS ([(ar, az, aw), (br, bz, bw)]))), (kj (flatW ([(ar, az, aw), (br, bz, bw)]))))]))) = (kj (flatW ([(ar, az, aw), (br, bz, bw)]))))) _ rfl (hC12 _ _ _ _ (con_nfeet_at (kj (flatR ([((kj (flatR ([(ar, az, aw), (br, bz, bw)]))), (sj (flatS ([(ar, az, aw), (br, bz, bw)]))), (kj (flatW ([(ar, az, aw), (br, bz, bw)]))))]))) (sj (flatS ([((kj (flatR ([(ar, az, aw), (br, bz, bw)]))), (sj (flatS ([(ar, az, aw), (br, bz, bw)]))), (kj (flatW ([(ar, az, aw), (br, bz, bw)]))))]))) (kj (flatW ([((kj (flatR ([(ar, az, aw), (br, bz, bw)]))), (sj (flatS ([(ar, az, aw), (br, bz, bw)]))), (kj (flatW ([(ar, az, aw), (br, bz, bw)]))))]))) (kj (flatR ([(ar, az, aw), (br, bz, bw)]))) (sj (flatS ([(ar, az, aw), (br, bz, bw)]))) (kj (flatW ([(ar, az, aw), (br, bz, bw)]))) (by first | omega | (simp; done) | (simp only [lenR2, lenS2, lenW2, lenR1, lenS1, lenW1]; omega) | (refine Nat.le_trans (kj_len _) ?_; simp only [lenR2, lenS2, lenW2, lenR1, lenS1, lenW1]; omega) | (refine Nat.le_trans (sj_len _) ?_; simp only [lenR2, lenS2, lenW2, lenR1, lenS1, lenW1]; omega)) (by first | omega | (simp; done) | (simp only [lenR2, lenS2, lenW2, lenR1, lenS1, lenW1]; omega) | (refine Nat.le_trans (kj_len _) ?_; simp only [lenR2, lenS2, lenW2, lenR1, lenS1, lenW1]; omega) | (refine Nat.le_trans (sj_len _) ?_; simp only [lenR2, lenS2, lenW2, lenR1, lenS1, lenW1]; omega)) (by first | omega | (simp; done) | (simp only [lenR2, lenS2, lenW2, lenR1, lenS1, lenW1]; omega) | (refine Nat.le_trans (kj_len _) ?_; simp only [lenR2, lenS2, lenW2, lenR1, lenS1, lenW1]; omega) | (refine Nat.le_trans (sj_len _) ?_; simp only [lenR2, lenS2, lenW2, lenR1, lenS1, lenW1]; omega)) (by first | omega | (simp; done) | (simp only [lenR2, lenS2, lenW2, lenR1, lenS1, lenW1]; omega) | (refine Nat.le_trans (kj_len _) ?_; simp only [lenR2, lenS2, lenW2, lenR1, lenS1, lenW1]; omega) | (refine Nat.le_trans (sj_len _) ?_; simp only [lenR2, lenS2, lenW2, lenR1, lenS1, lenW1]; omega)) (by first | omega | (simp; done) | (simp only [lenR2, lenS2, lenW2, lenR1, lenS1, lenW1]; omega) | (refine Nat.le_trans (kj_len _) ?_; simp only [lenR2, lenS2, lenW2, lenR1, lenS1, lenW1]; omega) | (refine Nat.le_trans (sj_len _) ?_; simp only [lenR2, lenS2, lenW2, lenR1, lenS1, lenW1]; omega)) (by first | omega | (simp; done) | (simp only [lenR2, lenS2, lenW2, lenR1, lenS1, lenW1]; omega) | (refine Nat.le_trans (kj_len _) ?_; simp only [lenR2, lenS2, lenW2, lenR1, lenS1, lenW1]; omega) | (refine Nat.le_trans (sj_len _) ?_; simp only [lenR2, lenS2, lenW2, lenR1, lenS1, lenW1]; omega)) _)) (fun h25 => ?_) (fun h25 => ?_)
    · have c26 : (kj (flatR ([((kj (flatR ([(ar, az, aw), (br, bz, bw)]))), (sj (flatS ([(ar, az, aw), (br, bz, bw)]))), (kj (flatW ([(ar, az, aw), (br, bz, bw)]))))]))) = (kj (flatR ([(ar, az, aw), (br, bz, bw)]))) ∧ (sj (flatS ([((kj (flatR ([(ar, az, aw), (br, bz, bw)]))), (sj (flatS ([(ar, az, aw), (br, bz, bw)]))), (kj (flatW ([(ar, az, aw), (br, bz, bw)]))))]))) = (sj (flatS ([(ar, az, aw), (br, bz, bw)]))) ∧ (kj (flatW ([((kj (flatR ([(ar, az, aw), (br, bz, bw)]))), (sj (flatS ([(ar, az, aw), (br, bz, bw)]))), (kj (flatW ([(ar, az, aw), (br, bz, bw)]))))]))) = (kj (flatW ([(ar, az, aw), (br, bz, bw)]))) := of_decide_eq_true h25
      clear h25
      refine dK 5 ?_
      refine dC 10 [.slice (some ⟨7, 0, some 6⟩) 2 3] (.agg #[inlL kcells 2 (kj (flatR ([(br, bz, bw), (ar, az, aw)]))), inlL scells 3 (sj (flatS ([(br, bz, bw), (ar, az, aw)]))), inlL kcells 2 (kj (flatW ([(br, bz, bw), (ar, az, aw)])))]) _ rfl (hC10 _ _ _ _ (con_joinF_at ([(br, bz, bw), (ar, az, aw)]) 7 (by first | omega | (simp; done) | (simp only [lenR2, lenS2, lenW2, lenR1, lenS1, lenW1]; omega) | (refine Nat.le_trans (kj_len _) ?_; simp only [lenR2, lenS2, lenW2, lenR1, lenS1, lenW1]; omega) | (refine Nat.le_trans (sj_len _) ?_; simp only [lenR2, lenS2, lenW2, lenR1, lenS1, lenW1]; omega)) (by first | omega | (simp; done) | (simp only [lenR2, lenS2, lenW2, lenR1, lenS1, lenW1]; omega) | (refine Nat.le_trans (kj_len _) ?_; simp only [lenR2, lenS2, lenW2, lenR1, lenS1, lenW1]; omega) | (refine Nat.le_trans (sj_len _) ?_; simp only [lenR2, lenS2, lenW2, lenR1, lenS1, lenW1]; omega)) (by first | omega | (simp; done) | (simp only [lenR2, lenS2, lenW2, lenR1, lenS1, lenW1]; omega) | (refine Nat.le_trans (kj_len _) ?_; simp only [lenR2, lenS2, lenW2, lenR1, lenS1, lenW1]; omega) | (refine Nat.le_trans (sj_len _) ?_; simp only [lenR2, lenS2, lenW2, lenR1, lenS1, lenW1]; omega)) (by first | omega | (simp; done) | (simp only [lenR2, lenS2, lenW2, lenR1, lenS1, lenW1]; omega) | (refine Nat.le_trans (kj_len _) ?_; simp only [lenR2, lenS2, lenW2, lenR1, lenS1, lenW1]; omega) | (refine Nat.le_trans (sj_len _) ?_; simp only [lenR2, lenS2, lenW2, lenR1, lenS1, lenW1]; omega)) _ (by kernel_rfl) (by kernel_rfl) )) ?_
      refine ald_readK (d := (0, St.empty 0, St.empty 0)) (by kernel_rfl) (by kernel_rfl) (by kernel_rfl) (by kernel_rfl) (below_len (k := 4) (by kernel_rfl) (all4 (.inr (read_again (by kernel_rfl) (Eq.trans (b := .agg #[inlL kcells 2 (kj (flatR ([(ar, az, aw), (br, bz, bw)]))), inlL scells 3 (sj (flatS ([(ar, az, aw), (br, bz, bw)]))), inlL kcells 2 (kj (flatW ([(ar, az, aw), (br, bz, bw)])))]) (by kernel_rfl) (by kernel_rfl)))) (.inl (by kernel_rfl)) (.inl (by kernel_rfl)) (.inl (by kernel_rfl)))) ?_
      refine dB 12 [.agg #[inlL kcells 2 (kj (flatR ([(br, bz, bw), (ar, az, aw)]))), inlL scells 3 (sj (flatS ([(br, bz, bw), (ar, az, aw)]))), inlL kcells 2 (kj (flatW ([(br, bz, bw), (ar, az, aw)])))], .agg #[inlL kcells 2 (kj (flatR ([(ar, az, aw), (br, bz, bw)]))), inlL scells 3 (sj (flatS ([(ar, az, aw), (br, bz, bw)]))), inlL kcells 2 (kj (flatW ([(ar, az, aw), (br, bz, bw)])))]] (decide ((kj (flatR ([(br, bz, bw), (ar, az, aw)]))) = (kj (flatR ([(ar, az, aw), (br, bz, bw)]))) ∧ (sj (flatS ([(br, bz, bw), (ar, az, aw)]))) = (sj (flatS ([(ar, az, aw), (br, bz, bw)]))) ∧ (kj (flatW ([(br, bz, bw), (ar, az, aw)]))) = (kj (flatW ([(ar, az, aw), (br, bz, bw)]))))) _ rfl (hC12 _ _ _ _ (con_nfeet_at (kj (flatR ([(br, bz, bw), (ar, az, aw)]))) (sj (flatS ([(br, bz, bw), (ar, az, aw)]))) (kj (flatW ([(br, bz, bw), (ar, az, aw)]))) (kj (flatR ([(ar, az, aw), (br, bz, bw)]))) (sj (flatS ([(ar, az, aw), (br, bz, bw)]))) (kj (flatW ([(ar, az, aw), (br, bz, bw)]))) (by first | omega | (simp; done) | (simp only [lenR2, lenS2, lenW2, lenR1, lenS1, lenW1]; omega) | (refine Nat.le_trans (kj_len _) ?_; simp only [lenR2, lenS2, lenW2, lenR1, lenS1, lenW1]; omega) | (refine Nat.le_trans (sj_len _) ?_; simp only [lenR2, lenS2, lenW2, lenR1, lenS1, lenW1]; omega)) (by first | omega | (simp; done) | (simp only [lenR2, lenS2, lenW2, lenR1, lenS1, lenW1]; omega) | (refine Nat.le_trans (kj_len _) ?_; simp only [lenR2, lenS2, lenW2, lenR1, lenS1, lenW1]; omega) | (refine Nat.le_trans (sj_len _) ?_; simp only [lenR2, lenS2, lenW2, lenR1, lenS1, lenW1]; omega)) (by first | omega | (simp; done) | (simp only [lenR2, lenS2, lenW2, lenR1, lenS1, lenW1]; omega) | (refine Nat.le_trans (kj_len _) ?_; simp only [lenR2, lenS2, lenW2, lenR1, lenS1, lenW1]; omega) | (refine Nat.le_trans (sj_len _) ?_; simp only [lenR2, lenS2, lenW2, lenR1, lenS1, lenW1]; omega)) (by first | omega | (simp; done) | (simp only [lenR2, lenS2, lenW2, lenR1, lenS1, lenW1]; omega) | (refine Nat.le_trans (kj_len _) ?_; simp only [lenR2, lenS2, lenW2, lenR1, lenS1, lenW1]; omega) | (refine Nat.le_trans (sj_len _) ?_; simp only [lenR2, lenS2, lenW2, lenR1, lenS1, lenW1]; omega)) (by first | omega | (simp; done) | (simp only [lenR2, lenS2, lenW2, lenR1, lenS1, lenW1]; omega) | (refine Nat.le_trans (kj_len _) ?_; simp only [lenR2, lenS2, lenW2, lenR1, lenS1, lenW1]; omega) | (refine Nat.le_trans (sj_len _) ?_; simp only [lenR2, lenS2, lenW2, lenR1, lenS1, lenW1]; omega)) (by first | omega | (simp; done) | (simp only [lenR2, lenS2, lenW2, lenR1, lenS1, lenW1]; omega) | (refine Nat.le_trans (kj_len _) ?_; simp only [lenR2, lenS2, lenW2, lenR1, lenS1, lenW1]; omega) | (refine Nat.le_trans (sj_len _) ?_; simp only [lenR2, lenS2, lenW2, lenR1, lenS1, lenW1]; omega)) _)) (fun h27 => ?_) (fun h27 => ?_)
      · have c28 : (kj (flatR ([(br, bz, bw), (ar, az, aw)]))) = (kj (flatR ([(ar, az, aw), (br, bz, bw)]))) ∧ (sj (flatS ([(br, bz, bw), (ar, az, aw)]))) = (sj (flatS ([(ar, az, aw), (br, bz, bw)]))) ∧ (kj (flatW ([(br, bz, bw), (ar, az, aw)]))) = (kj (flatW ([(ar, az, aw), (br, bz, bw)]))) := of_decide_eq_true h27
        clear h27
        refine dK 5 ?_
        refine dC 10 [.slice (some ⟨8, 0, some 6⟩) 2 3] (.agg #[inlL kcells 2 (kj (flatR ([((kj (flatR ([(ar, az, aw), (br, bz, bw)]))), (sj (flatS ([(ar, az, aw), (br, bz, bw)]))), (kj (flatW ([(ar, az, aw), (br, bz, bw)])))), (ar, az, aw)]))), inlL scells 3 (sj (flatS ([((kj (flatR ([(ar, az, aw), (br, bz, bw)]))), (sj (flatS ([(ar, az, aw), (br, bz, bw)]))), (kj (flatW ([(ar, az, aw), (br, bz, bw)])))), (ar, az, aw)]))), inlL kcells 2 (kj (flatW ([((kj (flatR ([(ar, az, aw), (br, bz, bw)]))), (sj (flatS ([(ar, az, aw), (br, bz, bw)]))), (kj (flatW ([(ar, az, aw), (br, bz, bw)])))), (ar, az, aw)])))]) _ rfl (hC10 _ _ _ _ (con_joinF_at ([((kj (flatR ([(ar, az, aw), (br, bz, bw)]))), (sj (flatS ([(ar, az, aw), (br, bz, bw)]))), (kj (flatW ([(ar, az, aw), (br, bz, bw)])))), (ar, az, aw)]) 8 (by first | omega | (simp; done) | (simp only [lenR2, lenS2, lenW2, lenR1, lenS1, lenW1]; omega) | (refine Nat.le_trans (kj_len _) ?_; simp only [lenR2, lenS2, lenW2, lenR1, lenS1, lenW1]; omega) | (refine Nat.le_trans (sj_len _) ?_; simp only [lenR2, lenS2, lenW2, lenR1, lenS1, lenW1]; omega)) (by first | omega | (simp; done) | (simp only [lenR2, lenS2, lenW2, lenR1, lenS1, lenW1]; omega) | (refine Nat.le_trans (kj_len _) ?_; simp only [lenR2, lenS2, lenW2, lenR1, lenS1, lenW1]; omega) | (refine Nat.le_trans (sj_len _) ?_; simp only [lenR2, lenS2, lenW2, lenR1, lenS1, lenW1]; omega)) (by first | omega | (simp; done) | (simp only [lenR2, lenS2, lenW2, lenR1, lenS1, lenW1]; omega) | (refine Nat.le_trans (kj_len _) ?_; simp only [lenR2, lenS2, lenW2, lenR1, lenS1, lenW1]; omega) | (refine Nat.le_trans (sj_len _) ?_; simp only [lenR2, lenS2, lenW2, lenR1, lenS1, lenW1]; omega)) (by first | omega | (simp; done) | (simp only [lenR2, lenS2, lenW2, lenR1, lenS1, lenW1]; omega) | (refine Nat.le_trans (kj_len _) ?_; simp only [lenR2, lenS2, lenW2, lenR1, lenS1, lenW1]; omega) | (refine Nat.le_trans (sj_len _) ?_; simp only [lenR2, lenS2, lenW2, lenR1, lenS1, lenW1]; omega)) _ (by kernel_rfl) (by kernel_rfl) )) ?_
        refine ald_readK (d := (0, St.empty 0, St.empty 0)) (by kernel_rfl) (by kernel_rfl) (by kernel_rfl) (by kernel_rfl) (below_len (k := 6) (by kernel_rfl) (all6 (.inr (read_again (by kernel_rfl) (Eq.trans (b := .agg #[inlL kcells 2 (kj (flatR ([(ar, az, aw), (br, bz, bw)]))), inlL scells 3 (sj (flatS ([(ar, az, aw), (br, bz, bw)]))), inlL kcells 2 (kj (flatW ([(ar, az, aw), (br, bz, bw)])))]) (by kernel_rfl) (by kernel_rfl)))) (.inl (by kernel_rfl)) (.inl (by kernel_rfl)) (.inl (by kernel_rfl)) (.inl (by kernel_rfl)) (.inl (by kernel_rfl)))) ?_
        refine dB 12 [.agg #[inlL kcells 2 (kj (flatR ([((kj (flatR ([(ar, az, aw), (br, bz, bw)]))), (sj (flatS ([(ar, az, aw), (br, bz, bw)]))), (kj (flatW ([(ar, az, aw), (br, bz, bw)])))), (ar, az, aw)]))), inlL scells 3 (sj (flatS ([((kj (flatR ([(ar, az, aw), (br, bz, bw)]))), (sj (flatS ([(ar, az, aw), (br, bz, bw)]))), (kj (flatW ([(ar, az, aw), (br, bz, bw)])))), (ar, az, aw)]))), inlL kcells 2 (kj (flatW ([((kj (flatR ([(ar, az, aw), (br, bz, bw)]))), (sj (flatS ([(ar, az, aw), (br, bz, bw)]))), (kj (flatW ([(ar, az, aw), (br, bz, bw)])))), (ar, az, aw)])))], .agg #[inlL kcells 2 (kj (flatR ([(ar, az, aw), (br, bz, bw)]))), inlL scells 3 (sj (flatS ([(ar, az, aw), (br, bz, bw)]))), inlL kcells 2 (kj (flatW ([(ar, az, aw), (br, bz, bw)])))]] (decide ((kj (flatR ([((kj (flatR ([(ar, az, aw), (br, bz, bw)]))), (sj (flatS ([(ar, az, aw), (br, bz, bw)]))), (kj (flatW ([(ar, az, aw), (br, bz, bw)])))), (ar, az, aw)]))) = (kj (flatR ([(ar, az, aw), (br, bz, bw)]))) ∧ (sj (flatS ([((kj (flatR ([(ar, az, aw), (br, bz, bw)]))), (sj (flatS ([(ar, az, aw), (br, bz, bw)]))), (kj (flatW ([(ar, az, aw), (br, bz, bw)])))), (ar, az, aw)]))) = (sj (flatS ([(ar, az, aw), (br, bz, bw)]))) ∧ (kj (flatW ([((kj (flatR ([(ar, az, aw), (br, bz, bw)]))), (sj (flatS ([(ar, az, aw), (br, bz, bw)]))), (kj (flatW ([(ar, az, aw), (br, bz, bw)])))), (ar, az, aw)]))) = (kj (flatW ([(ar, az, aw), (br, bz, bw)]))))) _ rfl (hC12 _ _ _ _ (con_nfeet_at (kj (flatR ([((kj (flatR ([(ar, az, aw), (br, bz, bw)]))), (sj (flatS ([(ar, az, aw), (br, bz, bw)]))), (kj (flatW ([(ar, az, aw), (br, bz, bw)])))), (ar, az, aw)]))) (sj (flatS ([((kj (flatR ([(ar, az, aw), (br, bz, bw)]))), (sj (flatS ([(ar, az, aw), (br, bz, bw)]))), (kj (flatW ([(ar, az, aw), (br, bz, bw)])))), (ar, az, aw)]))) (kj (flatW ([((kj (flatR ([(ar, az, aw), (br, bz, bw)]))), (sj (flatS ([(ar, az, aw), (br, bz, bw)]))), (kj (flatW ([(ar, az, aw), (br, bz, bw)])))), (ar, az, aw)]))) (kj (flatR ([(ar, az, aw), (br, bz, bw)]))) (sj (flatS ([(ar, az, aw), (br, bz, bw)]))) (kj (flatW ([(ar, az, aw), (br, bz, bw)]))) (by first | omega | (simp; done) | (simp only [lenR2, lenS2, lenW2, lenR1, lenS1, lenW1]; omega) | (refine Nat.le_trans (kj_len _) ?_; simp only [lenR2, lenS2, lenW2, lenR1, lenS1, lenW1]; omega) | (refine Nat.le_trans (sj_len _) ?_; simp only [lenR2, lenS2, lenW2, lenR1, lenS1, lenW1]; omega)) (by first | omega | (simp; done) | (simp only [lenR2, lenS2, lenW2, lenR1, lenS1, lenW1]; omega) | (refine Nat.le_trans (kj_len _) ?_; simp only [lenR2, lenS2, lenW2, lenR1, lenS1, lenW1]; omega) | (refine Nat.le_trans (sj_len _) ?_; simp only [lenR2, lenS2, lenW2, lenR1, lenS1, lenW1]; omega)) (by first | omega | (simp; done) | (simp only [lenR2, lenS2, lenW2, lenR1, lenS1, lenW1]; omega) | (refine Nat.le_trans (kj_len _) ?_; simp only [lenR2, lenS2, lenW2, lenR1, lenS1, lenW1]; omega) | (refine Nat.le_trans (sj_len _) ?_; simp only [lenR2, lenS2, lenW2, lenR1, lenS1, lenW1]; omega)) (by first | omega | (simp; done) | (simp only [lenR2, lenS2, lenW2, lenR1, lenS1, lenW1]; omega) | (refine Nat.le_trans (kj_len _) ?_; simp only [lenR2, lenS2, lenW2, lenR1, lenS1, lenW1]; omega) | (refine Nat.le_trans (sj_len _) ?_; simp only [lenR2, lenS2, lenW2, lenR1, lenS1, lenW1]; omega)) (by first | omega | (simp; done) | (simp only [lenR2, lenS2, lenW2, lenR1, lenS1, lenW1]; omega) | (refine Nat.le_trans (kj_len _) ?_; simp only [lenR2, lenS2, lenW2, lenR1, lenS1, lenW1]; omega) | (refine Nat.le_trans (sj_len _) ?_; simp only [lenR2, lenS2, lenW2, lenR1, lenS1, lenW1]; omega)) (by first | omega | (simp; done) | (simp only [lenR2, lenS2, lenW2, lenR1, lenS1, lenW1]; omega) | (refine Nat.le_trans (kj_len _) ?_; simp only [lenR2, lenS2, lenW2, lenR1, lenS1, lenW1]; omega) | (refine Nat.le_trans (sj_len _) ?_; simp only [lenR2, lenS2, lenW2, lenR1, lenS1, lenW1]; omega)) _)) (fun h29 => ?_) (fun h29 => ?_)
        · have c30 : (kj (flatR ([((kj (flatR ([(ar, az, aw), (br, bz, bw)]))), (sj (flatS ([(ar, az, aw), (br, bz, bw)]))), (kj (flatW ([(ar, az, aw), (br, bz, bw)])))), (ar, az, aw)]))) = (kj (flatR ([(ar, az, aw), (br, bz, bw)]))) ∧ (sj (flatS ([((kj (flatR ([(ar, az, aw), (br, bz, bw)]))), (sj (flatS ([(ar, az, aw), (br, bz, bw)]))), (kj (flatW ([(ar, az, aw), (br, bz, bw)])))), (ar, az, aw)]))) = (sj (flatS ([(ar, az, aw), (br, bz, bw)]))) ∧ (kj (flatW ([((kj (flatR ([(ar, az, aw), (br, bz, bw)]))), (sj (flatS ([(ar, az, aw), (br, bz, bw)]))), (kj (flatW ([(ar, az, aw), (br, bz, bw)])))), (ar, az, aw)]))) = (kj (flatW ([(ar, az, aw), (br, bz, bw)]))) := of_decide_eq_true h29
          clear h29
          refine dK 2 ?_
          refine ald_nil ?_
          refine sk_ret ?_
          exact ⟨[.bool true], by kernel_rfl, .same (sub_clo rfl), Nat.le_of_ble_eq_true (by kernel_rfl)⟩
        · have c30 : ¬ ((kj (flatR ([((kj (flatR ([(ar, az, aw), (br, bz, bw)]))), (sj (flatS ([(ar, az, aw), (br, bz, bw)]))), (kj (flatW ([(ar, az, aw), (br, bz, bw)])))), (ar, az, aw)]))) = (kj (flatR ([(ar, az, aw), (br, bz, bw)]))) ∧ (sj (flatS ([((kj (flatR ([(ar, az, aw), (br, bz, bw)]))), (sj (flatS ([(ar, az, aw), (br, bz, bw)]))), (kj (flatW ([(ar, az, aw), (br, bz, bw)])))), (ar, az, aw)]))) = (sj (flatS ([(ar, az, aw), (br, bz, bw)]))) ∧ (kj (flatW ([((kj (flatR ([(ar, az, aw), (br, bz, bw)]))), (sj (flatS ([(ar, az, aw), (br, bz, bw)]))), (kj (flatW ([(ar, az, aw), (br, bz, bw)])))), (ar, az, aw)]))) = (kj (flatW ([(ar, az, aw), (br, bz, bw)])))) := of_decide_eq_false h29
          clear h29
          refine dK 2 ?_
          refine ald_nil ?_
          refine sk_ret ?_
          exact ⟨[.bool false], by kernel_rfl, fs_to (fs_clo rfl) (congrArg Value.bool (by first | rfl | exact absurd (parts3 (jn_once (a := (ar, az, aw)) (b := (br, bz, bw)) h0 h1)) (by assumption) | exact absurd (parts3 (jn_swap (a := (ar, az, aw)) (b := (br, bz, bw)) h0 h1)) (by assumption) | exact absurd (parts3 (jn_again (a := (ar, az, aw)) (b := (br, bz, bw)) h0 h1)) (by assumption))), Nat.le_of_ble_eq_true (by kernel_rfl)⟩
      · have c28 : ¬ ((kj (flatR ([(br, bz, bw), (ar, az, aw)]))) = (kj (flatR ([(ar, az, aw), (br, bz, bw)]))) ∧ (sj (flatS ([(br, bz, bw), (ar, az, aw)]))) = (sj (flatS ([(ar, az, aw), (br, bz, bw)]))) ∧ (kj (flatW ([(br, bz, bw), (ar, az, aw)]))) = (kj (flatW ([(ar, az, aw), (br, bz, bw)])))) := of_decide_eq_false h27
        clear h27
        refine dK 10 ?_
        refine ald_nil ?_
        refine sk_ret ?_
        exact ⟨[.bool false], by kernel_rfl, fs_to (fs_clo rfl) (congrArg Value.bool (by first | rfl | exact absurd (parts3 (jn_once (a := (ar, az, aw)) (b := (br, bz, bw)) h0 h1)) (by assumption) | exact absurd (parts3 (jn_swap (a := (ar, az, aw)) (b := (br, bz, bw)) h0 h1)) (by assumption) | exact absurd (parts3 (jn_again (a := (ar, az, aw)) (b := (br, bz, bw)) h0 h1)) (by assumption))), Nat.le_of_ble_eq_true (by kernel_rfl)⟩
    · have c26 : ¬ ((kj (flatR ([((kj (flatR ([(ar, az, aw), (br, bz, bw)]))), (sj (flatS ([(ar, az, aw), (br, bz, bw)]))), (kj (flatW ([(ar, az, aw), (br, bz, bw)]))))]))) = (kj (flatR ([(ar, az, aw), (br, bz, bw)]))) ∧ (sj (flatS ([((kj (flatR ([(ar, az, aw), (br, bz, bw)]))), (sj (flatS ([(ar, az, aw), (br, bz, bw)]))), (kj (flatW ([(ar, az, aw), (br, bz, bw)]))))]))) = (sj (flatS ([(ar, az, aw), (br, bz, bw)]))) ∧ (kj (flatW ([((kj (flatR ([(ar, az, aw), (br, bz, bw)]))), (sj (flatS ([(ar, az, aw), (br, bz, bw)]))), (kj (flatW ([(ar, az, aw), (br, bz, bw)]))))]))) = (kj (flatW ([(ar, az, aw), (br, bz, bw)])))) := of_decide_eq_false h25
      clear h25
      refine dK 18 ?_
      refine ald_nil ?_
      refine sk_ret ?_
      exact ⟨[.bool false], by kernel_rfl, fs_to (fs_clo rfl) (congrArg Value.bool (by first | rfl | exact absurd (parts3 (jn_once (a := (ar, az, aw)) (b := (br, bz, bw)) h0 h1)) (by assumption) | exact absurd (parts3 (jn_swap (a := (ar, az, aw)) (b := (br, bz, bw)) h0 h1)) (by assumption) | exact absurd (parts3 (jn_again (a := (ar, az, aw)) (b := (br, bz, bw)) h0 h1)) (by assumption))), Nat.le_of_ble_eq_true (by kernel_rfl)⟩
end Go.Proofs.Ytekeepgjegkedaa