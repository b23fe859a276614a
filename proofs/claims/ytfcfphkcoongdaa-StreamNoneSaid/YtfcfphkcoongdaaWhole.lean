/- What 'Parts' comes to, whole. -/
import Derived.Test.YtfcfphkcoongdaaLoop
namespace Go.Proofs.Ytfcfphkcoongdaa
open Go.Ai
/-- the parts of so many bytes: a slice of so many slices -/
def PartsQ (cs : List Value) (N : Nat) (v : Value) (s' : St) : Prop := ∃ id K row, v = oSl id K ∧ K = (N - 1) / 50 + 1 ∧ 0 < id ∧ s'.n ≤ 6 ∧ s'.get 0 = some (.arr cs 0 false) ∧ s'.get id = some (.arr row 0 false) ∧ row.length = K ∧ row.all refy = true
set_option maxHeartbeats 4000000 in
set_option maxRecDepth 100000 in
theorem parts_small (cs : List Value) (N : Nat) (h1 : 1 ≤ N) (hN : N ≤ 50) : EvF Try.cfg 30 [bSl 0 N N] (P0 cs) (PartsQ cs N) := by
  refine ev_call f30_fn rfl ?_
  repeat' (with_reducible first | refine ev_seq ?_ | refine ev_block ?_ | refine ev_loop ?_ | refine ev_skip ?_ | refine ev_scope ?_)
  refine ev_regionK 300 (by kernel_rfl) ?_
  repeat' (with_reducible first | refine ev_seq ?_ | refine ev_block ?_ | refine ev_loop ?_ | refine ev_skip ?_ | refine ev_scope ?_)
  refine ev_regionK 300 (by kernel_rfl) ?_
  repeat' (with_reducible first | refine ev_seq ?_ | refine ev_block ?_ | refine ev_loop ?_ | refine ev_skip ?_ | refine ev_scope ?_)
  refine ev_region ?_
  refine evl_chunk 300 2 (by kernel_rfl) ?_
  refine evl_test (by kernel_rfl) (by kernel_rfl) (by kernel_rfl) (fun h1 => ?_) (fun h1 => ?_)
  · exfalso
    have c1 : decide ((N : Int) > 50) = true := Eq.trans (by kernel_rfl) h1
    have c1 := of_decide_eq_true c1
    omega
  · refine evl_nil ?_
    repeat' (with_reducible first | refine ev_seq ?_ | refine ev_block ?_ | refine ev_loop ?_ | refine ev_skip ?_ | refine ev_scope ?_)
    refine ev_false (by kernel_rfl) ?_
    refine ev_exit ?_
    dsimp only
    rw [if_pos rfl]
    repeat' (with_reducible first | refine ev_seq ?_ | refine ev_block ?_ | refine ev_loop ?_ | refine ev_skip ?_ | refine ev_scope ?_)
    refine ev_region ?_
    refine evl_chunk 300 2 (by kernel_rfl) ?_
    refine evl_test (by kernel_rfl) (by kernel_rfl) (by kernel_rfl) (fun h2 => ?_) (fun h2 => ?_)
    · refine evl_nil ?_
      repeat' (with_reducible first | refine ev_seq ?_ | refine ev_block ?_ | refine ev_loop ?_ | refine ev_skip ?_ | refine ev_scope ?_)
      refine ev_true (by kernel_rfl) ?_
      repeat' (with_reducible first | refine ev_seq ?_ | refine ev_block ?_ | refine ev_loop ?_ | refine ev_skip ?_ | refine ev_scope ?_)
      refine ev_regionK 300 (by kernel_rfl) ?_
      repeat' (with_reducible first | refine ev_seq ?_ | refine ev_block ?_ | refine ev_loop ?_ | refine ev_skip ?_ | refine ev_scope ?_)
      refine ev_regionK 300 (by kernel_rfl) ?_
      repeat' (with_reducible first | refine ev_seq ?_ | refine ev_block ?_ | refine ev_loop ?_ | refine ev_skip ?_ | refine ev_scope ?_)
      refine ev_ret ?_
      exact ⟨[oSl 2 1], by kernel_rfl, 2, 1, [bSl 0 N N], rfl, by omega, by omega, Nat.le_of_ble_eq_true (by kernel_rfl), by kernel_rfl, by kernel_rfl, rfl, rfl⟩
    · exfalso
      have c2 : decide ((N : Int) > 0) = false := Eq.trans (by kernel_rfl) h2
      have c2 := of_decide_eq_false c2
      omega
def Q0 (cs : List Value) (N : Nat) (o : Out) (e1 : Env) (s1 : St) : Prop := o = .normal ∧ e1.n = 22 ∧ e1.get 0 = bSl 50 N (N - 50) ∧ e1.get 2 = .slice none 0 0 ∧ e1.get 3 = oSl 2 1 ∧ s1.n = 3 ∧ s1.get 0 = some (.arr cs 0 false) ∧ ∃ x, refy x = true ∧ s1.get 2 = some (.arr [x] 0 false)
/-- behind the rounds -/
def QT (cs : List Value) (k : Nat) (o : Out) (e : Env) (s : St) : Prop := (o = .normal ∨ o = .ret) ∧ e.n = 22 ∧ s.n ≤ 5 ∧ s.get 0 = some (.arr cs 0 false) ∧ Okv (e.get 0) ∧ e.get 2 = oSl 1 (k + 1) ∧ e.get 3 = oSl 1 (k + 1) ∧ ∃ row, s.get 1 = some (.arr row 0 false) ∧ row.length = k + 1 ∧ row.all refy = true
set_option maxHeartbeats 4000000 in
set_option maxRecDepth 100000 in
theorem parts_big (cs : List Value) (hp : cs.all plainC = true) (N : Nat) (hN : 50 < N) (hN2 : N ≤ 5000) : SC Try.prog 0 30 [bSl 0 N N] (P0 cs) (PartsQ cs N) := by
  have hS := sound_run Try.cfgOk 300
  refine sc_body Try.cfgOk f30_fn rfl ?_
  repeat' (with_reducible first | refine sk_seq ?_ | refine sk_block ?_ | refine sk_skip ?_ | refine sk_scope ?_)
  refine sk_regionK Try.cfgOk hS (by kernel_rfl) ?_
  repeat' (with_reducible first | refine sk_seq ?_ | refine sk_block ?_ | refine sk_skip ?_ | refine sk_scope ?_)
  refine sk_regionK Try.cfgOk hS (by kernel_rfl) ?_
  repeat' (with_reducible first | refine sk_seq ?_ | refine sk_block ?_ | refine sk_skip ?_ | refine sk_scope ?_)
  refine sk_loop ((sk_ev Try.cfgOk (Q := Q0 cs N) ?_).up ?_)
  · repeat' (with_reducible first | refine ev_seq ?_ | refine ev_block ?_ | refine ev_loop ?_ | refine ev_skip ?_ | refine ev_scope ?_)
    refine ev_region ?_
    refine evl_chunk 300 2 (by kernel_rfl) ?_
    refine evl_test (by kernel_rfl) (by kernel_rfl) (by kernel_rfl) (fun h1 => ?_) (fun h1 => ?_)
    · refine evl_nil ?_
      repeat' (with_reducible first | refine ev_seq ?_ | refine ev_block ?_ | refine ev_loop ?_ | refine ev_skip ?_ | refine ev_scope ?_)
      refine ev_true (by kernel_rfl) ?_
      repeat' (with_reducible first | refine ev_seq ?_ | refine ev_block ?_ | refine ev_loop ?_ | refine ev_skip ?_ | refine ev_scope ?_)
      refine ev_region ?_
      refine evl_chunk 300 2 (by kernel_rfl) ?_
      refine evl_slice (t := 22) (x := bSl 0 N N) (lo := none) (hi := some (.int .i64 (50 : Nat))) (mx := none) (by kernel_rfl) (by kernel_rfl) (by kernel_rfl) (slice_hi (by kernel_rfl) (by omega)) ?_
      refine evl_all 300 (by kernel_rfl) ?_
      repeat' (with_reducible first | refine ev_seq ?_ | refine ev_block ?_ | refine ev_loop ?_ | refine ev_skip ?_ | refine ev_scope ?_)
      refine ev_region ?_
      refine evl_chunk 300 1 (by kernel_rfl) ?_
      refine evl_slice (t := 22) (x := bSl 0 N N) (lo := some (.int .i64 (50 : Nat))) (hi := none) (mx := none) (by kernel_rfl) (by kernel_rfl) (by kernel_rfl) (slice_lo (by kernel_rfl) (by omega)) ?_
      refine evl_all 300 (by kernel_rfl) ?_
      exact ⟨rfl, by kernel_rfl, by kernel_rfl, by kernel_rfl, by kernel_rfl, by kernel_rfl, by kernel_rfl, bSl 0 N 50, rfl, by kernel_rfl⟩
    · exfalso
      have c1 : decide ((N : Int) > 50) = false := Eq.trans (by kernel_rfl) h1
      have c1 := of_decide_eq_false c1
      omega
  rintro o e1 s1 ⟨rfl, q2, q3, q4, q5, q6, q7, x, hx, q8⟩
  refine SK.up (Q := QL 2 cs 1 (N - 50) N) (up (.inr rfl) hp q2 q3 q4 q5 (by omega) q7 q8 (by simp [hx]) rfl (loop_sk hp N (N - 50) (N - 50) 1 50 _ (Nat.le_refl _) (by omega)) (fun o e0 s0 h => ql_ok h) fun o e0 s0 e1' s1' row' h hr hn h0 h2 h3 hsn g0 g1 => ql_up h hr hn h0 h2 h3 (by omega) g0 g1) ?_
  rintro o e2 s2 ⟨rfl, w1, w2, w3, w4, k', L', off', row, w5, w6, w7, w8, w9, w10, w11, w12⟩
  with_reducible refine if_hit rfl ?_
  have hL : 0 < L' := w11 (by omega)
  have hk : k' ≤ 120 := by omega
  refine up (.inr rfl) hp w1 w5 w2 w6 (by omega) w4 w7 w9 w8 (Q0 := QT cs k') (sk_ev Try.cfgOk ?_) ?_ ?_
  · repeat' (with_reducible first | refine ev_seq ?_ | refine ev_block ?_ | refine ev_loop ?_ | refine ev_skip ?_ | refine ev_scope ?_)
    refine ev_region ?_
    refine evl_chunk 300 2 (by kernel_rfl) ?_
    refine evl_test (by kernel_rfl) (by kernel_rfl) (by kernel_rfl) (fun h2 => ?_) (fun h2 => ?_)
    · refine evl_nil ?_
      repeat' (with_reducible first | refine ev_seq ?_ | refine ev_block ?_ | refine ev_loop ?_ | refine ev_skip ?_ | refine ev_scope ?_)
      refine ev_true (by kernel_rfl) ?_
      repeat' (with_reducible first | refine ev_seq ?_ | refine ev_block ?_ | refine ev_loop ?_ | refine ev_skip ?_ | refine ev_scope ?_)
      refine ev_region ?_
      refine evl_chunk 300 3 (by kernel_rfl) ?_
      refine evl_more 40 1 24 1 k' k' 1 (.slice (some ⟨2, 0, some 1⟩) 1 1) (List.replicate k' junkV) [bSl off' N L'] (by kernel_rfl) (by kernel_rfl) (by kernel_rfl) (by kernel_rfl) (by kernel_rfl) (by simp) (by simp) (by kernel_rfl) (by kernel_rfl) (by kernel_rfl) (by omega) (fun h => by omega) ?_
      refine evl_all 300 (by kernel_rfl) ?_
      repeat' (with_reducible first | refine ev_seq ?_ | refine ev_block ?_ | refine ev_loop ?_ | refine ev_skip ?_ | refine ev_scope ?_)
      refine ev_regionK 300 (by kernel_rfl) ?_
      repeat' (with_reducible first | refine ev_seq ?_ | refine ev_block ?_ | refine ev_loop ?_ | refine ev_skip ?_ | refine ev_scope ?_)
      refine ev_ret ?_
      exact ⟨.inr rfl, by kernel_rfl, Nat.le_of_ble_eq_true (by kernel_rfl), by kernel_rfl, .inr (.inl ⟨off', some N, L', 1, by kernel_rfl⟩), by kernel_rfl, by kernel_rfl, List.replicate k' junkV ++ [bSl off' N L'], by kernel_rfl, by simp, by rw [List.all_append, rep_refy]; rfl⟩
    · exfalso
      have c2 : decide ((L' : Int) > 0) = false := Eq.trans (by kernel_rfl) h2
      have c2 := of_decide_eq_false c2
      omega
  · rintro o e0 s0 ⟨_, z1, z2, z3, z4, z5, z6, row', z7, _⟩
    exact ⟨z1, z2, z3, ⟨row', z7⟩, z4, z5 ▸ okv_o _, z6 ▸ okv_o _⟩
  · rintro o e0 s0 e3 s3 row' ⟨ho, z1, z2, z3, z4, z5, z6, row2, z7, z8, z9⟩ hr hn h0 h2 h3 hsn g0 g1
    rw [z7] at hr
    cases hr
    have hv : ∃ vs, resultsV Try.cfg s3 e3 Try.f30.results.toList = some vs ∧ PartsQ cs N (oneOrTuple vs) s3 := by
      refine ⟨[e3.get 2], by kernel_rfl, 2, k' + 1, _, ?_, by omega, by omega, by omega, g0, g1, by rw [eraseL_length]; exact z8, erase_refy z9⟩
      show e3.get 2 = _
      rw [h2, z5]
      rfl
    rcases ho with rfl | rfl
    · exact hv
    · exact hv
theorem parts_sc (cs : List Value) (hp : cs.all plainC = true) (N : Nat) (h1 : 1 ≤ N) (hN : N ≤ 5000) : SC Try.prog 0 30 [bSl 0 N N] (P0 cs) (PartsQ cs N) := by
  by_cases h : N ≤ 50
  · obtain ⟨n, hr⟩ := parts_small cs N h1 h
    exact sc_rec (sound_run Try.cfgOk n) hr
  · exact parts_big cs hp N (by omega) hN
end Go.Proofs.Ytfcfphkcoongdaa
