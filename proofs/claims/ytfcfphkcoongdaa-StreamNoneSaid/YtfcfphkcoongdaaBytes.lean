/- What 'Count' and 'Bytes' of the document's chapter 3 come to. -/
import Derived.Test.YtfcfphkcoongdaaNeed
namespace Go.Proofs.Ytfcfphkcoongdaa
open Go.Ai
def Slot (k sz m n z : Nat) (a : Option Addr) : Prop := (a = none ∧ n = 0 ∧ z = 0) ∨ (a = some ⟨k, 0, some (n * sz)⟩ ∧ z = sz ∧ m = if n = 0 then 1 else 0)
def row1 (r : List Value) (m : Nat) : St := (St.empty 0).new (.arr r m true)
theorem get_of_eq {s s1 : St} {i : Nat} {o : Option AObj} (h : s = s1) (g : s1.get i = o) : s.get i = o := h ▸ g
theorem n_of_eq {s s1 : St} {k : Nat} (h : s = s1) (g : s1.n ≤ k) : s.n ≤ k := h ▸ g
theorem m_of_eq {s s1 : St} {k : Nat} (h : s = s1) (g : k ≤ s1.n) : k ≤ s.n := h ▸ g
theorem f51_fn : Try.cfg.fn 51 = some Try.f51 := by kernel_rfl
theorem f31_fn : Try.cfg.fn 31 = some Try.f31 := by kernel_rfl
set_option maxHeartbeats 4000000 in
set_option maxRecDepth 100000 in
theorem count_ev (x : Int) (r : List Value) (m : Nat) (x0 : 0 ≤ x) (x1 : x < 16384) : EvF Try.cfg 51 [.int .u64 x] (row1 r m) fun v s' => ∃ cs : List Value, v = .slice (some ⟨2, 0, some cs.length⟩) cs.length 1 ∧ s'.get 2 = some (.arr cs 0 false) ∧ s'.get 0 = some (.arr r m true) ∧ 3 ≤ s'.n ∧ s'.n ≤ 4 ∧
    cs.all plainC = true ∧ (x < 128 → cs.length = 1) ∧ (128 ≤ x → cs.length = 2) := by
  refine ev_call f51_fn rfl ?_
  repeat' (with_reducible first | refine ev_seq ?_ | refine ev_block ?_ | refine ev_loop ?_ | refine ev_skip ?_ | refine ev_scope ?_)
  refine ev_regionK 300 (by kernel_rfl) ?_
  repeat' (with_reducible first | refine ev_seq ?_ | refine ev_block ?_ | refine ev_loop ?_ | refine ev_skip ?_ | refine ev_scope ?_)
  refine ev_regionK 300 (by kernel_rfl) ?_
  repeat' (with_reducible first | refine ev_seq ?_ | refine ev_block ?_ | refine ev_loop ?_ | refine ev_skip ?_ | refine ev_scope ?_)
  refine ev_region ?_
  refine evl_chunk 300 1 (by kernel_rfl) ?_
  refine evl_test (by kernel_rfl) (by kernel_rfl) (by kernel_rfl) (fun h1 => ?_) (fun h1 => ?_)
  · refine evl_nil ?_
    repeat' (with_reducible first | refine ev_seq ?_ | refine ev_block ?_ | refine ev_loop ?_ | refine ev_skip ?_ | refine ev_scope ?_)
    refine ev_true (by kernel_rfl) ?_
    repeat' (with_reducible first | refine ev_seq ?_ | refine ev_block ?_ | refine ev_loop ?_ | refine ev_skip ?_ | refine ev_scope ?_)
    refine ev_regionK 300 (by kernel_rfl) ?_
    repeat' (with_reducible first | refine ev_seq ?_ | refine ev_block ?_ | refine ev_loop ?_ | refine ev_skip ?_ | refine ev_scope ?_)
    refine ev_regionK 300 (by kernel_rfl) ?_
    repeat' (with_reducible first | refine ev_seq ?_ | refine ev_block ?_ | refine ev_loop ?_ | refine ev_skip ?_ | refine ev_scope ?_)
    refine ev_region ?_
    refine evl_chunk 300 1 (by kernel_rfl) ?_
    refine evl_test (by kernel_rfl) (by kernel_rfl) (by kernel_rfl) (fun h2 => ?_) (fun h2 => ?_)
    · exfalso
      have c1 : decide (x ≥ 128) = true := Eq.trans (by kernel_rfl) h1
      have c1 := of_decide_eq_true c1
      have c2 : decide (IntKind.u64.wrap (x.tdiv 128) ≥ 128) = true := Eq.trans (by kernel_rfl) h2
      have c2 := of_decide_eq_true c2
      rw [tdiv_pos x0, wrapU (by omega) (by omega)] at c2
      omega
    · refine evl_nil ?_
      repeat' (with_reducible first | refine ev_seq ?_ | refine ev_block ?_ | refine ev_loop ?_ | refine ev_skip ?_ | refine ev_scope ?_)
      refine ev_false (by kernel_rfl) ?_
      refine ev_exit ?_
      dsimp only
      rw [if_pos rfl]
      repeat' (with_reducible first | refine ev_seq ?_ | refine ev_block ?_ | refine ev_loop ?_ | refine ev_skip ?_ | refine ev_scope ?_)
      refine ev_regionK 300 (by kernel_rfl) ?_
      repeat' (with_reducible first | refine ev_seq ?_ | refine ev_block ?_ | refine ev_loop ?_ | refine ev_skip ?_ | refine ev_scope ?_)
      refine ev_ret ?_
      have c1 : decide (x ≥ 128) = true := Eq.trans (by kernel_rfl) h1
      have c1 := of_decide_eq_true c1
      exact ⟨[.slice (some ⟨2, 0, some 2⟩) 2 1], by kernel_rfl, [.int .u8 (IntKind.u8.wrap (IntKind.u64.wrap (x.tmod 128 + 128))), .int .u8 (IntKind.u8.wrap (IntKind.u64.wrap (x.tdiv 128)))], rfl, by kernel_rfl, by kernel_rfl, Nat.le_of_ble_eq_true (by kernel_rfl), Nat.le_of_ble_eq_true (by kernel_rfl), rfl, fun h => by omega, fun _ => rfl⟩
  · refine evl_nil ?_
    repeat' (with_reducible first | refine ev_seq ?_ | refine ev_block ?_ | refine ev_loop ?_ | refine ev_skip ?_ | refine ev_scope ?_)
    refine ev_false (by kernel_rfl) ?_
    refine ev_exit ?_
    dsimp only
    rw [if_pos rfl]
    repeat' (with_reducible first | refine ev_seq ?_ | refine ev_block ?_ | refine ev_loop ?_ | refine ev_skip ?_ | refine ev_scope ?_)
    refine ev_regionK 300 (by kernel_rfl) ?_
    repeat' (with_reducible first | refine ev_seq ?_ | refine ev_block ?_ | refine ev_loop ?_ | refine ev_skip ?_ | refine ev_scope ?_)
    refine ev_ret ?_
    have c1 : decide (x ≥ 128) = false := Eq.trans (by kernel_rfl) h1
    have c1 := of_decide_eq_false c1
    exact ⟨[.slice (some ⟨2, 0, some 1⟩) 1 1], by kernel_rfl, [.int .u8 (IntKind.u8.wrap x)], rfl, by kernel_rfl, by kernel_rfl, Nat.le_of_ble_eq_true (by kernel_rfl), Nat.le_of_ble_eq_true (by kernel_rfl), rfl, fun _ => rfl, fun h => by omega⟩
set_option maxHeartbeats 4000000 in
set_option maxRecDepth 100000 in
theorem bytes_ev (a : Option Addr) (n z m : Nat) (r : List Value) (d : Slot 0 1 m n z a) (l : r.length = n * 1) (p : r.all plainC = true) (hn : n ≤ 4096) : EvF Try.cfg 31 [.slice a n z] (row1 r m) fun v s' => ∃ cs : List Value,
    v = .slice (some ⟨2, 0, some cs.length⟩) cs.length 1 ∧ s'.get 2 = some (.arr cs 0 false) ∧ s'.get 0 = some (.arr r m true) ∧ 3 ≤ s'.n ∧ s'.n ≤ 4 ∧ cs.all plainC = true ∧ (n < 128 → cs.length = n + 1) ∧ (128 ≤ n → cs.length = n + 2) := by
  refine ev_call f31_fn rfl ?_
  repeat' (with_reducible first | refine ev_seq ?_ | refine ev_block ?_ | refine ev_loop ?_ | refine ev_skip ?_ | refine ev_scope ?_)
  refine ev_regionK 300 (by kernel_rfl) ?_
  repeat' (with_reducible first | refine ev_seq ?_ | refine ev_block ?_ | refine ev_loop ?_ | refine ev_skip ?_ | refine ev_scope ?_)
  refine ev_region ?_
  refine evl_chunk 300 3 (by kernel_rfl) ?_
  have hw : IntKind.u64.wrap (n : Int) = n := wrapU (by omega) (by omega)
  refine evl_call 51 [.int .u64 (IntKind.u64.wrap (n : Int))] (by kernel_rfl) rfl (fun b h => by cases h) (by kernel_rfl) (by rw [hw]; exact count_ev n r m (by omega) (by omega)) ?_
  rintro v s1 ⟨cs, rfl, g2, g0, gm, gn, cp, k1, k2⟩
  refine evl_chunk 300 1 (by kernel_rfl) ?_
  have hc2 : cs.length ≤ 2 := by
    by_cases h : n < 128
    · have := k1 (by omega); omega
    · have := k2 (by omega); omega
  refine evl_more 22 1 1 2 cs.length cs.length n (.slice a n z) cs r (by kernel_rfl) (by kernel_rfl) (by kernel_rfl) (by kernel_rfl) (get_of_eq (s1 := s1) (by kernel_rfl) g2) rfl (by omega) (by kernel_rfl) (firstV_slot (k := 0) (mv := m) (get_of_eq (s1 := s1) (by kernel_rfl) g0) l d) (plain_one p) (by omega) (fun h => List.length_eq_zero_iff.1 (by simp [l, h])) ?_
  refine evl_all 300 (by kernel_rfl) ?_
  repeat' (with_reducible first | refine ev_seq ?_ | refine ev_block ?_ | refine ev_loop ?_ | refine ev_skip ?_ | refine ev_scope ?_)
  refine ev_ret ?_
  refine ⟨[.slice (some ⟨2, 0, some (cs.length + n * 1)⟩) (cs.length + n) 1], by kernel_rfl, cs ++ r, ?_, get_of_eq (s1 := s1.set 2 (.arr (cs ++ r) 0 false)) (by kernel_rfl) ?_, get_of_eq (s1 := s1.set 2 (.arr (cs ++ r) 0 false)) (by kernel_rfl) ?_, m_of_eq (s1 := s1.set 2 (.arr (cs ++ r) 0 false)) (by kernel_rfl) gm, n_of_eq (s1 := s1.set 2 (.arr (cs ++ r) 0 false)) (by kernel_rfl) gn, ?_, fun h => ?_, fun h => ?_⟩
  · rw [List.length_append, l, Nat.mul_one]; rfl
  · exact (St.get_set _ _ _ _).trans (if_pos rfl)
  · exact ((St.get_set _ _ _ _).trans (if_neg (by omega))).trans g0
  · rw [List.all_append, cp, p]; rfl
  · have := k1 (by omega); rw [List.length_append]; omega
  · have := k2 (by omega); rw [List.length_append]; omega
end Go.Proofs.Ytfcfphkcoongdaa
