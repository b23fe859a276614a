/- What 'wire.Size', 'slab.Need' and 'stream.Need' come to. -/
import Derived.Test.YtfcfphkcoongdaaLen
namespace Go.Proofs.Ytfcfphkcoongdaa
open Go.Ai
theorem f27_fn : Try.cfg.fn 27 = some Try.f27 := by kernel_rfl
theorem f26_fn : Try.cfg.fn 26 = some Try.f26 := by kernel_rfl
theorem f8_fn : Try.cfg.fn 8 = some Try.f8 := by kernel_rfl
theorem wrapU {x : Int} (h0 : 0 ≤ x) (h : x < 18446744073709551616) : IntKind.u64.wrap x = x := by
  simp [IntKind.wrap, IntKind.signed, IntKind.bits]
  omega
theorem wrapU_range (x : Int) : 0 ≤ IntKind.u64.wrap x ∧ IntKind.u64.wrap x < 18446744073709551616 := by
  simp [IntKind.wrap, IntKind.signed, IntKind.bits]
  omega
theorem tdiv_pos {a b : Int} (h : 0 ≤ a) : a.tdiv b = a / b := Int.tdiv_eq_ediv_of_nonneg h
set_option maxHeartbeats 4000000 in
set_option maxRecDepth 100000 in
theorem size_ev (x : Int) (s : St) (x0 : 0 ≤ x) (x1 : x < 18446744073709551616) :
    EvF Try.cfg 27 [.int .u64 x] s fun v s' => ∃ S : Int, v = .int .i64 S ∧ s' = s ∧ 1 ≤ S ∧ S ≤ 10 ∧ (x < 128 → S = 1) ∧ (128 ≤ x → x < 16384 → S = 2) ∧ (x < 1099511627776 → S ≤ 6) := by
  refine ev_call f27_fn rfl ?_
  repeat' (with_reducible first | refine ev_seq ?_ | refine ev_block ?_ | refine ev_loop ?_ | refine ev_skip ?_ | refine ev_scope ?_)
  refine ev_regionK 300 (by kernel_rfl) ?_
  repeat' (with_reducible first | refine ev_seq ?_ | refine ev_block ?_ | refine ev_loop ?_ | refine ev_skip ?_ | refine ev_scope ?_)
  refine ev_region ?_
  refine evl_chunk 300 1 (by kernel_rfl) ?_
  refine evl_call 46 [.int .u64 x] (by kernel_rfl) rfl (fun b h => by cases h) (by kernel_rfl) (len64_ev x _ x0 x1) ?_
  rintro v s1 ⟨L, rfl, rfl, h0, h64, h7, h8, h14, h40⟩
  refine evl_all 300 (by kernel_rfl) ?_
  repeat' (with_reducible first | refine ev_seq ?_ | refine ev_block ?_ | refine ev_loop ?_ | refine ev_skip ?_ | refine ev_scope ?_)
  refine ev_ret ?_
  refine ⟨[.int .i64 (if IntKind.i64.wrap ((IntKind.i64.wrap (IntKind.i64.wrap (L + 7) - 1)).tdiv 7) > 1 then IntKind.i64.wrap ((IntKind.i64.wrap (IntKind.i64.wrap (L + 7) - 1)).tdiv 7) else 1)], by kernel_rfl, _, rfl, by kernel_rfl, ?_⟩
  rw [wrap64s (x := L + 7) (by omega) (by omega), wrap64s (x := L + 7 - 1) (by omega) (by omega), tdiv_pos (by omega), wrap64s (by omega) (by omega)]
  refine ⟨?_, ?_, fun h => ?_, fun h h' => ?_, fun h => ?_⟩ <;> split <;> omega
set_option maxHeartbeats 4000000 in
set_option maxRecDepth 100000 in
theorem parts_ev (m : Int) (s : St) (hm : -9223372036854775808 ≤ m) : EvF Try.cfg 26 [.int .i64 m] s fun v s' => ∃ r : Int, v = .int .i64 r ∧ s' = s ∧ (1 ≤ m → m < 4611686018427387904 → r = (m - 1) / 50 + 1) := by
  refine ev_call f26_fn rfl ?_
  repeat' (with_reducible first | refine ev_seq ?_ | refine ev_block ?_ | refine ev_loop ?_ | refine ev_skip ?_ | refine ev_scope ?_)
  refine ev_regionK 300 (by kernel_rfl) ?_
  repeat' (with_reducible first | refine ev_seq ?_ | refine ev_block ?_ | refine ev_loop ?_ | refine ev_skip ?_ | refine ev_scope ?_)
  refine ev_region ?_
  refine evl_chunk 300 1 (by kernel_rfl) ?_
  refine evl_test (by kernel_rfl) (by kernel_rfl) (by kernel_rfl) (fun h => ?_) (fun h => ?_)
  · refine evl_nil ?_
    repeat' (with_reducible first | refine ev_seq ?_ | refine ev_block ?_ | refine ev_loop ?_ | refine ev_skip ?_ | refine ev_scope ?_)
    refine ev_true (by kernel_rfl) ?_
    repeat' (with_reducible first | refine ev_seq ?_ | refine ev_block ?_ | refine ev_loop ?_ | refine ev_skip ?_ | refine ev_scope ?_)
    refine ev_regionK 300 (by kernel_rfl) ?_
    repeat' (with_reducible first | refine ev_seq ?_ | refine ev_block ?_ | refine ev_loop ?_ | refine ev_skip ?_ | refine ev_scope ?_)
    refine ev_ret ?_
    have c : decide (m < 1) = true := Eq.trans (by kernel_rfl) h
    have c := of_decide_eq_true c
    exact ⟨[.int .i64 0], by kernel_rfl, 0, rfl, by kernel_rfl, fun h => by omega⟩
  · refine evl_nil ?_
    repeat' (with_reducible first | refine ev_seq ?_ | refine ev_block ?_ | refine ev_loop ?_ | refine ev_skip ?_ | refine ev_scope ?_)
    refine ev_false (by kernel_rfl) ?_
    repeat' (with_reducible first | refine ev_seq ?_ | refine ev_block ?_ | refine ev_loop ?_ | refine ev_skip ?_ | refine ev_scope ?_)
    refine ev_regionK 300 (by kernel_rfl) ?_
    repeat' (with_reducible first | refine ev_seq ?_ | refine ev_block ?_ | refine ev_loop ?_ | refine ev_skip ?_ | refine ev_scope ?_)
    refine ev_ret ?_
    refine ⟨[.int .i64 (IntKind.i64.wrap (IntKind.i64.wrap ((IntKind.i64.wrap (m - 1)).tdiv 50) + 1))], by kernel_rfl, _, rfl, by kernel_rfl, fun h1 h2 => ?_⟩
    rw [wrap64s (x := m - 1) (by omega) (by omega), tdiv_pos (by omega), wrap64s (x := (m - 1) / 50) (by omega) (by omega), wrap64s (by omega) (by omega)]
set_option maxHeartbeats 4000000 in
set_option maxRecDepth 100000 in
theorem need_ev (n : Int) (s : St) (hn0 : -9223372036854775808 ≤ n) (hn : n < 9223372036854775808) :
    EvF Try.cfg 8 [.int .i64 n] s fun v s' => ∃ k : Int, v = .int .i64 k ∧ s' = s ∧ (n < 0 → k = 0) ∧ (0 ≤ n → n < 1099511627776 → ∃ S : Int, 1 ≤ S ∧ S ≤ 6 ∧ (n < 128 → S = 1) ∧ (128 ≤ n → n < 16384 → S = 2) ∧ k = (n + S - 1) / 50 + 1) := by
  refine ev_call f8_fn rfl ?_
  repeat' (with_reducible first | refine ev_seq ?_ | refine ev_block ?_ | refine ev_loop ?_ | refine ev_skip ?_ | refine ev_scope ?_)
  refine ev_regionK 300 (by kernel_rfl) ?_
  repeat' (with_reducible first | refine ev_seq ?_ | refine ev_block ?_ | refine ev_loop ?_ | refine ev_skip ?_ | refine ev_scope ?_)
  refine ev_region ?_
  refine evl_chunk 300 1 (by kernel_rfl) ?_
  refine evl_test (by kernel_rfl) (by kernel_rfl) (by kernel_rfl) (fun h => ?_) (fun h => ?_)
  · refine evl_nil ?_
    repeat' (with_reducible first | refine ev_seq ?_ | refine ev_block ?_ | refine ev_loop ?_ | refine ev_skip ?_ | refine ev_scope ?_)
    refine ev_true (by kernel_rfl) ?_
    repeat' (with_reducible first | refine ev_seq ?_ | refine ev_block ?_ | refine ev_loop ?_ | refine ev_skip ?_ | refine ev_scope ?_)
    refine ev_regionK 300 (by kernel_rfl) ?_
    repeat' (with_reducible first | refine ev_seq ?_ | refine ev_block ?_ | refine ev_loop ?_ | refine ev_skip ?_ | refine ev_scope ?_)
    refine ev_ret ?_
    have c : decide (n < 0) = true := Eq.trans (by kernel_rfl) h
    have c := of_decide_eq_true c
    exact ⟨[.int .i64 0], by kernel_rfl, 0, rfl, by kernel_rfl, fun _ => rfl, fun h => by omega⟩
  · refine evl_nil ?_
    repeat' (with_reducible first | refine ev_seq ?_ | refine ev_block ?_ | refine ev_loop ?_ | refine ev_skip ?_ | refine ev_scope ?_)
    refine ev_false (by kernel_rfl) ?_
    repeat' (with_reducible first | refine ev_seq ?_ | refine ev_block ?_ | refine ev_loop ?_ | refine ev_skip ?_ | refine ev_scope ?_)
    have c : decide (n < 0) = false := Eq.trans (by kernel_rfl) h
    have c := of_decide_eq_false c
    refine ev_region ?_
    refine evl_chunk 300 2 (by kernel_rfl) ?_
    refine evl_call 27 [.int .u64 (IntKind.u64.wrap n)] (by kernel_rfl) rfl (fun b h => by cases h) (by kernel_rfl) (size_ev _ _ (wrapU_range n).1 (wrapU_range n).2) ?_
    rintro v s2 ⟨S, rfl, rfl, q1, q10, sa, sb, sc⟩
    rw [wrapU (by omega) (by omega)] at sa sb sc
    refine evl_chunk 300 2 (by kernel_rfl) ?_
    have hr : -9223372036854775808 ≤ IntKind.i64.wrap (S + n) := by
      simp [IntKind.wrap, IntKind.signed, IntKind.bits]
      omega
    refine evl_call 26 [.int .i64 (IntKind.i64.wrap (S + n))] (by kernel_rfl) rfl (fun b h => by cases h) (by kernel_rfl) (parts_ev _ _ hr) ?_
    rintro v s1 ⟨r, rfl, rfl, hk⟩
    refine evl_all 300 (by kernel_rfl) ?_
    repeat' (with_reducible first | refine ev_seq ?_ | refine ev_block ?_ | refine ev_loop ?_ | refine ev_skip ?_ | refine ev_scope ?_)
    refine ev_ret ?_
    refine ⟨[.int .i64 r], by kernel_rfl, r, rfl, by kernel_rfl, fun h => by omega, fun h0 h1 => ⟨S, q1, sc h1, sa, sb, ?_⟩⟩
    have := sc h1
    rw [wrap64s (by omega) (by omega)] at hk
    rw [hk (by omega) (by omega)]
    congr 2
    omega
end Go.Proofs.Ytfcfphkcoongdaa
