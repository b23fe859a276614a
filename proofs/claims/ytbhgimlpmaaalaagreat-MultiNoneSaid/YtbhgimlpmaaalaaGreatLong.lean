/- What 'long' comes to at one act. -/
import Derived.Test.YtbhgimlpmaaalaaGreatBase
namespace Go.Proofs.YtbhgimlpmaaalaaGreat
open Go.Ai
def recCells (seq : Int) (val : Bool) (fuel : Int) (a1 a2 a3 a4 a5 : Option Addr) (n1 n2 n3 n4 n5 z1 z2 z3 z4 z5 : Nat) : List Value :=
  [.int .i64 seq, .bool val, .int .i64 fuel, .slice a1 n1 z1, .slice a2 n2 z2, .slice a3 n3 z3, .slice a4 n4 z4, .slice a5 n5 z5]
def rows (r1 r2 r3 r4 r5 : List Value) (m1 m2 m3 m4 m5 : Nat) : St :=
  (((((St.empty 0).new (.arr r1 m1 true)).new (.arr r2 m2 true)).new (.arr r3 m3 true)).new (.arr r4 m4 true)).new (.arr r5 m5 true)
def opRow (c : List Value) : List Value := [.int .i64 0, .int .i64 0, .int .i64 0] ++ c
def withOp (s : St) (c : List Value) : St := (s.new (.cells c)).new (.arr (opRow c) 0 false)
def big (n1 n2 n3 n4 n5 : Nat) : Bool := decide ((n1 : Int) > 33) || decide ((n2 : Int) > 20) || decide ((n3 : Int) > 20) || decide ((n4 : Int) > 20) || decide ((n5 : Int) > 30)
theorem big_sub {R : Nat → Nat → Prop} {b c : Bool} (h : b = c) : Sub R (.bool c) (.bool b) := by subst h; exact .bool _
theorem upto7 {α : Type} {g g' : Nat → α} (h0 : g 0 = g' 0) (h1 : g 1 = g' 1) (h2 : g 2 = g' 2) (h3 : g 3 = g' 3) (h4 : g 4 = g' 4) (h5 : g 5 = g' 5) (h6 : g 6 = g' 6) : ∀ i, i < 7 → g i = g' i := by
  intro i hi
  obtain rfl | rfl | rfl | rfl | rfl | rfl | rfl : i = 0 ∨ i = 1 ∨ i = 2 ∨ i = 3 ∨ i = 4 ∨ i = 5 ∨ i = 6 := by omega
  · exact h0
  · exact h1
  · exact h2
  · exact h3
  · exact h4
  · exact h5
  · exact h6
theorem f5_fn : Tryz.cfg.fn 5 = some Tryz.f5 := by kernel_rfl
set_option maxHeartbeats 4000000 in
set_option maxRecDepth 100000 in
theorem long_ev (seq : Int) (val : Bool) (fuel : Int) (a1 a2 a3 a4 a5 : Option Addr) (n1 n2 n3 n4 n5 z1 z2 z3 z4 z5 : Nat) (r1 r2 r3 r4 r5 : List Value) (m1 m2 m3 m4 m5 : Nat) :
   EvF Tryz.cfg 5 [.slice (some ⟨6, 0, some 11⟩) 1 11] (withOp (rows r1 r2 r3 r4 r5 m1 m2 m3 m4 m5) (recCells seq val fuel a1 a2 a3 a4 a5 n1 n2 n3 n4 n5 z1 z2 z3 z4 z5))
     fun v s' => s'.n ≤ 9 ∧ (∀ i, i < 7 → s'.get i = (withOp (rows r1 r2 r3 r4 r5 m1 m2 m3 m4 m5) (recCells seq val fuel a1 a2 a3 a4 a5 n1 n2 n3 n4 n5 z1 z2 z3 z4 z5)).get i) ∧ Sub (idR 7) v (.bool (big n1 n2 n3 n4 n5)) := by
  refine ev_call f5_fn rfl ?_
  repeat' (with_reducible first | refine ev_seq ?_ | refine ev_block ?_ | refine ev_loop ?_ | refine ev_skip ?_ | refine ev_scope ?_)
  refine ev_regionK 300 (by kernel_rfl) ?_
  repeat' (with_reducible first | refine ev_seq ?_ | refine ev_block ?_ | refine ev_loop ?_ | refine ev_skip ?_ | refine ev_scope ?_)
  refine ev_regionK 300 (by kernel_rfl) ?_
  repeat' (with_reducible first | refine ev_seq ?_ | refine ev_block ?_ | refine ev_loop ?_ | refine ev_skip ?_ | refine ev_scope ?_)
  refine ev_regionK 300 (by kernel_rfl) ?_
  repeat' (with_reducible first | refine ev_seq ?_ | refine ev_block ?_ | refine ev_loop ?_ | refine ev_skip ?_ | refine ev_scope ?_)
  refine ev_true (by kernel_rfl) ?_
  repeat' (with_reducible first | refine ev_seq ?_ | refine ev_block ?_ | refine ev_loop ?_ | refine ev_skip ?_ | refine ev_scope ?_)
  refine ev_regionK 300 (by kernel_rfl) ?_
  repeat' (with_reducible first | refine ev_seq ?_ | refine ev_block ?_ | refine ev_loop ?_ | refine ev_skip ?_ | refine ev_scope ?_)
  refine ev_regionK 300 (by kernel_rfl) ?_
  repeat' (with_reducible first | refine ev_seq ?_ | refine ev_block ?_ | refine ev_loop ?_ | refine ev_skip ?_ | refine ev_scope ?_)
  refine ev_region ?_
  refine evl_chunk 300 7 (by kernel_rfl) ?_
  refine evl_test (by kernel_rfl) (by kernel_rfl) (by kernel_rfl) (fun h0 => ?_) (fun h0 => ?_)
  · refine evl_all 300 (by kernel_rfl) ?_
    repeat' (with_reducible first | refine ev_seq ?_ | refine ev_block ?_ | refine ev_loop ?_ | refine ev_skip ?_ | refine ev_scope ?_)
    refine ev_true (by kernel_rfl) ?_
    repeat' (with_reducible first | refine ev_seq ?_ | refine ev_block ?_ | refine ev_loop ?_ | refine ev_skip ?_ | refine ev_scope ?_)
    refine ev_regionK 300 (by kernel_rfl) ?_
    repeat' (with_reducible first | refine ev_seq ?_ | refine ev_block ?_ | refine ev_loop ?_ | refine ev_skip ?_ | refine ev_scope ?_)
    refine ev_ret ?_
    have c0 : decide ((n1 : Int) > 33) = true := Eq.trans (by kernel_rfl) h0
    exact ⟨[.bool true], by kernel_rfl, Nat.le_of_ble_eq_true (by kernel_rfl), upto7 (by kernel_rfl) (by kernel_rfl) (by kernel_rfl) (by kernel_rfl) (by kernel_rfl) (by kernel_rfl) (by kernel_rfl), big_sub (by simp [big, c0])⟩
  ·
    refine evl_chunk 300 6 (by kernel_rfl) ?_
    refine evl_test (by kernel_rfl) (by kernel_rfl) (by kernel_rfl) (fun h1 => ?_) (fun h1 => ?_)
    · refine evl_all 300 (by kernel_rfl) ?_
      repeat' (with_reducible first | refine ev_seq ?_ | refine ev_block ?_ | refine ev_loop ?_ | refine ev_skip ?_ | refine ev_scope ?_)
      refine ev_true (by kernel_rfl) ?_
      repeat' (with_reducible first | refine ev_seq ?_ | refine ev_block ?_ | refine ev_loop ?_ | refine ev_skip ?_ | refine ev_scope ?_)
      refine ev_regionK 300 (by kernel_rfl) ?_
      repeat' (with_reducible first | refine ev_seq ?_ | refine ev_block ?_ | refine ev_loop ?_ | refine ev_skip ?_ | refine ev_scope ?_)
      refine ev_ret ?_
      have c1 : decide ((n2 : Int) > 20) = true := Eq.trans (by kernel_rfl) h1
      exact ⟨[.bool true], by kernel_rfl, Nat.le_of_ble_eq_true (by kernel_rfl), upto7 (by kernel_rfl) (by kernel_rfl) (by kernel_rfl) (by kernel_rfl) (by kernel_rfl) (by kernel_rfl) (by kernel_rfl), big_sub (by simp [big, c1])⟩
    ·
      refine evl_chunk 300 6 (by kernel_rfl) ?_
      refine evl_test (by kernel_rfl) (by kernel_rfl) (by kernel_rfl) (fun h2 => ?_) (fun h2 => ?_)
      · refine evl_all 300 (by kernel_rfl) ?_
        repeat' (with_reducible first | refine ev_seq ?_ | refine ev_block ?_ | refine ev_loop ?_ | refine ev_skip ?_ | refine ev_scope ?_)
        refine ev_true (by kernel_rfl) ?_
        repeat' (with_reducible first | refine ev_seq ?_ | refine ev_block ?_ | refine ev_loop ?_ | refine ev_skip ?_ | refine ev_scope ?_)
        refine ev_regionK 300 (by kernel_rfl) ?_
        repeat' (with_reducible first | refine ev_seq ?_ | refine ev_block ?_ | refine ev_loop ?_ | refine ev_skip ?_ | refine ev_scope ?_)
        refine ev_ret ?_
        have c2 : decide ((n3 : Int) > 20) = true := Eq.trans (by kernel_rfl) h2
        exact ⟨[.bool true], by kernel_rfl, Nat.le_of_ble_eq_true (by kernel_rfl), upto7 (by kernel_rfl) (by kernel_rfl) (by kernel_rfl) (by kernel_rfl) (by kernel_rfl) (by kernel_rfl) (by kernel_rfl), big_sub (by simp [big, c2])⟩
      ·
        refine evl_chunk 300 6 (by kernel_rfl) ?_
        refine evl_test (by kernel_rfl) (by kernel_rfl) (by kernel_rfl) (fun h3 => ?_) (fun h3 => ?_)
        · refine evl_all 300 (by kernel_rfl) ?_
          repeat' (with_reducible first | refine ev_seq ?_ | refine ev_block ?_ | refine ev_loop ?_ | refine ev_skip ?_ | refine ev_scope ?_)
          refine ev_true (by kernel_rfl) ?_
          repeat' (with_reducible first | refine ev_seq ?_ | refine ev_block ?_ | refine ev_loop ?_ | refine ev_skip ?_ | refine ev_scope ?_)
          refine ev_regionK 300 (by kernel_rfl) ?_
          repeat' (with_reducible first | refine ev_seq ?_ | refine ev_block ?_ | refine ev_loop ?_ | refine ev_skip ?_ | refine ev_scope ?_)
          refine ev_ret ?_
          have c3 : decide ((n4 : Int) > 20) = true := Eq.trans (by kernel_rfl) h3
          exact ⟨[.bool true], by kernel_rfl, Nat.le_of_ble_eq_true (by kernel_rfl), upto7 (by kernel_rfl) (by kernel_rfl) (by kernel_rfl) (by kernel_rfl) (by kernel_rfl) (by kernel_rfl) (by kernel_rfl), big_sub (by simp [big, c3])⟩
        ·
          refine evl_chunk 300 5 (by kernel_rfl) ?_
          refine evl_test (by kernel_rfl) (by kernel_rfl) (by kernel_rfl) (fun h4 => ?_) (fun h4 => ?_)
          · refine evl_all 300 (by kernel_rfl) ?_
            repeat' (with_reducible first | refine ev_seq ?_ | refine ev_block ?_ | refine ev_loop ?_ | refine ev_skip ?_ | refine ev_scope ?_)
            refine ev_true (by kernel_rfl) ?_
            repeat' (with_reducible first | refine ev_seq ?_ | refine ev_block ?_ | refine ev_loop ?_ | refine ev_skip ?_ | refine ev_scope ?_)
            refine ev_regionK 300 (by kernel_rfl) ?_
            repeat' (with_reducible first | refine ev_seq ?_ | refine ev_block ?_ | refine ev_loop ?_ | refine ev_skip ?_ | refine ev_scope ?_)
            refine ev_ret ?_
            have c4 : decide ((n5 : Int) > 30) = true := Eq.trans (by kernel_rfl) h4
            exact ⟨[.bool true], by kernel_rfl, Nat.le_of_ble_eq_true (by kernel_rfl), upto7 (by kernel_rfl) (by kernel_rfl) (by kernel_rfl) (by kernel_rfl) (by kernel_rfl) (by kernel_rfl) (by kernel_rfl), big_sub (by simp [big, c4])⟩
          ·
            refine evl_all 300 (by kernel_rfl) ?_
            repeat' (with_reducible first | refine ev_seq ?_ | refine ev_block ?_ | refine ev_loop ?_ | refine ev_skip ?_ | refine ev_scope ?_)
            refine ev_false (by kernel_rfl) ?_
            repeat' (with_reducible first | refine ev_seq ?_ | refine ev_block ?_ | refine ev_loop ?_ | refine ev_skip ?_ | refine ev_scope ?_)
            refine ev_regionK 300 (by kernel_rfl) ?_
            repeat' (with_reducible first | refine ev_seq ?_ | refine ev_block ?_ | refine ev_loop ?_ | refine ev_skip ?_ | refine ev_scope ?_)
            refine ev_regionK 300 (by kernel_rfl) ?_
            repeat' (with_reducible first | refine ev_seq ?_ | refine ev_block ?_ | refine ev_loop ?_ | refine ev_skip ?_ | refine ev_scope ?_)
            refine ev_false (by kernel_rfl) ?_
            refine ev_exit ?_
            dsimp only
            rw [if_pos rfl]
            repeat' (with_reducible first | refine ev_seq ?_ | refine ev_block ?_ | refine ev_loop ?_ | refine ev_skip ?_ | refine ev_scope ?_)
            refine ev_regionK 300 (by kernel_rfl) ?_
            repeat' (with_reducible first | refine ev_seq ?_ | refine ev_block ?_ | refine ev_loop ?_ | refine ev_skip ?_ | refine ev_scope ?_)
            refine ev_ret ?_
            have c0 : decide ((n1 : Int) > 33) = false := Eq.trans (by kernel_rfl) h0
            have c1 : decide ((n2 : Int) > 20) = false := Eq.trans (by kernel_rfl) h1
            have c2 : decide ((n3 : Int) > 20) = false := Eq.trans (by kernel_rfl) h2
            have c3 : decide ((n4 : Int) > 20) = false := Eq.trans (by kernel_rfl) h3
            have c4 : decide ((n5 : Int) > 30) = false := Eq.trans (by kernel_rfl) h4
            exact ⟨[.bool false], by kernel_rfl, Nat.le_of_ble_eq_true (by kernel_rfl), upto7 (by kernel_rfl) (by kernel_rfl) (by kernel_rfl) (by kernel_rfl) (by kernel_rfl) (by kernel_rfl) (by kernel_rfl), big_sub (by simp [big, c0, c1, c2, c3, c4])⟩
end Go.Proofs.YtbhgimlpmaaalaaGreat
