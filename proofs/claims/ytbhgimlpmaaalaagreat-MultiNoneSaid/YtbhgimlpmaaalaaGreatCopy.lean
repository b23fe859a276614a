/- What 'program' comes to. -/
import Derived.Test.YtbhgimlpmaaalaaGreatLong
namespace Go.Proofs.YtbhgimlpmaaalaaGreat
open Go.Ai
/-- a slice of an input under a number -/
def Slot (k sz m n z : Nat) (a : Option Addr) : Prop := (a = none ∧ n = 0 ∧ z = 0) ∨ (a = some ⟨k, 0, some (n * sz)⟩ ∧ z = sz ∧ m = if n = 0 then 1 else 0)
theorem upto5 {α : Type} {g g' : Nat → α} (h0 : g 0 = g' 0) (h1 : g 1 = g' 1) (h2 : g 2 = g' 2) (h3 : g 3 = g' 3) (h4 : g 4 = g' 4) : ∀ i, i < 5 → g i = g' i := by
  intro i hi
  obtain rfl | rfl | rfl | rfl | rfl : i = 0 ∨ i = 1 ∨ i = 2 ∨ i = 3 ∨ i = 4 := by omega
  · exact h0
  · exact h1
  · exact h2
  · exact h3
  · exact h4
theorem f10_fn : Tryz.cfg.fn 10 = some Tryz.f10 := by kernel_rfl
set_option maxHeartbeats 4000000 in
set_option maxRecDepth 100000 in
theorem program_ev (seq : Int) (val : Bool) (fuel : Int) (a1 a2 a3 a4 a5 : Option Addr) (n1 n2 n3 n4 n5 z1 z2 z3 z4 z5 : Nat) (r1 r2 r3 r4 r5 : List Value) (m1 m2 m3 m4 m5 : Nat)
    (d1 : Slot 0 6 m1 n1 z1 a1) (d2 : Slot 1 2 m2 n2 z2 a2) (d3 : Slot 2 3 m3 n3 z3 a3) (d4 : Slot 3 2 m4 n4 z4 a4) (d5 : Slot 4 4 m5 n5 z5 a5)
    (l1 : r1.length = n1 * 6) (l2 : r2.length = n2 * 2) (l3 : r3.length = n3 * 3) (l4 : r4.length = n4 * 2) (l5 : r5.length = n5 * 4)
    (p1 : r1.all plainC = true) (p2 : r2.all plainC = true) (p3 : r3.all plainC = true) (p4 : r4.all plainC = true) (p5 : r5.all plainC = true)
    (b1 : n1 ≤ 33) (b2 : n2 ≤ 20) (b3 : n3 ≤ 20) (b4 : n4 ≤ 20) (b5 : n5 ≤ 30) :
   EvF Tryz.cfg 10 [.agg (recCells seq val fuel a1 a2 a3 a4 a5 n1 n2 n3 n4 n5 z1 z2 z3 z4 z5).toArray] (rows r1 r2 r3 r4 r5 m1 m2 m3 m4 m5)
     fun v s' => s'.n ≤ 13 ∧ (∀ i, i < 5 → s'.get i = (rows r1 r2 r3 r4 r5 m1 m2 m3 m4 m5).get i) ∧ Sub (idR 5) v (.agg #[.int .i64 seq, .bool val, .int .i64 fuel, .chan (some 0), .chan (some 0), .chan (some 0), .chan (some 0), .chan (some 0)]) := by
  refine ev_call f10_fn rfl ?_
  repeat' (with_reducible first | refine ev_seq ?_ | refine ev_block ?_ | refine ev_loop ?_ | refine ev_skip ?_ | refine ev_scope ?_)
  refine ev_regionK 300 (by kernel_rfl) ?_
  repeat' (with_reducible first | refine ev_seq ?_ | refine ev_block ?_ | refine ev_loop ?_ | refine ev_skip ?_ | refine ev_scope ?_)
  refine ev_regionK 300 (by kernel_rfl) ?_
  repeat' (with_reducible first | refine ev_seq ?_ | refine ev_block ?_ | refine ev_loop ?_ | refine ev_skip ?_ | refine ev_scope ?_)
  refine ev_region ?_
  refine evl_chunk 300 4 (by kernel_rfl) ?_
  refine evl_append 22 6 48 8 n1 (.slice a1 n1 z1) r1 (by kernel_rfl) (by kernel_rfl) (by kernel_rfl) (by kernel_rfl) (by kernel_rfl) (by kernel_rfl) (firstV_slot (k := 0) (mv := m1) (by kernel_rfl) l1 d1) (plain_one p1) (by omega) (fun h => List.length_eq_zero_iff.1 (by simp [l1, h])) ?_
  refine evl_all 300 (by kernel_rfl) ?_
  repeat' (with_reducible first | refine ev_seq ?_ | refine ev_block ?_ | refine ev_loop ?_ | refine ev_skip ?_ | refine ev_scope ?_)
  refine ev_draw ?_
  refine evd_chunk 300 4 (by kernel_rfl) ?_
  refine evd_append 25 2 16 9 n2 (.slice a2 n2 z2) r2 (d := (0, .move (.tmp 0), ⟨0, .e⟩, undef)) (by kernel_rfl) (by kernel_rfl) (fun rc => by kernel_rfl) (by kernel_rfl) (by kernel_rfl) (by kernel_rfl) (by kernel_rfl) (by kernel_rfl) (firstV_slot (k := 1) (mv := m2) (by kernel_rfl) l2 d2) (plain_one p2) (by omega) (fun h => List.length_eq_zero_iff.1 (by simp [l2, h])) (fun j hj => ?_) ?_
  · obtain rfl := length_le_one hj (by kernel_rfl)
    · exact .inr (read_again (by kernel_rfl) (by kernel_rfl))
  refine evd_chunk 300 3 (by kernel_rfl) ?_
  refine evd_readK (d := (0, St.empty 0, St.empty 0)) (by kernel_rfl) (by kernel_rfl) (fun rc => by kernel_rfl) (by kernel_rfl) (fun j hj => ?_) ?_
  · obtain rfl := length_le_one hj (by kernel_rfl)
    · exact .inr (read_again (by kernel_rfl) (by kernel_rfl))
  refine evd_append 26 3 24 10 n3 (.slice a3 n3 z3) r3 (d := (0, .move (.tmp 0), ⟨0, .e⟩, undef)) (by kernel_rfl) (by kernel_rfl) (fun rc => by kernel_rfl) (by kernel_rfl) (by kernel_rfl) (by kernel_rfl) (by kernel_rfl) (by kernel_rfl) (firstV_slot (k := 2) (mv := m3) (by kernel_rfl) l3 d3) (plain_one p3) (by omega) (fun h => List.length_eq_zero_iff.1 (by simp [l3, h])) (fun j hj => ?_) ?_
  · obtain rfl | rfl := length_le_two hj (by kernel_rfl)
    · exact .inr (read_again (by kernel_rfl) (by kernel_rfl))
    · exact .inr (read_again (by kernel_rfl) (by kernel_rfl))
  refine evd_chunk 300 3 (by kernel_rfl) ?_
  refine evd_readK (d := (0, St.empty 0, St.empty 0)) (by kernel_rfl) (by kernel_rfl) (fun rc => by kernel_rfl) (by kernel_rfl) (fun j hj => ?_) ?_
  · obtain rfl | rfl := length_le_two hj (by kernel_rfl)
    · exact .inr (read_again (by kernel_rfl) (by kernel_rfl))
    · exact .inr (read_again (by kernel_rfl) (by kernel_rfl))
  refine evd_append 25 2 16 11 n4 (.slice a4 n4 z4) r4 (d := (0, .move (.tmp 0), ⟨0, .e⟩, undef)) (by kernel_rfl) (by kernel_rfl) (fun rc => by kernel_rfl) (by kernel_rfl) (by kernel_rfl) (by kernel_rfl) (by kernel_rfl) (by kernel_rfl) (firstV_slot (k := 3) (mv := m4) (by kernel_rfl) l4 d4) (plain_one p4) (by omega) (fun h => List.length_eq_zero_iff.1 (by simp [l4, h])) (fun j hj => ?_) ?_
  · obtain rfl | rfl | rfl := length_le_three hj (by kernel_rfl)
    · exact .inr (read_again (by kernel_rfl) (by kernel_rfl))
    · exact .inr (read_again (by kernel_rfl) (by kernel_rfl))
    · exact .inr (read_again (by kernel_rfl) (by kernel_rfl))
  refine evd_chunk 300 2 (by kernel_rfl) ?_
  refine evd_effK (d := (0, .move (.tmp 0), ⟨0, .e⟩, undef)) (by kernel_rfl) (by kernel_rfl) (fun rc => by kernel_rfl) (by kernel_rfl) (by kernel_rfl) (fun j hj => ?_) ?_
  · obtain rfl | rfl | rfl := length_le_three hj (by kernel_rfl)
    · exact .inr (read_again (by kernel_rfl) (by kernel_rfl))
    · exact .inr (read_again (by kernel_rfl) (by kernel_rfl))
    · exact .inr (read_again (by kernel_rfl) (by kernel_rfl))
  refine evd_nil ?_
  repeat' (with_reducible first | refine ev_seq ?_ | refine ev_block ?_ | refine ev_loop ?_ | refine ev_skip ?_ | refine ev_scope ?_)
  refine ev_region ?_
  refine evl_chunk 300 3 (by kernel_rfl) ?_
  refine evl_append 29 4 32 12 n5 (.slice a5 n5 z5) r5 (by kernel_rfl) (by kernel_rfl) (by kernel_rfl) (by kernel_rfl) (by kernel_rfl) (by kernel_rfl) (firstV_slot (k := 4) (mv := m5) (by kernel_rfl) l5 d5) (plain_one p5) (by omega) (fun h => List.length_eq_zero_iff.1 (by simp [l5, h])) ?_
  refine evl_all 300 (by kernel_rfl) ?_
  repeat' (with_reducible first | refine ev_seq ?_ | refine ev_block ?_ | refine ev_loop ?_ | refine ev_skip ?_ | refine ev_scope ?_)
  refine ev_regionK 300 (by kernel_rfl) ?_
  repeat' (with_reducible first | refine ev_seq ?_ | refine ev_block ?_ | refine ev_loop ?_ | refine ev_skip ?_ | refine ev_scope ?_)
  refine ev_ret ?_
  refine ⟨[.agg #[.int .i64 seq, .bool val, .int .i64 fuel, .slice (some ⟨8, 0, some (n1 * 6)⟩) n1 6, .slice (some ⟨9, 0, some (n2 * 2)⟩) n2 2, .slice (some ⟨10, 0, some (n3 * 3)⟩) n3 3, .slice (some ⟨11, 0, some (n4 * 2)⟩) n4 2, .slice (some ⟨12, 0, some (n5 * 4)⟩) n5 4]], by kernel_rfl, Nat.le_of_ble_eq_true (by kernel_rfl), upto5 (by kernel_rfl) (by kernel_rfl) (by kernel_rfl) (by kernel_rfl) (by kernel_rfl), ?_⟩
  · exact .agg (.cons (.int _ _) (.cons (.bool _) (.cons (.int _ _) (.cons (.junk 0 rfl) (.cons (.junk 0 rfl) (.cons (.junk 0 rfl) (.cons (.junk 0 rfl) (.cons (.junk 0 rfl) .nil))))))))
end Go.Proofs.YtbhgimlpmaaalaaGreat
