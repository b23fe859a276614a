/- One round of 'program'. -/
import Derived.Test.YtfnbgfmmlgbfjaaGreatDoorLarge
namespace Go.Proofs.YtfnbgfmmlgbfjaaGreatDoor
open Go.Ai
/-- the list's row, a record's rows, the copies so far -/
def rows7 (r0 r1 r2 r3 r4 r5 : List Value) (m0 m1 m2 m3 m4 m5 : Nat) (row : List Value) : St := (rows6 r0 r1 r2 r3 r4 r5 m0 m1 m2 m3 m4 m5).new (.arr row 0 false)
theorem f9_fn : Tryz.cfg.fn 9 = some Tryz.f9 := by kernel_rfl
noncomputable def progBody : Code := (loopIn (Tryz.f9.body.getD .skip)).getD .skip
def outS (id i : Nat) : Value := .slice (some ⟨id, 0, some (i * 8)⟩) i 8
/-- the frame at the head of the rounds -/
def pEnv (d : Nat → Value) (lv ov : Value) (n i : Nat) : Env := mkEnv 50 fun j => bif Nat.beq j 3 then ov else bif Nat.beq j 8 then lv else bif Nat.beq j 9 then .int .i64 n else bif Nat.beq j 10 then .int .i64 i else d j
/-- behind a round -/
def PQ (lv : Value) (n i : Nat) (row : List Value) (o : Out) (e1 : Env) (s1 : St) : Prop := e1.n = 50 ∧ s1.n ≤ 15 ∧
  ((o = .exit 0 ∧ n ≤ i ∧ e1.get 3 = outS 6 i ∧ s1.get 6 = some (.arr row 0 false)) ∨ (i < n ∧ o = .normal ∧ e1.get 8 = lv ∧ e1.get 9 = .int .i64 n ∧ e1.get 10 = .int .i64 (IntKind.wrap .i64 ((i : Int) + 1)) ∧
    e1.get 3 = .slice (some ⟨6, 0, some (i * 8 + 1 * 8)⟩) (i + 1) 8 ∧ ∃ more, more.length = 8 ∧ s1.get 6 = some (.arr (row ++ more) 0 false)))
set_option maxHeartbeats 4000000 in
set_option maxRecDepth 100000 in
theorem prog_body (d : Nat → Value) (n i m0 : Nat) (A B row : List Value) (seq : Int) (val : Bool) (fuel : Int) (a1 a2 a3 a4 a5 : Option Addr) (n1 n2 n3 n4 n5 z1 z2 z3 z4 z5 : Nat) (r1 r2 r3 r4 r5 : List Value) (m1 m2 m3 m4 m5 : Nat)
    (hA : A.length = i * 8) (hB : A.length + (recCells seq val fuel a1 a2 a3 a4 a5 n1 n2 n3 n4 n5 z1 z2 z3 z4 z5).length + B.length = n * 8) (hi : i < n) (hm : m0 = if n = 0 then 1 else 0) (hrow : row.length = i * 8) (h10 : i ≤ 1000)
    (d1 : SlotS 1 6 m1 r1 n1 z1 a1) (d2 : SlotS 2 2 m2 r2 n2 z2 a2) (d3 : SlotS 3 3 m3 r3 n3 z3 a3) (d4 : SlotS 4 2 m4 r4 n4 z4 a4) (d5 : SlotS 5 4 m5 r5 n5 z5 a5) (b1 : n1 ≤ 33) (b2 : n2 ≤ 33) (b3 : n3 ≤ 33) (b4 : n4 ≤ 33) (b5 : n5 ≤ 33) :
   EvC Tryz.cfg 9 progBody (pEnv d (.slice (some ⟨0, 0, some (n * 8)⟩) n 8) (outS 6 i) n i) (rows7 (oneRow A (recCells seq val fuel a1 a2 a3 a4 a5 n1 n2 n3 n4 n5 z1 z2 z3 z4 z5) B) r1 r2 r3 r4 r5 m0 m1 m2 m3 m4 m5 row)
     (PQ (.slice (some ⟨0, 0, some (n * 8)⟩) n 8) n i row) := by
  refine ev_seq ?_
  repeat' (with_reducible first | refine ev_seq ?_ | refine ev_block ?_ | refine ev_loop ?_ | refine ev_skip ?_ | refine ev_scope ?_)
  refine ev_region ?_
  refine evl_test (by kernel_rfl) (by kernel_rfl) (by kernel_rfl) (fun hc => ?_) (fun hc => ?_)
  · refine evl_nil ?_
    repeat' (with_reducible first | refine ev_seq ?_ | refine ev_block ?_ | refine ev_loop ?_ | refine ev_skip ?_ | refine ev_scope ?_)
    refine ev_true (by kernel_rfl) ?_
    repeat' (with_reducible first | refine ev_seq ?_ | refine ev_block ?_ | refine ev_loop ?_ | refine ev_skip ?_ | refine ev_scope ?_)
    refine ev_region ?_
    refine evl_map (indexAddrV Tryz.cfg 22 (.slice (some ⟨0, 0, some (n * 8)⟩) n 8) (.int .i64 i)) _ (by kernel_rfl) (by kernel_rfl) (by kernel_rfl) (index_slice (by kernel_rfl) hi) ?_
    refine evl_map (loadV Tryz.cfg (rows7 (oneRow A (recCells seq val fuel a1 a2 a3 a4 a5 n1 n2 n3 n4 n5 z1 z2 z3 z4 z5) B) r1 r2 r3 r4 r5 m0 m1 m2 m3 m4 m5 row) 94 (.pointer (some (Addr.plus ⟨0, 0, some (n * 8)⟩ (i * 8))))) _ (by kernel_rfl) (by kernel_rfl) (by kernel_rfl) (load_one (ro := true) (by kernel_rfl) (by kernel_rfl) hA rfl hB hi hm) ?_
    refine evl_all 300 (by kernel_rfl) ?_
    repeat' (with_reducible first | refine ev_seq ?_ | refine ev_block ?_ | refine ev_loop ?_ | refine ev_skip ?_ | refine ev_scope ?_)
    refine ev_regionK 300 (by kernel_rfl) ?_
    repeat' (with_reducible first | refine ev_seq ?_ | refine ev_block ?_ | refine ev_loop ?_ | refine ev_skip ?_ | refine ev_scope ?_)
    refine ev_st (((rows7 (oneRow A (recCells seq val fuel a1 a2 a3 a4 a5 n1 n2 n3 n4 n5 z1 z2 z3 z4 z5) B) r1 r2 r3 r4 r5 m0 m1 m2 m3 m4 m5 row).new (.cells (recCells seq val fuel a1 a2 a3 a4 a5 n1 n2 n3 n4 n5 z1 z2 z3 z4 z5))).new (.cells [.int .i64 seq, .bool val, .int .i64 fuel, .slice a1 n1 z1, .slice a2 n2 z2, .slice a3 n3 z3, .slice a4 n4 z4, .slice a5 n5 z5])) (by kernel_rfl) ?_
    refine ev_region ?_
    refine evl_chunk 300 4 (by kernel_rfl) ?_
    refine evl_append 63 6 48 9 n1 (.slice a1 n1 z1) (slotRow r1 a1) (by kernel_rfl) (by kernel_rfl) (by kernel_rfl) (by kernel_rfl) (by kernel_rfl) (by kernel_rfl) (firstV_slotS (k := 1) (m := m1) (q := r1) (by kernel_rfl) d1) (slotRow_one d1) (by omega) (slotRow_nil d1) ?_
    refine evl_all 300 (by kernel_rfl) ?_
    repeat' (with_reducible first | refine ev_seq ?_ | refine ev_block ?_ | refine ev_loop ?_ | refine ev_skip ?_ | refine ev_scope ?_)
    refine ev_st ((((rows7 (oneRow A (recCells seq val fuel a1 a2 a3 a4 a5 n1 n2 n3 n4 n5 z1 z2 z3 z4 z5) B) r1 r2 r3 r4 r5 m0 m1 m2 m3 m4 m5 row).new (.cells (recCells seq val fuel a1 a2 a3 a4 a5 n1 n2 n3 n4 n5 z1 z2 z3 z4 z5))).new (.cells [.int .i64 seq, .bool val, .int .i64 fuel, .slice (some ⟨9, 0, some (n1 * 6)⟩) n1 6, .slice a2 n2 z2, .slice a3 n3 z3, .slice a4 n4 z4, .slice a5 n5 z5])).new (.arr (slotRow r1 a1) 0 false)) (by kernel_rfl) ?_
    refine ev_draw ?_
    refine evd_chunk 300 4 (by kernel_rfl) ?_
    refine evd_append 88 2 16 10 n2 (.slice a2 n2 z2) (slotRow r2 a2) (d := (0, .move (.tmp 0), ⟨0, .e⟩, undef)) (by kernel_rfl) (by kernel_rfl) (fun rc => by kernel_rfl) (by kernel_rfl) (by kernel_rfl) (by kernel_rfl) (by kernel_rfl) (by kernel_rfl) (firstV_slotS (k := 2) (m := m2) (q := r2) (by kernel_rfl) d2) (slotRow_one d2) (by omega) (slotRow_nil d2) (fun j hj => ?_) ?_
    · obtain rfl := length_le_one hj (by kernel_rfl)
      · exact .inr (read_again (by kernel_rfl) (Eq.trans (b := .slice a2 n2 z2) (by kernel_rfl) (by kernel_rfl)))
    refine evd_chunk 300 3 (by kernel_rfl) ?_
    refine evd_readK (d := (0, St.empty 0, St.empty 0)) (by kernel_rfl) (by kernel_rfl) (fun rc => by kernel_rfl) (by kernel_rfl) (fun j hj => ?_) ?_
    · obtain rfl := length_le_one hj (by kernel_rfl)
      · exact .inr (read_again (by kernel_rfl) (Eq.trans (b := .slice a3 n3 z3) (by kernel_rfl) (by kernel_rfl)))
    refine evd_append 89 3 24 11 n3 (.slice a3 n3 z3) (slotRow r3 a3) (d := (0, .move (.tmp 0), ⟨0, .e⟩, undef)) (by kernel_rfl) (by kernel_rfl) (fun rc => by kernel_rfl) (by kernel_rfl) (by kernel_rfl) (by kernel_rfl) (by kernel_rfl) (by kernel_rfl) (firstV_slotS (k := 3) (m := m3) (q := r3) (by kernel_rfl) d3) (slotRow_one d3) (by omega) (slotRow_nil d3) (fun j hj => ?_) ?_
    · obtain rfl | rfl := length_le_two hj (by kernel_rfl)
      · exact .inr (read_again (by kernel_rfl) (Eq.trans (b := .slice a3 n3 z3) (by kernel_rfl) (by kernel_rfl)))
      · exact .inr (read_again (by kernel_rfl) (Eq.trans (b := .slice a2 n2 z2) (by kernel_rfl) (by kernel_rfl)))
    refine evd_chunk 300 3 (by kernel_rfl) ?_
    refine evd_readK (d := (0, St.empty 0, St.empty 0)) (by kernel_rfl) (by kernel_rfl) (fun rc => by kernel_rfl) (by kernel_rfl) (fun j hj => ?_) ?_
    · obtain rfl | rfl := length_le_two hj (by kernel_rfl)
      · exact .inr (read_again (by kernel_rfl) (Eq.trans (b := .slice a4 n4 z4) (by kernel_rfl) (by kernel_rfl)))
      · exact .inr (read_again (by kernel_rfl) (Eq.trans (b := .slice a4 n4 z4) (by kernel_rfl) (by kernel_rfl)))
    refine evd_append 88 2 16 12 n4 (.slice a4 n4 z4) (slotRow r4 a4) (d := (0, .move (.tmp 0), ⟨0, .e⟩, undef)) (by kernel_rfl) (by kernel_rfl) (fun rc => by kernel_rfl) (by kernel_rfl) (by kernel_rfl) (by kernel_rfl) (by kernel_rfl) (by kernel_rfl) (firstV_slotS (k := 4) (m := m4) (q := r4) (by kernel_rfl) d4) (slotRow_one d4) (by omega) (slotRow_nil d4) (fun j hj => ?_) ?_
    · obtain rfl | rfl | rfl := length_le_three hj (by kernel_rfl)
      · exact .inr (read_again (by kernel_rfl) (Eq.trans (b := .slice a4 n4 z4) (by kernel_rfl) (by kernel_rfl)))
      · exact .inr (read_again (by kernel_rfl) (Eq.trans (b := .slice a3 n3 z3) (by kernel_rfl) (by kernel_rfl)))
      · exact .inr (read_again (by kernel_rfl) (Eq.trans (b := .slice a2 n2 z2) (by kernel_rfl) (by kernel_rfl)))
    refine evd_chunk 300 2 (by kernel_rfl) ?_
    refine evd_effK (d := (0, .move (.tmp 0), ⟨0, .e⟩, undef)) (by kernel_rfl) (by kernel_rfl) (fun rc => by kernel_rfl) (by kernel_rfl) (by kernel_rfl) (fun j hj => ?_) ?_
    · obtain rfl | rfl | rfl := length_le_three hj (by kernel_rfl)
      · exact .inr (read_again (by kernel_rfl) (Eq.trans (b := .slice a4 n4 z4) (by kernel_rfl) (by kernel_rfl)))
      · exact .inr (read_again (by kernel_rfl) (Eq.trans (b := .slice a3 n3 z3) (by kernel_rfl) (by kernel_rfl)))
      · exact .inr (read_again (by kernel_rfl) (Eq.trans (b := .slice a2 n2 z2) (by kernel_rfl) (by kernel_rfl)))
    refine evd_nil ?_
    repeat' (with_reducible first | refine ev_seq ?_ | refine ev_block ?_ | refine ev_loop ?_ | refine ev_skip ?_ | refine ev_scope ?_)
    refine ev_st (((((((rows7 (oneRow A (recCells seq val fuel a1 a2 a3 a4 a5 n1 n2 n3 n4 n5 z1 z2 z3 z4 z5) B) r1 r2 r3 r4 r5 m0 m1 m2 m3 m4 m5 row).new (.cells (recCells seq val fuel a1 a2 a3 a4 a5 n1 n2 n3 n4 n5 z1 z2 z3 z4 z5))).new (.cells [.int .i64 seq, .bool val, .int .i64 fuel, .slice (some ⟨9, 0, some (n1 * 6)⟩) n1 6, .slice (some ⟨10, 0, some (n2 * 2)⟩) n2 2, .slice (some ⟨11, 0, some (n3 * 3)⟩) n3 3, .slice (some ⟨12, 0, some (n4 * 2)⟩) n4 2, .slice a5 n5 z5])).new (.arr (slotRow r1 a1) 0 false)).new (.arr (slotRow r2 a2) 0 false)).new (.arr (slotRow r3 a3) 0 false)).new (.arr (slotRow r4 a4) 0 false)) (by kernel_rfl) ?_
    refine ev_region ?_
    refine evl_chunk 300 3 (by kernel_rfl) ?_
    refine evl_append 84 4 32 13 n5 (.slice a5 n5 z5) (slotRow r5 a5) (by kernel_rfl) (by kernel_rfl) (by kernel_rfl) (by kernel_rfl) (by kernel_rfl) (by kernel_rfl) (firstV_slotS (k := 5) (m := m5) (q := r5) (by kernel_rfl) d5) (slotRow_one d5) (by omega) (slotRow_nil d5) ?_
    refine evl_all 300 (by kernel_rfl) ?_
    repeat' (with_reducible first | refine ev_seq ?_ | refine ev_block ?_ | refine ev_loop ?_ | refine ev_skip ?_ | refine ev_scope ?_)
    refine ev_st ((((((((rows7 (oneRow A (recCells seq val fuel a1 a2 a3 a4 a5 n1 n2 n3 n4 n5 z1 z2 z3 z4 z5) B) r1 r2 r3 r4 r5 m0 m1 m2 m3 m4 m5 row).new (.cells (recCells seq val fuel a1 a2 a3 a4 a5 n1 n2 n3 n4 n5 z1 z2 z3 z4 z5))).new (.cells [.int .i64 seq, .bool val, .int .i64 fuel, .slice (some ⟨9, 0, some (n1 * 6)⟩) n1 6, .slice (some ⟨10, 0, some (n2 * 2)⟩) n2 2, .slice (some ⟨11, 0, some (n3 * 3)⟩) n3 3, .slice (some ⟨12, 0, some (n4 * 2)⟩) n4 2, .slice (some ⟨13, 0, some (n5 * 4)⟩) n5 4])).new (.arr (slotRow r1 a1) 0 false)).new (.arr (slotRow r2 a2) 0 false)).new (.arr (slotRow r3 a3) 0 false)).new (.arr (slotRow r4 a4) 0 false)).new (.arr (slotRow r5 a5) 0 false)) (by kernel_rfl) ?_
    refine ev_region ?_
    refine evl_chunk 300 3 (by kernel_rfl) ?_
    refine evl_more 30 8 144 6 i (i * 8) 1 (.slice (some ⟨14, 0, some 8⟩) 1 8) row [.int .i64 seq, .bool val, .int .i64 fuel, .slice (some ⟨9, 0, some (n1 * 6)⟩) n1 6, .slice (some ⟨10, 0, some (n2 * 2)⟩) n2 2, .slice (some ⟨11, 0, some (n3 * 3)⟩) n3 3, .slice (some ⟨12, 0, some (n4 * 2)⟩) n4 2, .slice (some ⟨13, 0, some (n5 * 4)⟩) n5 4] (by kernel_rfl) (by kernel_rfl) (by kernel_rfl) (by kernel_rfl) (by kernel_rfl) hrow.symm hrow.symm (by kernel_rfl) (by kernel_rfl) (by kernel_rfl) (by omega) (fun h => by omega) ?_
    refine evl_all 300 (by kernel_rfl) ?_
    repeat' (with_reducible first | refine ev_seq ?_ | refine ev_block ?_ | refine ev_loop ?_ | refine ev_skip ?_ | refine ev_scope ?_)
    refine ev_regionK 300 (by kernel_rfl) ?_
    exact ⟨by kernel_rfl, Nat.le_of_ble_eq_true (by kernel_rfl), .inr ⟨hi, rfl, by kernel_rfl, by kernel_rfl, by kernel_rfl, by kernel_rfl, [.int .i64 seq, .bool val, .int .i64 fuel, .slice (some ⟨9, 0, some (n1 * 6)⟩) n1 6, .slice (some ⟨10, 0, some (n2 * 2)⟩) n2 2, .slice (some ⟨11, 0, some (n3 * 3)⟩) n3 3, .slice (some ⟨12, 0, some (n4 * 2)⟩) n4 2, .slice (some ⟨13, 0, some (n5 * 4)⟩) n5 4], rfl, by kernel_rfl⟩⟩
  · exfalso
    have c : decide ((i : Int) < n) = false := Eq.trans (by kernel_rfl) hc
    have c := of_decide_eq_false c
    omega
set_option maxHeartbeats 4000000 in
set_option maxRecDepth 100000 in
theorem prog_end (d : Nat → Value) (n i : Nat) (lv : Value) (r0 r1 r2 r3 r4 r5 row : List Value) (m0 m1 m2 m3 m4 m5 : Nat) (hi : n ≤ i) :
   EvC Tryz.cfg 9 progBody (pEnv d lv (outS 6 i) n i) (rows7 r0 r1 r2 r3 r4 r5 m0 m1 m2 m3 m4 m5 row) (PQ lv n i row) := by
  refine ev_seq ?_
  repeat' (with_reducible first | refine ev_seq ?_ | refine ev_block ?_ | refine ev_loop ?_ | refine ev_skip ?_ | refine ev_scope ?_)
  refine ev_region ?_
  refine evl_test (by kernel_rfl) (by kernel_rfl) (by kernel_rfl) (fun hc => ?_) (fun hc => ?_)
  · exfalso
    have c : decide ((i : Int) < n) = true := Eq.trans (by kernel_rfl) hc
    have c := of_decide_eq_true c
    omega
  · refine evl_nil ?_
    repeat' (with_reducible first | refine ev_seq ?_ | refine ev_block ?_ | refine ev_loop ?_ | refine ev_skip ?_ | refine ev_scope ?_)
    refine ev_false (by kernel_rfl) ?_
    refine ev_exit ?_
    exact ⟨by kernel_rfl, Nat.le_of_ble_eq_true (by kernel_rfl), .inl ⟨rfl, hi, by kernel_rfl, by kernel_rfl⟩⟩
end Go.Proofs.YtfnbgfmmlgbfjaaGreatDoor
