/- One round of 'large'. -/
import Derived.Test.YtfnbgfmmlgbfjaaGreatDoorAiLoop
import Derived.Test.YtfnbgfmmlgbfjaaGreatDoorBase
namespace Go.Proofs.YtfnbgfmmlgbfjaaGreatDoor
open Go.Ai
/-- the list's row, a record's rows -/
def rows6 (r0 r1 r2 r3 r4 r5 : List Value) (m0 m1 m2 m3 m4 m5 : Nat) : St :=
  ((((((St.empty 0).new (.arr r0 m0 true)).new (.arr r1 m1 true)).new (.arr r2 m2 true)).new (.arr r3 m3 true)).new (.arr r4 m4 true)).new (.arr r5 m5 true)
theorem f7_fn : Tryz.cfg.fn 7 = some Tryz.f7 := by kernel_rfl
noncomputable def largeBody : Code := (loopIn (Tryz.f7.body.getD .skip)).getD .skip
/-- the frame at the head of the rounds -/
def lEnv (d : Nat → Value) (lv : Value) (n i : Nat) : Env := mkEnv 61 fun j => bif Nat.beq j 17 then lv else bif Nat.beq j 18 then .int .i64 n else bif Nat.beq j 19 then .int .i64 i else d j
/-- behind a round -/
def LQ (lv : Value) (n i : Nat) (b : Bool) (s : St) (o : Out) (e1 : Env) (s1 : St) : Prop := e1.n = 61 ∧ s1.n ≤ 7 ∧ (∀ j, j < 6 → s1.get j = s.get j) ∧
  ((o = .exit 0 ∧ n ≤ i) ∨ (i < n ∧ o = .ret ∧ e1.get 6 = .bool true ∧ (decide ((i : Int) > 10) || b) = true) ∨ (i < n ∧ o = .normal ∧ (decide ((i : Int) > 10) || b) = false ∧ e1.get 17 = lv ∧ e1.get 18 = .int .i64 n ∧ e1.get 19 = .int .i64 (IntKind.wrap .i64 ((i : Int) + 1))))
theorem upto6 {α : Type} {g g' : Nat → α} (h0 : g 0 = g' 0) (h1 : g 1 = g' 1) (h2 : g 2 = g' 2) (h3 : g 3 = g' 3) (h4 : g 4 = g' 4) (h5 : g 5 = g' 5) : ∀ i, i < 6 → g i = g' i := by
  intro i hi
  obtain rfl | rfl | rfl | rfl | rfl | rfl : i = 0 ∨ i = 1 ∨ i = 2 ∨ i = 3 ∨ i = 4 ∨ i = 5 := by omega
  · exact h0
  · exact h1
  · exact h2
  · exact h3
  · exact h4
  · exact h5
set_option maxHeartbeats 4000000 in
set_option maxRecDepth 100000 in
theorem large_body (d : Nat → Value) (n i m0 : Nat) (A B : List Value) (seq : Int) (val : Bool) (fuel : Int) (a1 a2 a3 a4 a5 : Option Addr) (n1 n2 n3 n4 n5 z1 z2 z3 z4 z5 : Nat) (r1 r2 r3 r4 r5 : List Value) (m1 m2 m3 m4 m5 : Nat)
    (hA : A.length = i * 8) (hB : A.length + (recCells seq val fuel a1 a2 a3 a4 a5 n1 n2 n3 n4 n5 z1 z2 z3 z4 z5).length + B.length = n * 8) (hi : i < n) (hm : m0 = if n = 0 then 1 else 0) :
   EvC Tryz.cfg 7 largeBody (lEnv d (.slice (some ⟨0, 0, some (n * 8)⟩) n 8) n i) (rows6 (oneRow A (recCells seq val fuel a1 a2 a3 a4 a5 n1 n2 n3 n4 n5 z1 z2 z3 z4 z5) B) r1 r2 r3 r4 r5 m0 m1 m2 m3 m4 m5)
     (LQ (.slice (some ⟨0, 0, some (n * 8)⟩) n 8) n i (bigRec n1 n2 n3 n4 n5) (rows6 (oneRow A (recCells seq val fuel a1 a2 a3 a4 a5 n1 n2 n3 n4 n5 z1 z2 z3 z4 z5) B) r1 r2 r3 r4 r5 m0 m1 m2 m3 m4 m5)) := by
  refine ev_seq ?_
  repeat' (with_reducible first | refine ev_seq ?_ | refine ev_block ?_ | refine ev_loop ?_ | refine ev_skip ?_ | refine ev_scope ?_)
  refine ev_region ?_
  refine evl_test (by kernel_rfl) (by kernel_rfl) (by kernel_rfl) (fun hc => ?_) (fun hc => ?_)
  · refine evl_nil ?_
    repeat' (with_reducible first | refine ev_seq ?_ | refine ev_block ?_ | refine ev_loop ?_ | refine ev_skip ?_ | refine ev_scope ?_)
    refine ev_true (by kernel_rfl) ?_
    repeat' (with_reducible first | refine ev_seq ?_ | refine ev_block ?_ | refine ev_loop ?_ | refine ev_skip ?_ | refine ev_scope ?_)
    refine ev_region ?_
    refine evl_chunk 300 1 (by kernel_rfl) ?_
    refine evl_map (indexAddrV Tryz.cfg 22 (.slice (some ⟨0, 0, some (n * 8)⟩) n 8) (.int .i64 i)) _ (by kernel_rfl) (by kernel_rfl) (by kernel_rfl) (index_slice (by kernel_rfl) hi) ?_
    refine evl_map (loadV Tryz.cfg (rows6 (oneRow A (recCells seq val fuel a1 a2 a3 a4 a5 n1 n2 n3 n4 n5 z1 z2 z3 z4 z5) B) r1 r2 r3 r4 r5 m0 m1 m2 m3 m4 m5) 94 (.pointer (some (Addr.plus ⟨0, 0, some (n * 8)⟩ (i * 8))))) _ (by kernel_rfl) (by kernel_rfl) (by kernel_rfl) (load_one (ro := true) (by kernel_rfl) (by kernel_rfl) hA rfl hB hi hm) ?_
    refine evl_all 300 (by kernel_rfl) ?_
    repeat' (with_reducible first | refine ev_seq ?_ | refine ev_block ?_ | refine ev_loop ?_ | refine ev_skip ?_ | refine ev_scope ?_)
    refine ev_region ?_
    refine evl_chunk 300 1 (by kernel_rfl) ?_
    refine evl_test (by kernel_rfl) (by kernel_rfl) (by kernel_rfl) (fun h0 => ?_) (fun h0 => ?_)
    · refine evl_all 300 (by kernel_rfl) ?_
      repeat' (with_reducible first | refine ev_seq ?_ | refine ev_block ?_ | refine ev_loop ?_ | refine ev_skip ?_ | refine ev_scope ?_)
      refine ev_true (by kernel_rfl) ?_
      repeat' (with_reducible first | refine ev_seq ?_ | refine ev_block ?_ | refine ev_loop ?_ | refine ev_skip ?_ | refine ev_scope ?_)
      refine ev_regionK 300 (by kernel_rfl) ?_
      repeat' (with_reducible first | refine ev_seq ?_ | refine ev_block ?_ | refine ev_loop ?_ | refine ev_skip ?_ | refine ev_scope ?_)
      refine ev_ret ?_
      have c0 : decide ((i : Int) > 10) = true := Eq.trans (by kernel_rfl) h0
      exact ⟨by kernel_rfl, Nat.le_of_ble_eq_true (by kernel_rfl), upto6 (by kernel_rfl) (by kernel_rfl) (by kernel_rfl) (by kernel_rfl) (by kernel_rfl) (by kernel_rfl), .inr (.inl ⟨hi, rfl, by kernel_rfl, by simp [bigRec, c0]⟩)⟩
    ·
      refine evl_chunk 300 5 (by kernel_rfl) ?_
      refine evl_test (by kernel_rfl) (by kernel_rfl) (by kernel_rfl) (fun h1 => ?_) (fun h1 => ?_)
      · refine evl_all 300 (by kernel_rfl) ?_
        repeat' (with_reducible first | refine ev_seq ?_ | refine ev_block ?_ | refine ev_loop ?_ | refine ev_skip ?_ | refine ev_scope ?_)
        refine ev_true (by kernel_rfl) ?_
        repeat' (with_reducible first | refine ev_seq ?_ | refine ev_block ?_ | refine ev_loop ?_ | refine ev_skip ?_ | refine ev_scope ?_)
        refine ev_regionK 300 (by kernel_rfl) ?_
        repeat' (with_reducible first | refine ev_seq ?_ | refine ev_block ?_ | refine ev_loop ?_ | refine ev_skip ?_ | refine ev_scope ?_)
        refine ev_ret ?_
        have c1 : decide ((n1 : Int) > 33) = true := Eq.trans (by kernel_rfl) h1
        exact ⟨by kernel_rfl, Nat.le_of_ble_eq_true (by kernel_rfl), upto6 (by kernel_rfl) (by kernel_rfl) (by kernel_rfl) (by kernel_rfl) (by kernel_rfl) (by kernel_rfl), .inr (.inl ⟨hi, rfl, by kernel_rfl, by simp [bigRec, c1]⟩)⟩
      ·
        refine evl_chunk 300 6 (by kernel_rfl) ?_
        refine evl_test (by kernel_rfl) (by kernel_rfl) (by kernel_rfl) (fun h2 => ?_) (fun h2 => ?_)
        · refine evl_all 300 (by kernel_rfl) ?_
          repeat' (with_reducible first | refine ev_seq ?_ | refine ev_block ?_ | refine ev_loop ?_ | refine ev_skip ?_ | refine ev_scope ?_)
          refine ev_true (by kernel_rfl) ?_
          repeat' (with_reducible first | refine ev_seq ?_ | refine ev_block ?_ | refine ev_loop ?_ | refine ev_skip ?_ | refine ev_scope ?_)
          refine ev_regionK 300 (by kernel_rfl) ?_
          repeat' (with_reducible first | refine ev_seq ?_ | refine ev_block ?_ | refine ev_loop ?_ | refine ev_skip ?_ | refine ev_scope ?_)
          refine ev_ret ?_
          have c2 : decide ((n2 : Int) > 12) = true := Eq.trans (by kernel_rfl) h2
          exact ⟨by kernel_rfl, Nat.le_of_ble_eq_true (by kernel_rfl), upto6 (by kernel_rfl) (by kernel_rfl) (by kernel_rfl) (by kernel_rfl) (by kernel_rfl) (by kernel_rfl), .inr (.inl ⟨hi, rfl, by kernel_rfl, by simp [bigRec, c2]⟩)⟩
        ·
          refine evl_chunk 300 6 (by kernel_rfl) ?_
          refine evl_test (by kernel_rfl) (by kernel_rfl) (by kernel_rfl) (fun h3 => ?_) (fun h3 => ?_)
          · refine evl_all 300 (by kernel_rfl) ?_
            repeat' (with_reducible first | refine ev_seq ?_ | refine ev_block ?_ | refine ev_loop ?_ | refine ev_skip ?_ | refine ev_scope ?_)
            refine ev_true (by kernel_rfl) ?_
            repeat' (with_reducible first | refine ev_seq ?_ | refine ev_block ?_ | refine ev_loop ?_ | refine ev_skip ?_ | refine ev_scope ?_)
            refine ev_regionK 300 (by kernel_rfl) ?_
            repeat' (with_reducible first | refine ev_seq ?_ | refine ev_block ?_ | refine ev_loop ?_ | refine ev_skip ?_ | refine ev_scope ?_)
            refine ev_ret ?_
            have c3 : decide ((n3 : Int) > 12) = true := Eq.trans (by kernel_rfl) h3
            exact ⟨by kernel_rfl, Nat.le_of_ble_eq_true (by kernel_rfl), upto6 (by kernel_rfl) (by kernel_rfl) (by kernel_rfl) (by kernel_rfl) (by kernel_rfl) (by kernel_rfl), .inr (.inl ⟨hi, rfl, by kernel_rfl, by simp [bigRec, c3]⟩)⟩
          ·
            refine evl_chunk 300 6 (by kernel_rfl) ?_
            refine evl_test (by kernel_rfl) (by kernel_rfl) (by kernel_rfl) (fun h4 => ?_) (fun h4 => ?_)
            · refine evl_all 300 (by kernel_rfl) ?_
              repeat' (with_reducible first | refine ev_seq ?_ | refine ev_block ?_ | refine ev_loop ?_ | refine ev_skip ?_ | refine ev_scope ?_)
              refine ev_true (by kernel_rfl) ?_
              repeat' (with_reducible first | refine ev_seq ?_ | refine ev_block ?_ | refine ev_loop ?_ | refine ev_skip ?_ | refine ev_scope ?_)
              refine ev_regionK 300 (by kernel_rfl) ?_
              repeat' (with_reducible first | refine ev_seq ?_ | refine ev_block ?_ | refine ev_loop ?_ | refine ev_skip ?_ | refine ev_scope ?_)
              refine ev_ret ?_
              have c4 : decide ((n4 : Int) > 12) = true := Eq.trans (by kernel_rfl) h4
              exact ⟨by kernel_rfl, Nat.le_of_ble_eq_true (by kernel_rfl), upto6 (by kernel_rfl) (by kernel_rfl) (by kernel_rfl) (by kernel_rfl) (by kernel_rfl) (by kernel_rfl), .inr (.inl ⟨hi, rfl, by kernel_rfl, by simp [bigRec, c4]⟩)⟩
            ·
              refine evl_chunk 300 5 (by kernel_rfl) ?_
              refine evl_test (by kernel_rfl) (by kernel_rfl) (by kernel_rfl) (fun h5 => ?_) (fun h5 => ?_)
              · refine evl_all 300 (by kernel_rfl) ?_
                repeat' (with_reducible first | refine ev_seq ?_ | refine ev_block ?_ | refine ev_loop ?_ | refine ev_skip ?_ | refine ev_scope ?_)
                refine ev_true (by kernel_rfl) ?_
                repeat' (with_reducible first | refine ev_seq ?_ | refine ev_block ?_ | refine ev_loop ?_ | refine ev_skip ?_ | refine ev_scope ?_)
                refine ev_regionK 300 (by kernel_rfl) ?_
                repeat' (with_reducible first | refine ev_seq ?_ | refine ev_block ?_ | refine ev_loop ?_ | refine ev_skip ?_ | refine ev_scope ?_)
                refine ev_ret ?_
                have c5 : decide ((n5 : Int) > 14) = true := Eq.trans (by kernel_rfl) h5
                exact ⟨by kernel_rfl, Nat.le_of_ble_eq_true (by kernel_rfl), upto6 (by kernel_rfl) (by kernel_rfl) (by kernel_rfl) (by kernel_rfl) (by kernel_rfl) (by kernel_rfl), .inr (.inl ⟨hi, rfl, by kernel_rfl, by simp [bigRec, c5]⟩)⟩
              ·
                refine evl_all 300 (by kernel_rfl) ?_
                repeat' (with_reducible first | refine ev_seq ?_ | refine ev_block ?_ | refine ev_loop ?_ | refine ev_skip ?_ | refine ev_scope ?_)
                refine ev_false (by kernel_rfl) ?_
                repeat' (with_reducible first | refine ev_seq ?_ | refine ev_block ?_ | refine ev_loop ?_ | refine ev_skip ?_ | refine ev_scope ?_)
                refine ev_regionK 300 (by kernel_rfl) ?_
                have c0 : decide ((i : Int) > 10) = false := Eq.trans (by kernel_rfl) h0
                have c1 : decide ((n1 : Int) > 33) = false := Eq.trans (by kernel_rfl) h1
                have c2 : decide ((n2 : Int) > 12) = false := Eq.trans (by kernel_rfl) h2
                have c3 : decide ((n3 : Int) > 12) = false := Eq.trans (by kernel_rfl) h3
                have c4 : decide ((n4 : Int) > 12) = false := Eq.trans (by kernel_rfl) h4
                have c5 : decide ((n5 : Int) > 14) = false := Eq.trans (by kernel_rfl) h5
                exact ⟨by kernel_rfl, Nat.le_of_ble_eq_true (by kernel_rfl), upto6 (by kernel_rfl) (by kernel_rfl) (by kernel_rfl) (by kernel_rfl) (by kernel_rfl) (by kernel_rfl), .inr (.inr ⟨hi, rfl, by simp [bigRec, c0, c1, c2, c3, c4, c5], by kernel_rfl, by kernel_rfl, by kernel_rfl⟩)⟩
  · exfalso
    have c : decide ((i : Int) < n) = false := Eq.trans (by kernel_rfl) hc
    have c := of_decide_eq_false c
    omega
set_option maxHeartbeats 4000000 in
set_option maxRecDepth 100000 in
theorem large_end (d : Nat → Value) (n i : Nat) (lv : Value) (r0 r1 r2 r3 r4 r5 : List Value) (m0 m1 m2 m3 m4 m5 : Nat) (hi : n ≤ i) (b : Bool) :
   EvC Tryz.cfg 7 largeBody (lEnv d lv n i) (rows6 r0 r1 r2 r3 r4 r5 m0 m1 m2 m3 m4 m5) (LQ lv n i b (rows6 r0 r1 r2 r3 r4 r5 m0 m1 m2 m3 m4 m5)) := by
  refine ev_seq ?_
  repeat' (with_reducible first | refine ev_seq ?_ | refine ev_block ?_ | refine ev_loop ?_ | refine ev_skip ?_ | refine ev_scope ?_)
  refine ev_region ?_
  refine evl_test (by kernel_rfl) (by kernel_rfl) (by kernel_rfl) (fun hc => ?_) (fun hc => ?_)
  · exfalso
    have c : decide ((i : Int) < n) = true := Eq.trans (by kernel_rfl) hc
    have c := of_decide_eq_true c
    omega
  · refine evl_nil ?_
    repeat' (with_reducible first | refine ev_seq ?_ | refine ev_block ?_ | refine ev_loop ?_ | refine ev_skip ?_ | refine ev_scope ?_)
    refine ev_false (by kernel_rfl) ?_
    refine ev_exit ?_
    exact ⟨by kernel_rfl, Nat.le_of_ble_eq_true (by kernel_rfl), fun _ _ => rfl, .inl ⟨rfl, hi⟩⟩
end Go.Proofs.YtfnbgfmmlgbfjaaGreatDoor
