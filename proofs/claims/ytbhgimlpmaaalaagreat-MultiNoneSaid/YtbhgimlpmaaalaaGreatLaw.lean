/- What the law comes to. -/
import Derived.Test.YtbhgimlpmaaalaaGreatCopy
namespace Go.Proofs.YtbhgimlpmaaalaaGreat
open Go.Ai
def plainRec (seq : Int) (val : Bool) (fuel : Int) : Value := .agg #[.int .i64 seq, .bool val, .int .i64 fuel, .chan (some 0), .chan (some 0), .chan (some 0), .chan (some 0), .chan (some 0)]
def Sp (s5 s0 : St) (rec_ : List Value) (plain : Value) (b : Bool) : Contract := fun (f : FuncId) (args : List Value) (s : St) (v : Value) (s' : St) => (f = 4 ∧ args = [] ∧ v = .bool true ∧ s' = s) ∨
  (f = 5 ∧ args = [.slice (some ⟨6, 0, some 11⟩) 1 11] ∧ (∀ i, i < 7 → s.get i = s5.get i) ∧ 7 ≤ s.n ∧ v = .bool b ∧ s' = s) ∨
  (f = 10 ∧ args = [.agg rec_.toArray] ∧ b = false ∧ (∀ i, i < 5 → s.get i = s0.get i) ∧ 5 ≤ s.n ∧ v = plain ∧ s' = s)
theorem wf_rows (r1 r2 r3 r4 r5 : List Value) (m1 m2 m3 m4 m5 : Nat) : (rows r1 r2 r3 r4 r5 m1 m2 m3 m4 m5).WF := (((((wf_empty 0).new _).new _).new _).new _).new _
theorem slot_sub {k K sz m n z : Nat} {a : Option Addr} (hk : k < K) (h : Slot k sz m n z a) : Sub (idR K) (.slice a n z) (.slice a n z) := by
  rcases h with ⟨rfl, rfl, rfl⟩ | ⟨rfl, rfl, _⟩
  · exact .sliceNil
  · exact .slice ⟨hk, rfl⟩
theorem plain_lit {l : List Value} (h : l.all plainC = true) : l.all litOk = true := by
  rw [List.all_eq_true] at h ⊢
  intro v hv
  have := h v hv
  simp only [plainC, Bool.and_eq_true] at this
  exact this.1
theorem bigs {n1 n2 n3 n4 n5 : Nat} (h : big n1 n2 n3 n4 n5 = false) : n1 ≤ 33 ∧ n2 ≤ 20 ∧ n3 ≤ 20 ∧ n4 ≤ 20 ∧ n5 ≤ 30 := by
  simp only [big, Bool.or_eq_false_iff, decide_eq_false_iff_not] at h
  omega
section
variable {seq : Int} {val : Bool} {fuel : Int} {a1 a2 a3 a4 a5 : Option Addr} {n1 n2 n3 n4 n5 z1 z2 z3 z4 z5 : Nat} {r1 r2 r3 r4 r5 : List Value} {m1 m2 m3 m4 m5 : Nat}
    (d1 : Slot 0 6 m1 n1 z1 a1) (d2 : Slot 1 2 m2 n2 z2 a2) (d3 : Slot 2 3 m3 n3 z3 a3) (d4 : Slot 3 2 m4 n4 z4 a4) (d5 : Slot 4 4 m5 n5 z5 a5)
    (l1 : r1.length = n1 * 6) (l2 : r2.length = n2 * 2) (l3 : r3.length = n3 * 3) (l4 : r4.length = n4 * 2) (l5 : r5.length = n5 * 4)
    (p1 : r1.all plainC = true) (p2 : r2.all plainC = true) (p3 : r3.all plainC = true) (p4 : r4.all plainC = true) (p5 : r5.all plainC = true)
include d1 d2 d3 d4 d5 in
theorem rec_self (K : Nat) (hK : 5 ≤ K) : Subs (idR K) (recCells seq val fuel a1 a2 a3 a4 a5 n1 n2 n3 n4 n5 z1 z2 z3 z4 z5) (recCells seq val fuel a1 a2 a3 a4 a5 n1 n2 n3 n4 n5 z1 z2 z3 z4 z5) :=
  .cons (.int _ _) (.cons (.bool _) (.cons (.int _ _) (.cons (slot_sub (by omega) d1) (.cons (slot_sub (by omega) d2) (.cons (slot_sub (by omega) d3) (.cons (slot_sub (by omega) d4) (.cons (slot_sub (by omega) d5) .nil)))))))
include p1 p2 p3 p4 p5 in
theorem rows_self (K : Nat) : ∀ i, i < 5 → ORel (idR K) ((rows r1 r2 r3 r4 r5 m1 m2 m3 m4 m5).get i) ((rows r1 r2 r3 r4 r5 m1 m2 m3 m4 m5).get i) := by
  intro i hi
  obtain rfl | rfl | rfl | rfl | rfl : i = 0 ∨ i = 1 ∨ i = 2 ∨ i = 3 ∨ i = 4 := by omega
  · rw [show (rows r1 r2 r3 r4 r5 m1 m2 m3 m4 m5).get 0 = some (.arr r1 m1 true) from by kernel_rfl]; exact OSub.arr (subs_lit (plain_lit p1))
  · rw [show (rows r1 r2 r3 r4 r5 m1 m2 m3 m4 m5).get 1 = some (.arr r2 m2 true) from by kernel_rfl]; exact OSub.arr (subs_lit (plain_lit p2))
  · rw [show (rows r1 r2 r3 r4 r5 m1 m2 m3 m4 m5).get 2 = some (.arr r3 m3 true) from by kernel_rfl]; exact OSub.arr (subs_lit (plain_lit p3))
  · rw [show (rows r1 r2 r3 r4 r5 m1 m2 m3 m4 m5).get 3 = some (.arr r4 m4 true) from by kernel_rfl]; exact OSub.arr (subs_lit (plain_lit p4))
  · rw [show (rows r1 r2 r3 r4 r5 m1 m2 m3 m4 m5).get 4 = some (.arr r5 m5 true) from by kernel_rfl]; exact OSub.arr (subs_lit (plain_lit p5))
include d1 d2 d3 d4 d5 l1 l2 l3 l4 l5 p1 p2 p3 p4 p5 in
theorem sp_ok : SpecOk Tryz.prog 0 (Sp (withOp (rows r1 r2 r3 r4 r5 m1 m2 m3 m4 m5) (recCells seq val fuel a1 a2 a3 a4 a5 n1 n2 n3 n4 n5 z1 z2 z3 z4 z5)) (rows r1 r2 r3 r4 r5 m1 m2 m3 m4 m5) (recCells seq val fuel a1 a2 a3 a4 a5 n1 n2 n3 n4 n5 z1 z2 z3 z4 z5) (plainRec seq val fuel) (big n1 n2 n3 n4 n5)) where
  call := by
    rintro f args s v s' (⟨rfl, h2, h3, h4⟩ | ⟨rfl, rfl, hg, hn, rfl, rfl⟩ | ⟨rfl, rfl, hb, hg, hn, rfl, rfl⟩)
    · exact alive_ok.call _ _ _ _ _ ⟨List.mem_singleton.2 rfl, h2, h3, h4⟩
    · refine scf_of_ev Tryz.cfgOk (s0 := withOp (rows r1 r2 r3 r4 r5 m1 m2 m3 m4 m5) (recCells seq val fuel a1 a2 a3 a4 a5 n1 n2 n3 n4 n5 z1 z2 z3 z4 z5)) (k := 7) (N := 9) rfl hn (((wf_rows _ _ _ _ _ _ _ _ _ _).new _).new _) hg (fun i hi => ?_) (.cons (.slice ⟨by omega, rfl⟩) .nil) (long_ev seq val fuel a1 a2 a3 a4 a5 n1 n2 n3 n4 n5 z1 z2 z3 z4 z5 r1 r2 r3 r4 r5 m1 m2 m3 m4 m5)
      by_cases h5 : i < 5
      · have h := rows_self (m1 := m1) (m2 := m2) (m3 := m3) (m4 := m4) (m5 := m5) p1 p2 p3 p4 p5 7 i h5
        rw [show (withOp (rows r1 r2 r3 r4 r5 m1 m2 m3 m4 m5) (recCells seq val fuel a1 a2 a3 a4 a5 n1 n2 n3 n4 n5 z1 z2 z3 z4 z5)).get i = (rows r1 r2 r3 r4 r5 m1 m2 m3 m4 m5).get i from by
          rw [withOp, St.get_new, if_neg (by rw [St.n_new]; show ¬ i = 6; omega), St.get_new, if_neg (by show ¬ i = 5; omega)]]
        exact h
      · obtain rfl | rfl : i = 5 ∨ i = 6 := by omega
        · rw [show (withOp (rows r1 r2 r3 r4 r5 m1 m2 m3 m4 m5) (recCells seq val fuel a1 a2 a3 a4 a5 n1 n2 n3 n4 n5 z1 z2 z3 z4 z5)).get 5 = some (.cells (recCells seq val fuel a1 a2 a3 a4 a5 n1 n2 n3 n4 n5 z1 z2 z3 z4 z5)) from by kernel_rfl]
          exact OSub.cells (rec_self d1 d2 d3 d4 d5 7 (by omega))
        · rw [show (withOp (rows r1 r2 r3 r4 r5 m1 m2 m3 m4 m5) (recCells seq val fuel a1 a2 a3 a4 a5 n1 n2 n3 n4 n5 z1 z2 z3 z4 z5)).get 6 = some (.arr (opRow (recCells seq val fuel a1 a2 a3 a4 a5 n1 n2 n3 n4 n5 z1 z2 z3 z4 z5)) 0 false) from by kernel_rfl]
          exact OSub.arr (.cons (.int _ _) (.cons (.int _ _) (.cons (.int _ _) (rec_self d1 d2 d3 d4 d5 7 (by omega)))))
    · obtain ⟨b1, b2, b3, b4, b5⟩ := bigs hb
      exact scf_of_ev Tryz.cfgOk (s0 := rows r1 r2 r3 r4 r5 m1 m2 m3 m4 m5) (k := 5) (N := 13) rfl hn (wf_rows _ _ _ _ _ _ _ _ _ _) hg (rows_self p1 p2 p3 p4 p5 5) (.cons (.agg (rec_self d1 d2 d3 d4 d5 5 (by omega))) .nil)
        (program_ev seq val fuel a1 a2 a3 a4 a5 n1 n2 n3 n4 n5 z1 z2 z3 z4 z5 r1 r2 r3 r4 r5 m1 m2 m3 m4 m5 d1 d2 d3 d4 d5 l1 l2 l3 l4 l5 p1 p2 p3 p4 p5 b1 b2 b3 b4 b5)
  grow := by
    rintro f args s v s' (⟨_, _, _, rfl⟩ | ⟨_, _, _, _, _, rfl⟩ | ⟨_, _, _, _, _, _, rfl⟩) hw <;> exact ⟨hw, .refl _⟩
theorem f3_fn : Tryz.cfg.fn 3 = some Tryz.f3 := by kernel_rfl
include d1 d2 d3 d4 d5 l1 l2 l3 l4 l5 p1 p2 p3 p4 p5 in
set_option maxHeartbeats 4000000 in
set_option maxRecDepth 100000 in
theorem law_sc (n : Int) : SC Tryz.prog 0 3 [.agg (recCells seq val fuel a1 a2 a3 a4 a5 n1 n2 n3 n4 n5 z1 z2 z3 z4 z5).toArray, .int .i64 n] (rows r1 r2 r3 r4 r5 m1 m2 m3 m4 m5) fun v _ => v = .bool true := by
  have hS := sound_over (fs := [4, 5, 10]) (sp_ok (seq := seq) (val := val) (fuel := fuel) d1 d2 d3 d4 d5 l1 l2 l3 l4 l5 p1 p2 p3 p4 p5) (sound_run Tryz.cfgOk 300)
  refine sc_body Tryz.cfgOk f3_fn rfl ?_
  repeat' (with_reducible first | refine sk_seq ?_ | refine sk_block ?_ | refine sk_loop ?_ | refine sk_skip ?_ | refine sk_scope ?_)
  refine sk_regionK Tryz.cfgOk hS (by kernel_rfl) ?_
  repeat' (with_reducible first | refine sk_seq ?_ | refine sk_block ?_ | refine sk_loop ?_ | refine sk_skip ?_ | refine sk_scope ?_)
  refine sk_regionL Tryz.cfgOk hS (al_call 4 [] (.bool true) rfl (fun b h => by cases h) (by kernel_rfl) (by kernel_rfl) rfl (.inl ⟨rfl, rfl, rfl, rfl⟩) (by rintro v s' (⟨h1, h2, h3, h4⟩ | ⟨h1, h2, _, _, h3, h4⟩ | ⟨h1, h2, _, _, _, h3, h4⟩) <;> first | exact ⟨h3, h4⟩ | exact absurd h1 (by decide)) ?_)
  refine al_known (by kernel_rfl) ?_
  repeat' (with_reducible first | refine sk_seq ?_ | refine sk_block ?_ | refine sk_loop ?_ | refine sk_skip ?_ | refine sk_scope ?_)
  refine sk_false (by kernel_rfl) ?_
  repeat' (with_reducible first | refine sk_seq ?_ | refine sk_block ?_ | refine sk_loop ?_ | refine sk_skip ?_ | refine sk_scope ?_)
  refine sk_regionL Tryz.cfgOk hS (al_chunk 3 (by kernel_rfl) ?_)
  refine al_call 5 [.slice (some ⟨6, 0, some 11⟩) 1 11] (.bool (big n1 n2 n3 n4 n5)) rfl (fun b h => by cases h) (by kernel_rfl) (by kernel_rfl) rfl (.inr (.inl ⟨rfl, rfl, upto7 (by kernel_rfl) (by kernel_rfl) (by kernel_rfl) (by kernel_rfl) (by kernel_rfl) (by kernel_rfl) (by kernel_rfl), Nat.le_of_ble_eq_true (by kernel_rfl), rfl, rfl⟩)) (by rintro v s' (⟨h1, h2, h3, h4⟩ | ⟨h1, h2, _, _, h3, h4⟩ | ⟨h1, h2, _, _, _, h3, h4⟩) <;> first | exact ⟨h3, h4⟩ | exact absurd h1 (by decide)) ?_
  refine al_nil ?_
  repeat' (with_reducible first | refine sk_seq ?_ | refine sk_block ?_ | refine sk_loop ?_ | refine sk_skip ?_ | refine sk_scope ?_)
  refine sk_cond (v := big n1 n2 n3 n4 n5) (by kernel_rfl) (fun hbig => ?_) (fun hbig => ?_)
  · repeat' (with_reducible first | refine sk_seq ?_ | refine sk_block ?_ | refine sk_loop ?_ | refine sk_skip ?_ | refine sk_scope ?_)
    refine sk_regionK Tryz.cfgOk hS (by kernel_rfl) ?_
    repeat' (with_reducible first | refine sk_seq ?_ | refine sk_block ?_ | refine sk_loop ?_ | refine sk_skip ?_ | refine sk_scope ?_)
    refine sk_ret ?_
    exact ⟨[.bool true], by kernel_rfl, rfl⟩
  · repeat' (with_reducible first | refine sk_seq ?_ | refine sk_block ?_ | refine sk_loop ?_ | refine sk_skip ?_ | refine sk_scope ?_)
    refine sk_regionK Tryz.cfgOk hS (by kernel_rfl) ?_
    repeat' (with_reducible first | refine sk_seq ?_ | refine sk_block ?_ | refine sk_loop ?_ | refine sk_skip ?_ | refine sk_scope ?_)
    refine sk_regionK Tryz.cfgOk hS (by kernel_rfl) ?_
    repeat' (with_reducible first | refine sk_seq ?_ | refine sk_block ?_ | refine sk_loop ?_ | refine sk_skip ?_ | refine sk_scope ?_)
    refine sk_regionK Tryz.cfgOk hS (by kernel_rfl) ?_
    repeat' (with_reducible first | refine sk_seq ?_ | refine sk_block ?_ | refine sk_loop ?_ | refine sk_skip ?_ | refine sk_scope ?_)
    refine sk_regionL Tryz.cfgOk hS (al_chunk 9 (by kernel_rfl) ?_)
    refine al_call 10 [.agg (recCells seq val fuel a1 a2 a3 a4 a5 n1 n2 n3 n4 n5 z1 z2 z3 z4 z5).toArray] (plainRec seq val fuel) rfl (fun b h => by cases h) (by kernel_rfl) (by kernel_rfl) rfl (.inr (.inr ⟨rfl, rfl, hbig, upto5 (by kernel_rfl) (by kernel_rfl) (by kernel_rfl) (by kernel_rfl) (by kernel_rfl), Nat.le_of_ble_eq_true (by kernel_rfl), rfl, rfl⟩)) (by rintro v s' (⟨h1, h2, h3, h4⟩ | ⟨h1, h2, _, _, h3, h4⟩ | ⟨h1, h2, _, _, _, h3, h4⟩) <;> first | exact ⟨h3, h4⟩ | exact absurd h1 (by decide)) ?_
    refine al_known (by kernel_rfl) ?_
    repeat' (with_reducible first | refine sk_seq ?_ | refine sk_block ?_ | refine sk_loop ?_ | refine sk_skip ?_ | refine sk_scope ?_)
    refine sk_ret ?_
    exact ⟨[.bool true], by kernel_rfl, rfl⟩
end
end Go.Proofs.YtbhgimlpmaaalaaGreat
