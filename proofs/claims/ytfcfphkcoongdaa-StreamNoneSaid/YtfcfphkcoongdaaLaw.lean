/- What the law comes to. -/
import Derived.Test.YtfcfphkcoongdaaFrame
namespace Go.Proofs.Ytfcfphkcoongdaa
open Go.Ai
def downV : Value := .tuple #[.int .i64 0, .iface 36 (.int .i64 3)]
def SpL (args_ : List Value) (o : AObj) (n : Nat) : Contract := fun (f : FuncId) (args : List Value) (s : St) (v : Value) (s' : St) => (f = 4 ∧ args = [] ∧ v = .bool true ∧ s' = s) ∨
  (f = 8 ∧ args = [.int .i64 n] ∧ v = .int .i64 (partsOf (lenOf n)) ∧ s' = s) ∨
  (f = 16 ∧ args = args_ ∧ s.get 0 = some o ∧ 1 ≤ s.n ∧ v = oSl s.n (partsOf (lenOf n)) ∧ s' = rowK s (partsOf (lenOf n))) ∨
  (f = 5 ∧ args = .pointer none :: args_ ∧ s.get 0 = some o ∧ 1 ≤ s.n ∧ v = downV ∧ s' = s)
theorem f5_fn : Try.cfg.fn 5 = some Try.f5 := by kernel_rfl
theorem slot_sub {K : Nat → Nat → Prop} {k sz m n z : Nat} {a : Option Addr} (hk : K k k) (h : Slot k sz m n z a) : Sub K (.slice a n z) (.slice a n z) := by
  rcases h with ⟨rfl, rfl, rfl⟩ | ⟨rfl, rfl, _⟩
  · exact .sliceNil
  · exact .slice hk
section
variable {a : Option Addr} {n z m : Nat} {r : List Value} (d : Slot 0 1 m n z a) (l : r.length = n * 1) (p : r.all plainC = true) (hn : n ≤ 4096)
include hn in
set_option maxRecDepth 100000 in
theorem app_ev : EvF Try.cfg 5 [.pointer none, .slice a n z] (row1 r m) fun v s' => s'.n ≤ 5 ∧ (∀ i, i < 1 → s'.get i = (row1 r m).get i) ∧ Sub (idR 1) v downV := by
  refine ev_call f5_fn rfl ?_
  repeat' (with_reducible first | refine ev_seq ?_ | refine ev_block ?_ | refine ev_loop ?_ | refine ev_skip ?_ | refine ev_scope ?_)
  refine ev_regionK 300 (by kernel_rfl) ?_
  repeat' (with_reducible first | refine ev_seq ?_ | refine ev_block ?_ | refine ev_loop ?_ | refine ev_skip ?_ | refine ev_scope ?_)
  refine ev_region ?_
  refine evl_chunk 300 2 (by kernel_rfl) ?_
  refine evl_call 8 [.int .i64 n] (by kernel_rfl) rfl (fun b h => by cases h) (by kernel_rfl) (need_ev n _ (by omega) (by omega)) ?_
  rintro v s1 ⟨k, rfl, rfl, _, _⟩
  refine evl_all 300 (by kernel_rfl) ?_
  repeat' (with_reducible first | refine ev_seq ?_ | refine ev_block ?_ | refine ev_loop ?_ | refine ev_skip ?_ | refine ev_scope ?_)
  refine ev_regionK 300 (by kernel_rfl) ?_
  repeat' (with_reducible first | refine ev_seq ?_ | refine ev_block ?_ | refine ev_loop ?_ | refine ev_skip ?_ | refine ev_scope ?_)
  refine ev_true (by kernel_rfl) ?_
  repeat' (with_reducible first | refine ev_seq ?_ | refine ev_block ?_ | refine ev_loop ?_ | refine ev_skip ?_ | refine ev_scope ?_)
  refine ev_regionK 300 (by kernel_rfl) ?_
  repeat' (with_reducible first | refine ev_seq ?_ | refine ev_block ?_ | refine ev_loop ?_ | refine ev_skip ?_ | refine ev_scope ?_)
  refine ev_ret ?_
  refine ⟨[.int .i64 0, .iface 36 (.int .i64 3)], by kernel_rfl, Nat.le_of_ble_eq_true (by kernel_rfl), fun i hi => ?_, .tuple (.cons (.int _ _) (.cons (.iface (.int _ _)) .nil))⟩
  obtain rfl : i = 0 := by omega
  kernel_rfl
include d l p hn in
theorem spL_ok : SpecOk Try.prog 0 (SpL [.slice a n z] (.arr r m true) n) where
  call := by
    rintro f args s v s' (⟨rfl, h2, h3, h4⟩ | ⟨rfl, rfl, rfl, rfl⟩ | ⟨rfl, rfl, hg, hs, rfl, rfl⟩ | ⟨rfl, rfl, hg, hs, rfl, rfl⟩)
    · exact alive_ok.call _ _ _ _ _ ⟨List.mem_singleton.2 rfl, h2, h3, h4⟩
    · refine scf_pure Try.cfgOk ((need_ev n s' (by omega) (by omega)).up ?_)
      rintro v s1 ⟨k, rfl, rfl, _, hk⟩
      obtain ⟨S, q1, q2, q3, q4, rfl⟩ := hk (by omega) (by omega)
      refine ⟨?_, rfl⟩
      congr 1
      unfold partsOf lenOf
      cases hb : Nat.blt n 128 with
      | true =>
        rw [Nat.blt_eq] at hb
        have := q3 (by omega)
        simp only [cond_true]
        omega
      | false =>
        have : ¬ n < 128 := fun h => by rw [← Nat.blt_eq] at h; rw [hb] at h; cases h
        have := q4 (by omega) (by omega)
        simp only [cond_false]
        omega
    · exact scf_parts (s0 := row1 r m) (j0 := 0) (o := .arr r m true) rfl ((wf_empty 0).new _) hs (by kernel_rfl) hg (fun R _ => OSub.arr (subs_lit (plain_lit p))) (.cons (slot_sub ⟨by omega, rfl⟩ d) .nil) (frame_sc a n z m r d l p hn)
    · have hself : ∀ i, i < 1 → (row1 r m).get i = some (.arr r m true) := fun i hi => by
        obtain rfl : i = 0 := by omega
        kernel_rfl
      refine scf_of_ev Try.cfgOk (k := 1) (N := 5) (s0 := row1 r m) rfl hs ((wf_empty 0).new _) (fun i hi => ?_) (fun i hi => ?_) (.cons .ptrNil (.cons (slot_sub ⟨by omega, rfl⟩ d) .nil)) (app_ev hn)
      · rw [hself i hi]
        obtain rfl : i = 0 := by omega
        exact hg
      · rw [hself i hi]
        exact OSub.arr (subs_lit (plain_lit p))
  grow := by
    rintro f args s v s' (⟨_, _, _, rfl⟩ | ⟨_, _, _, rfl⟩ | ⟨_, _, _, _, _, rfl⟩ | ⟨_, _, _, _, _, rfl⟩) hw
    · exact ⟨hw, .refl _⟩
    · exact ⟨hw, .refl _⟩
    · exact ⟨hw.new _, .new s hw _⟩
    · exact ⟨hw, .refl _⟩
end
def lawEnv (dd : Nat → Value) (n0 : Int) (a : Option Addr) (n z : Nat) (k : Int) : Env := mkEnv 116 fun j => bif Nat.beq j 0 then .int .i64 n0 else bif Nat.beq j 1 then .slice a n z else bif Nat.beq j 5 then .pointer none else bif Nat.beq j 7 then .iface 36 (.int .i64 3) else
  bif Nat.beq j 9 then .iface 36 (.int .i64 1) else bif Nat.beq j 11 then .iface 36 (.int .i64 1) else bif Nat.beq j 12 then .int .i64 k else dd j
def QR (r : List Value) (m : Nat) (o : Out) (e : Env) (s : St) : Prop := match o with
  | .exit _ => False
  | _ => e.n = 116 ∧ e.get 4 = .bool true ∧ s.n ≤ 1000 ∧ s.get 0 = some (.arr r m true)
theorem qr_fin {r : List Value} {m : Nat} {o : Out} {e1 : Env} {s1 : St} : QR r m o e1 s1 → (match o with
      | .exit _ => False
      | _ => ∃ vs, resultsV Try.cfg s1 e1 Try.f3.results.toList = some vs ∧ oneOrTuple vs = .bool true) := by
  have hv : e1.get 4 = .bool true → ∃ vs, resultsV Try.cfg s1 e1 Try.f3.results.toList = some vs ∧ oneOrTuple vs = .bool true := fun h => ⟨[e1.get 4], by kernel_rfl, h⟩
  intro h
  cases o with
  | exit id => exact h
  | normal => exact hv h.2.1
  | ret => exact hv h.2.1
theorem beq_cases {j k : Nat} (h : Nat.beq j k = true) : j = k := Nat.eq_of_beq_eq_true h
theorem reset {n0 k : Int} {a : Option Addr} {n z m : Nat} {r : List Value} {c : Code} {e : Env} {s : St} (d : Slot 0 1 m n z a) (p : r.all plainC = true) (hn : e.n = 116) (h0 : e.get 0 = .int .i64 n0) (h1 : e.get 1 = .slice a n z) (h5 : e.get 5 = .pointer none)
    (h7 : e.get 7 = .iface 36 (.int .i64 3)) (h9 : e.get 9 = .iface 36 (.int .i64 1)) (h11 : e.get 11 = .iface 36 (.int .i64 1)) (h12 : e.get 12 = .int .i64 k) (g0 : s.get 0 = some (.arr r m true)) (sn : 1 ≤ s.n) (sb : s.n ≤ 1000)
    (h : ∀ dd, SK Try.prog 0 3 c (lawEnv dd n0 a n z k) (row1 r m) (QR r m)) : SK Try.prog 0 3 c e s (QR r m) := by
  have hrow : ∀ i, i < 1 → (row1 r m).get i = some (.arr r m true) := fun i hi => by
    obtain rfl : i = 0 := by omega
    kernel_rfl
  have hself : ∀ i, i < 1 → ORel (idR 1) ((row1 r m).get i) ((row1 r m).get i) := fun i hi => by
    rw [hrow i hi]; exact OSub.arr (subs_lit (plain_lit p))
  have hget : ∀ i, i < 1 → s.get i = (row1 r m).get i := fun i hi => by
    rw [hrow i hi]
    obtain rfl : i = 0 := by omega
    exact g0
  have he : ESub (fun j i => i < 1 ∧ i = j) e (lawEnv (fun j => erase (e.get j)) n0 a n z k) := by
    refine ⟨hn.symm, fun j hj => ?_⟩
    rw [lawEnv, mkEnv_get _ _ _ (by omega)]
    cases b0 : Nat.beq j 0 with
    | true => rw [beq_cases b0, h0]; exact .int _ _
    | false =>
    cases b1 : Nat.beq j 1 with
    | true => rw [beq_cases b1, h1]; exact slot_sub ⟨by omega, rfl⟩ d
    | false =>
    cases b5 : Nat.beq j 5 with
    | true => rw [beq_cases b5, h5]; exact .ptrNil
    | false =>
    cases b7 : Nat.beq j 7 with
    | true => rw [beq_cases b7, h7]; exact .iface (.int _ _)
    | false =>
    cases b9 : Nat.beq j 9 with
    | true => rw [beq_cases b9, h9]; exact .iface (.int _ _)
    | false =>
    cases b11 : Nat.beq j 11 with
    | true => rw [beq_cases b11, h11]; exact .iface (.int _ _)
    | false =>
    cases b12 : Nat.beq j 12 with
    | true => rw [beq_cases b12, h12]; exact .int _ _
    | false => exact sub_erase _
  refine sk_frame (G := 0) (k := 1) (ρ := fun i => i) (s0 := row1 r m) (fit_id rfl sn ((wf_empty 0).new _) (Nat.zero_le _) hget hself) 1000 he (h _) ?_
  intro hw o e0 s0 hq hw0 hg0
  have fin : e0.n = 116 ∧ e0.get 4 = .bool true ∧ s0.n ≤ 1000 ∧ s0.get 0 = some (.arr r m true) → (∀ e1 : Env, e1.n = 116 → e1.get 4 = .bool true → QR r m o e1 s) →
      s0.n ≤ 1000 ∧ ∃ τ e' s', QR r m o e' s' ∧ ESub (fun i j => τ i = some j) e0 e' ∧ Back 1 (fun i => i) s (row1 r m) s0 τ s' ∧ ∀ i, i < 1 → (∀ β t, ER β e t → β.dom i) ∨ (s0.get i = (row1 r m).get i → s'.get i = s.get i) := by
    rintro ⟨q1, q2, q3, q4⟩ hQ
    refine ⟨q3, _, mkEnv 116 (fun j => bif Nat.beq j 4 then .bool true else erase (e0.get j)), s, hQ _ rfl (mkEnv_get 116 _ 4 (by omega)), ⟨q1.symm, fun j hj => ?_⟩, back_id sn hw hget hself (fun i hi => ?_), fun i hi => .inr fun _ => rfl⟩
    · rw [mkEnv_get _ _ _ (by omega)]
      cases b4 : Nat.beq j 4 with
      | true => rw [beq_cases b4, q2]; exact .bool _
      | false => exact sub_erase _
    · rw [hrow i hi]
      obtain rfl : i = 0 := by omega
      exact q4
  cases o with
  | exit id => exact hq.elim
  | normal => exact fin hq fun e1 a1 a2 => ⟨a1, a2, sb, g0⟩
  | ret => exact fin hq fun e1 a1 a2 => ⟨a1, a2, sb, g0⟩
theorem f3_fn : Try.cfg.fn 3 = some Try.f3 := by kernel_rfl
/-- numbers of the law's middle -/
theorem mid_wraps {n k : Int} {S : Int} (h0 : 0 ≤ n) (h1 : n < 1099511627776) (s1 : 1 ≤ S) (s6 : S ≤ 6) (hk : k = (n + S - 1) / 50 + 1) :
    IntKind.i64.wrap (IntKind.i64.wrap (k - 1) * 50) = (k - 1) * 50 ∧ IntKind.i64.wrap (n + 6) = n + 6 ∧ IntKind.i64.wrap (k * 50) = k * 50 := by
  rw [wrap64s (x := k - 1) (by omega) (by omega), wrap64s (x := (k - 1) * 50) (by omega) (by omega), wrap64s (x := n + 6) (by omega) (by omega), wrap64s (x := k * 50) (by omega) (by omega)]
  exact ⟨rfl, rfl, rfl⟩
set_option maxHeartbeats 8000000 in
set_option maxRecDepth 100000 in
theorem law_big (n0 : Int) (a : Option Addr) (n z m : Nat) (r : List Value) (hx0 : -9223372036854775808 ≤ n0) (hx1 : n0 < 9223372036854775808) (d : Slot 0 1 m n z a) (l : r.length = n * 1) (p : r.all plainC = true) (hn : n ≤ 4096) :
    SC Try.prog 0 3 [.int .i64 n0, .slice a n z] (row1 r m) fun v _ => v = .bool true := by
  have hS := sound_over (fs := [4, 5, 8, 16]) (spL_ok d l p hn) (sound_run Try.cfgOk 300)
  refine sc_body Try.cfgOk f3_fn rfl ?_
  refine SK.up (Q := QR r m) ?_ (fun o e1 s1 h => qr_fin h)
  repeat' (with_reducible first | refine sk_seq ?_ | refine sk_block ?_ | refine sk_skip ?_ | refine sk_scope ?_)
  refine sk_regionK Try.cfgOk hS (by kernel_rfl) ?_
  repeat' (with_reducible first | refine sk_seq ?_ | refine sk_block ?_ | refine sk_skip ?_ | refine sk_scope ?_)
  refine sk_st (row1 r m) (by kernel_rfl) ?_
  refine sk_regionL Try.cfgOk hS (al_callN 4 [] (.bool true) _ rfl (fun b h => by cases h) (by kernel_rfl) (by kernel_rfl) rfl (.inl ⟨rfl, rfl, rfl, rfl⟩) (by rintro v s' (⟨h1, h2, h3, h4⟩ | ⟨h1, h2, h3, h4⟩ | ⟨h1, h2, _, _, h3, h4⟩ | ⟨h1, h2, _, _, h3, h4⟩) <;> first | exact ⟨h3, h4⟩ | exact absurd h1 (by decide)) ?_)
  refine al_known (by kernel_rfl) ?_
  repeat' (with_reducible first | refine sk_seq ?_ | refine sk_block ?_ | refine sk_skip ?_ | refine sk_scope ?_)
  refine sk_false (by kernel_rfl) ?_
  repeat' (with_reducible first | refine sk_seq ?_ | refine sk_block ?_ | refine sk_skip ?_ | refine sk_scope ?_)
  refine sk_st (row1 r m) (by kernel_rfl) ?_
  refine sk_ev Try.cfgOk (ev_region ?_)
  refine evl_chunk 300 2 (by kernel_rfl) ?_
  refine evl_test (by kernel_rfl) (by kernel_rfl) (by kernel_rfl) (fun h3 => ?_) (fun h3 => ?_)
  · exfalso
    have c : decide ((n : Int) > 4096) = true := Eq.trans (by kernel_rfl) h3
    have c := of_decide_eq_true c
    omega
  refine evl_nil ?_
  repeat' (with_reducible first | refine sk_seq ?_ | refine sk_block ?_ | refine sk_skip ?_ | refine sk_scope ?_)
  refine sk_false (by kernel_rfl) ?_
  repeat' (with_reducible first | refine sk_seq ?_ | refine sk_block ?_ | refine sk_skip ?_ | refine sk_scope ?_)
  refine sk_st (row1 r m) (by kernel_rfl) ?_
  refine sk_regionK Try.cfgOk hS (by kernel_rfl) ?_
  repeat' (with_reducible first | refine sk_seq ?_ | refine sk_block ?_ | refine sk_skip ?_ | refine sk_scope ?_)
  refine sk_st (row1 r m) (by kernel_rfl) ?_
  refine sk_regionL Try.cfgOk hS (al_chunk 2 (by kernel_rfl) ?_)
  refine al_callN 5 [.pointer none, .slice a n z] downV _ rfl (fun b h => by cases h) (by kernel_rfl) (by kernel_rfl) rfl (.inr (.inr (.inr ⟨rfl, rfl, by kernel_rfl, Nat.le_of_ble_eq_true (by kernel_rfl), rfl, rfl⟩))) (by rintro v s' (⟨h1, h2, h3, h4⟩ | ⟨h1, h2, h3, h4⟩ | ⟨h1, h2, _, _, h3, h4⟩ | ⟨h1, h2, _, _, h3, h4⟩) <;> first | exact ⟨h3, h4⟩ | exact absurd h1 (by decide)) ?_
  refine al_known (by kernel_rfl) ?_
  repeat' (with_reducible first | refine sk_seq ?_ | refine sk_block ?_ | refine sk_skip ?_ | refine sk_scope ?_)
  refine sk_st (row1 r m) (by kernel_rfl) ?_
  refine sk_regionK Try.cfgOk hS (by kernel_rfl) ?_
  repeat' (with_reducible first | refine sk_seq ?_ | refine sk_block ?_ | refine sk_skip ?_ | refine sk_scope ?_)
  refine sk_regionK Try.cfgOk hS (by kernel_rfl) ?_
  repeat' (with_reducible first | refine sk_seq ?_ | refine sk_block ?_ | refine sk_skip ?_ | refine sk_scope ?_)
  refine sk_ev Try.cfgOk (ev_region ?_)
  refine evl_chunk 300 1 (by kernel_rfl) ?_
  refine evl_call 8 [.int .i64 n0] (by kernel_rfl) rfl (fun b h => by cases h) (by kernel_rfl) (need_ev n0 _ hx0 hx1) ?_
  rintro v s1 ⟨k, rfl, rfl, hneg, hpos⟩
  refine evl_all 300 (by kernel_rfl) ?_
  refine reset (n0 := n0) (a := a) (n := n) (z := z) (m := m) (r := r) (k := k) d p (by kernel_rfl) (by kernel_rfl) (by kernel_rfl) (by kernel_rfl) (by kernel_rfl) (by kernel_rfl) (by kernel_rfl) (by kernel_rfl) (by kernel_rfl) (Nat.le_of_ble_eq_true (by kernel_rfl)) (Nat.le_of_ble_eq_true (by kernel_rfl)) ?_
  intro dd
  repeat' (with_reducible first | refine sk_seq ?_ | refine sk_block ?_ | refine sk_skip ?_ | refine sk_scope ?_)
  refine sk_ev Try.cfgOk (ev_region ?_)
  refine evl_chunk 300 1 (by kernel_rfl) ?_
  refine evl_st (row1 r m) (by kernel_rfl) ?_
  refine evl_test (by kernel_rfl) (by kernel_rfl) (by kernel_rfl) (fun t1 => ?_) (fun t1 => ?_)
  · have c_t1 : decide (n0 < 0) = true := Eq.trans (by kernel_rfl) t1
    have c_t1 := of_decide_eq_true c_t1
    clear t1
    obtain rfl := hneg c_t1
    refine evl_chunk 300 6 (by kernel_rfl) ?_
    refine evl_st (row1 r m) (by kernel_rfl) ?_
    refine evl_test (by kernel_rfl) (by kernel_rfl) (by kernel_rfl) (fun t2 => ?_) (fun t2 => ?_)
    · exfalso
      have c : decide (n0 ≥ 0) = true := Eq.trans (by kernel_rfl) t2
      have c := of_decide_eq_true c
      omega
    refine evl_all 300 (by kernel_rfl) ?_
    repeat' (with_reducible first | refine sk_seq ?_ | refine sk_block ?_ | refine sk_skip ?_ | refine sk_scope ?_)
    refine sk_false (by kernel_rfl) ?_
    repeat' (with_reducible first | refine sk_seq ?_ | refine sk_block ?_ | refine sk_skip ?_ | refine sk_scope ?_)
    refine sk_regionL Try.cfgOk hS (al_chunk 44 (by kernel_rfl) ?_)
    refine al_callN 8 [.int .i64 n] (.int .i64 (partsOf (lenOf n))) _ rfl (fun b h => by cases h) (by kernel_rfl) (by kernel_rfl) rfl (.inr (.inl ⟨rfl, rfl, rfl, rfl⟩)) (by rintro v s' (⟨h1, h2, h3, h4⟩ | ⟨h1, h2, h3, h4⟩ | ⟨h1, h2, _, _, h3, h4⟩ | ⟨h1, h2, _, _, h3, h4⟩) <;> first | exact ⟨h3, h4⟩ | exact absurd h1 (by decide)) ?_
    refine al_chunk 1 (by kernel_rfl) ?_
    refine al_callN 16 [.slice a n z] _ _ rfl (fun b h => by cases h) (by kernel_rfl) (by kernel_rfl) rfl (.inr (.inr (.inl ⟨rfl, rfl, by kernel_rfl, Nat.le_of_ble_eq_true (by kernel_rfl), rfl, rfl⟩))) (by rintro v s' (⟨h1, h2, h3, h4⟩ | ⟨h1, h2, h3, h4⟩ | ⟨h1, h2, _, _, h3, h4⟩ | ⟨h1, h2, _, _, h3, h4⟩) <;> first | exact ⟨h3, h4⟩ | exact absurd h1 (by decide)) ?_
    refine al_chunk 1 (by kernel_rfl) ?_
    refine al_beq (partsOf (lenOf n) : Int) (by kernel_rfl) (by kernel_rfl) (by kernel_rfl) ?_
    refine al_known (by kernel_rfl) ?_
    repeat' (with_reducible first | refine sk_seq ?_ | refine sk_block ?_ | refine sk_skip ?_ | refine sk_scope ?_)
    refine sk_ret ?_
    exact ⟨by kernel_rfl, by kernel_rfl, Nat.le_of_ble_eq_true (by kernel_rfl), by kernel_rfl⟩
  · have c_t1 : decide (n0 < 0) = false := Eq.trans (by kernel_rfl) t1
    have c_t1 := of_decide_eq_false c_t1
    clear t1
    refine evl_chunk 300 6 (by kernel_rfl) ?_
    refine evl_st (row1 r m) (by kernel_rfl) ?_
    refine evl_test (by kernel_rfl) (by kernel_rfl) (by kernel_rfl) (fun t2 => ?_) (fun t2 => absurd (by omega) (of_decide_eq_false (Eq.trans (a := decide (n0 ≥ 0)) (by kernel_rfl) t2)))
    refine evl_chunk 300 2 (by kernel_rfl) ?_
    refine evl_st (row1 r m) (by kernel_rfl) ?_
    refine evl_test (by kernel_rfl) (by kernel_rfl) (by kernel_rfl) (fun t3 => ?_) (fun t3 => ?_)
    · have c_t3 : decide (n0 < 1099511627776) = true := Eq.trans (by kernel_rfl) t3
      have c_t3 := of_decide_eq_true c_t3
      clear t3
      obtain ⟨Sz, q1, q6, _, _, hk⟩ := hpos (by omega) c_t3
      obtain ⟨w1, w2, w3⟩ := mid_wraps (by omega) c_t3 q1 q6 hk
      refine evl_chunk 300 3 (by kernel_rfl) ?_
      refine evl_st (row1 r m) (by kernel_rfl) ?_
      refine evl_test (by kernel_rfl) (by kernel_rfl) (by kernel_rfl) (fun t4 => absurd (of_decide_eq_true (Eq.trans (a := decide (k < 1)) (by kernel_rfl) t4)) (by omega)) (fun t4 => ?_)
      refine evl_chunk 300 6 (by kernel_rfl) ?_
      refine evl_st (row1 r m) (by kernel_rfl) ?_
      refine evl_test (by kernel_rfl) (by kernel_rfl) (by kernel_rfl) (fun t5 => absurd (of_decide_eq_true (Eq.trans (a := decide (IntKind.i64.wrap (IntKind.i64.wrap (k - 1) * 50) ≥ IntKind.i64.wrap (n0 + 6))) (by kernel_rfl) t5)) (by rw [w1, w2]; omega)) (fun t5 => ?_)
      refine evl_chunk 300 5 (by kernel_rfl) ?_
      refine evl_st (row1 r m) (by kernel_rfl) ?_
      refine evl_test (by kernel_rfl) (by kernel_rfl) (by kernel_rfl) (fun t6 => absurd (of_decide_eq_true (Eq.trans (a := decide (IntKind.i64.wrap (k * 50) ≤ n0)) (by kernel_rfl) t6)) (by rw [w3]; omega)) (fun t6 => ?_)
      refine evl_all 300 (by kernel_rfl) ?_
      repeat' (with_reducible first | refine sk_seq ?_ | refine sk_block ?_ | refine sk_skip ?_ | refine sk_scope ?_)
      refine sk_false (by kernel_rfl) ?_
      repeat' (with_reducible first | refine sk_seq ?_ | refine sk_block ?_ | refine sk_skip ?_ | refine sk_scope ?_)
      refine sk_regionL Try.cfgOk hS (al_chunk 44 (by kernel_rfl) ?_)
      refine al_callN 8 [.int .i64 n] (.int .i64 (partsOf (lenOf n))) _ rfl (fun b h => by cases h) (by kernel_rfl) (by kernel_rfl) rfl (.inr (.inl ⟨rfl, rfl, rfl, rfl⟩)) (by rintro v s' (⟨h1, h2, h3, h4⟩ | ⟨h1, h2, h3, h4⟩ | ⟨h1, h2, _, _, h3, h4⟩ | ⟨h1, h2, _, _, h3, h4⟩) <;> first | exact ⟨h3, h4⟩ | exact absurd h1 (by decide)) ?_
      refine al_chunk 1 (by kernel_rfl) ?_
      refine al_callN 16 [.slice a n z] _ _ rfl (fun b h => by cases h) (by kernel_rfl) (by kernel_rfl) rfl (.inr (.inr (.inl ⟨rfl, rfl, by kernel_rfl, Nat.le_of_ble_eq_true (by kernel_rfl), rfl, rfl⟩))) (by rintro v s' (⟨h1, h2, h3, h4⟩ | ⟨h1, h2, h3, h4⟩ | ⟨h1, h2, _, _, h3, h4⟩ | ⟨h1, h2, _, _, h3, h4⟩) <;> first | exact ⟨h3, h4⟩ | exact absurd h1 (by decide)) ?_
      refine al_chunk 1 (by kernel_rfl) ?_
      refine al_beq (partsOf (lenOf n) : Int) (by kernel_rfl) (by kernel_rfl) (by kernel_rfl) ?_
      refine al_known (by kernel_rfl) ?_
      repeat' (with_reducible first | refine sk_seq ?_ | refine sk_block ?_ | refine sk_skip ?_ | refine sk_scope ?_)
      refine sk_ret ?_
      exact ⟨by kernel_rfl, by kernel_rfl, Nat.le_of_ble_eq_true (by kernel_rfl), by kernel_rfl⟩
    · refine evl_all 300 (by kernel_rfl) ?_
      repeat' (with_reducible first | refine sk_seq ?_ | refine sk_block ?_ | refine sk_skip ?_ | refine sk_scope ?_)
      refine sk_false (by kernel_rfl) ?_
      repeat' (with_reducible first | refine sk_seq ?_ | refine sk_block ?_ | refine sk_skip ?_ | refine sk_scope ?_)
      refine sk_regionL Try.cfgOk hS (al_chunk 44 (by kernel_rfl) ?_)
      refine al_callN 8 [.int .i64 n] (.int .i64 (partsOf (lenOf n))) _ rfl (fun b h => by cases h) (by kernel_rfl) (by kernel_rfl) rfl (.inr (.inl ⟨rfl, rfl, rfl, rfl⟩)) (by rintro v s' (⟨h1, h2, h3, h4⟩ | ⟨h1, h2, h3, h4⟩ | ⟨h1, h2, _, _, h3, h4⟩ | ⟨h1, h2, _, _, h3, h4⟩) <;> first | exact ⟨h3, h4⟩ | exact absurd h1 (by decide)) ?_
      refine al_chunk 1 (by kernel_rfl) ?_
      refine al_callN 16 [.slice a n z] _ _ rfl (fun b h => by cases h) (by kernel_rfl) (by kernel_rfl) rfl (.inr (.inr (.inl ⟨rfl, rfl, by kernel_rfl, Nat.le_of_ble_eq_true (by kernel_rfl), rfl, rfl⟩))) (by rintro v s' (⟨h1, h2, h3, h4⟩ | ⟨h1, h2, h3, h4⟩ | ⟨h1, h2, _, _, h3, h4⟩ | ⟨h1, h2, _, _, h3, h4⟩) <;> first | exact ⟨h3, h4⟩ | exact absurd h1 (by decide)) ?_
      refine al_chunk 1 (by kernel_rfl) ?_
      refine al_beq (partsOf (lenOf n) : Int) (by kernel_rfl) (by kernel_rfl) (by kernel_rfl) ?_
      refine al_known (by kernel_rfl) ?_
      repeat' (with_reducible first | refine sk_seq ?_ | refine sk_block ?_ | refine sk_skip ?_ | refine sk_scope ?_)
      refine sk_ret ?_
      exact ⟨by kernel_rfl, by kernel_rfl, Nat.le_of_ble_eq_true (by kernel_rfl), by kernel_rfl⟩
set_option maxHeartbeats 8000000 in
set_option maxRecDepth 100000 in
theorem law_more (n0 : Int) (a : Option Addr) (n z m : Nat) (r : List Value) (hn : 4096 < n) :
    SC Try.prog 0 3 [.int .i64 n0, .slice a n z] (row1 r m) fun v _ => v = .bool true := by
  have hS := sound_over (fs := [4]) alive_ok (sound_run Try.cfgOk 300)
  refine sc_body Try.cfgOk f3_fn rfl ?_
  repeat' (with_reducible first | refine sk_seq ?_ | refine sk_block ?_ | refine sk_skip ?_ | refine sk_scope ?_)
  refine sk_regionK Try.cfgOk hS (by kernel_rfl) ?_
  repeat' (with_reducible first | refine sk_seq ?_ | refine sk_block ?_ | refine sk_skip ?_ | refine sk_scope ?_)
  refine sk_regionL Try.cfgOk hS (al_callN 4 [] (.bool true) _ rfl (fun b h => by cases h) (by kernel_rfl) (by kernel_rfl) rfl ⟨List.mem_singleton.2 rfl, rfl, rfl, rfl⟩ (by rintro v s' ⟨_, _, h3, h4⟩; exact ⟨h3, h4⟩) ?_)
  refine al_known (by kernel_rfl) ?_
  repeat' (with_reducible first | refine sk_seq ?_ | refine sk_block ?_ | refine sk_skip ?_ | refine sk_scope ?_)
  refine sk_false (by kernel_rfl) ?_
  repeat' (with_reducible first | refine sk_seq ?_ | refine sk_block ?_ | refine sk_skip ?_ | refine sk_scope ?_)
  refine sk_ev Try.cfgOk (ev_region ?_)
  refine evl_chunk 300 2 (by kernel_rfl) ?_
  refine evl_test (by kernel_rfl) (by kernel_rfl) (by kernel_rfl) (fun h3 => ?_) (fun h3 => absurd (by omega) (of_decide_eq_false (Eq.trans (a := decide ((n : Int) > 4096)) (by kernel_rfl) h3)))
  refine evl_nil ?_
  repeat' (with_reducible first | refine sk_seq ?_ | refine sk_block ?_ | refine sk_skip ?_ | refine sk_scope ?_)
  refine sk_true (by kernel_rfl) ?_
  repeat' (with_reducible first | refine sk_seq ?_ | refine sk_block ?_ | refine sk_skip ?_ | refine sk_scope ?_)
  refine sk_regionK Try.cfgOk hS (by kernel_rfl) ?_
  repeat' (with_reducible first | refine sk_seq ?_ | refine sk_block ?_ | refine sk_skip ?_ | refine sk_scope ?_)
  refine sk_ret ?_
  exact ⟨[.bool true], by kernel_rfl, rfl⟩
theorem law_sc (n0 : Int) (a : Option Addr) (n z m : Nat) (r : List Value) (hx0 : -9223372036854775808 ≤ n0) (hx1 : n0 < 9223372036854775808) (d : Slot 0 1 m n z a) (l : r.length = n * 1) (p : r.all plainC = true) :
    SC Try.prog 0 3 [.int .i64 n0, .slice a n z] (row1 r m) fun v _ => v = .bool true := by
  by_cases hn : n ≤ 4096
  · exact law_big n0 a n z m r hx0 hx1 d l p hn
  · exact law_more n0 a n z m r (by omega)
end Go.Proofs.Ytfcfphkcoongdaa
