/- All rounds of 'large' and of 'program', over whatever records. -/
import Derived.Test.YtfnbgfmmlgbfjaaGreatDoorRound
namespace Go.Proofs.YtfnbgfmmlgbfjaaGreatDoor
open Go.Ai
def lS (il n : Nat) : Value := .slice (some ⟨il, 0, some (n * 8)⟩) n 8
theorem Rc.cells_len (r : Rc) : r.cells.length = 8 := rfl
theorem Rc.small_len (r : Rc) : r.small.length = 8 := rfl
theorem all_cells (rs : List Rc) : ∀ l ∈ rs.map Rc.cells, l.length = 8 := by
  intro l hl
  obtain ⟨r, _, rfl⟩ := List.mem_map.1 hl
  rfl
/-- the list's row at an element -/
theorem at_elem {rs : List Rc} {i : Nat} {r : Rc} {t : List Rc} (h : rs.drop i = r :: t) :
    ∃ A B, (rs.map Rc.cells).flatten = A ++ (r.cells ++ B) ∧ A.length = i * 8 ∧ A.length + 8 + B.length = rs.length * 8 ∧ i < rs.length ∧ rs.drop (i + 1) = t ∧ r ∈ rs := by
  have hi : i < rs.length := by
    rcases Nat.lt_or_ge i rs.length with h1 | h1
    · exact h1
    · rw [List.drop_eq_nil_of_le h1] at h; cases h
  rw [List.drop_eq_getElem_cons hi] at h
  obtain ⟨h1, h2⟩ := List.cons.inj h
  have hel : (rs.map Rc.cells)[i]? = some r.cells := by rw [List.getElem?_map, List.getElem?_eq_getElem hi, h1]; rfl
  have hs := flatten_split hel
  have hA : ((rs.map Rc.cells).take i).flatten.length = i * 8 := by
    rw [flatten_len fun l hl => all_cells rs l (List.mem_of_mem_take hl), List.length_take, List.length_map, Nat.min_eq_left (by omega)]
  refine ⟨_, _, hs, hA, ?_, hi, h2, h1 ▸ List.getElem_mem hi⟩
  have := congrArg List.length hs
  rw [flatten_len (all_cells rs), List.length_map, List.length_append, List.length_append, Rc.cells_len] at this
  omega

def WL (il n : Nat) (j hi : Nat) : Prop := j = il ∧ hi = n * 8
/-- behind the rounds of 'large' -/
def LE (s : St) (b : Bool) (o : Out) (e' : Env) (s' : St) : Prop := s' = s ∧ ∃ d', e' = mkEnv 61 d' ∧ ((o = .ret ∧ d' 6 = .bool true ∧ b = true) ∨ (o = .exit 0 ∧ b = false))

set_option maxRecDepth 100000 in
theorem large_stop (d : Nat → Value) (n i : Nat) (lv : Value) (s : St) (hi : n ≤ i) : EvC Tryz.cfg 7 largeBody (lEnv d lv n i) s fun o e1 s1 => o = .exit 0 ∧ e1.n = 61 ∧ s1 = s := by
  refine ev_seq ?_
  repeat' (with_reducible first | refine ev_seq ?_ | refine ev_block ?_ | refine ev_loop ?_ | refine ev_skip ?_ | refine ev_scope ?_)
  refine ev_region ?_
  refine evl_test (by kernel_rfl) (by kernel_rfl) (by kernel_rfl) (fun hc => ?_) (fun hc => ?_)
  · exfalso
    have c : decide ((i : Int) < n) = true := Eq.trans (by kernel_rfl) hc
    have c := of_decide_eq_true c
    omega
  · refine evl_nil ?_
    repeat' (with_reducible first | refine ev_seq ?_ | refine ev_block ?_ | refine ev_loop ?_ | refine ev_skip ?_ | refine ev_scope ?_)
    refine ev_false (by kernel_rfl) ?_
    refine ev_exit ?_
    exact ⟨rfl, by kernel_rfl, rfl⟩
set_option maxRecDepth 100000 in
theorem prog_stop (d : Nat → Value) (n i : Nat) (lv ov : Value) (s : St) (hi : n ≤ i) : EvC Tryz.cfg 9 progBody (pEnv d lv ov n i) s fun o e1 s1 => o = .exit 0 ∧ e1.n = 50 ∧ e1.get 3 = ov ∧ s1 = s := by
  refine ev_seq ?_
  repeat' (with_reducible first | refine ev_seq ?_ | refine ev_block ?_ | refine ev_loop ?_ | refine ev_skip ?_ | refine ev_scope ?_)
  refine ev_region ?_
  refine evl_test (by kernel_rfl) (by kernel_rfl) (by kernel_rfl) (fun hc => ?_) (fun hc => ?_)
  · exfalso
    have c : decide ((i : Int) < n) = true := Eq.trans (by kernel_rfl) hc
    have c := of_decide_eq_true c
    omega
  · refine evl_nil ?_
    repeat' (with_reducible first | refine ev_seq ?_ | refine ev_block ?_ | refine ev_loop ?_ | refine ev_skip ?_ | refine ev_scope ?_)
    refine ev_false (by kernel_rfl) ?_
    refine ev_exit ?_
    exact ⟨rfl, by kernel_rfl, by kernel_rfl, rfl⟩

theorem lEnv_n (d : Nat → Value) (lv : Value) (n i : Nat) : (lEnv d lv n i).n = 61 := rfl
theorem lEnv_17 (d : Nat → Value) (lv : Value) (n i : Nat) : (lEnv d lv n i).get 17 = lv := by rw [lEnv, mkEnv_get _ _ _ (by omega)]; rfl
theorem pEnv_n (d : Nat → Value) (lv ov : Value) (n i : Nat) : (pEnv d lv ov n i).n = 50 := rfl
theorem pEnv_8 (d : Nat → Value) (lv ov : Value) (n i : Nat) : (pEnv d lv ov n i).get 8 = lv := by rw [pEnv, mkEnv_get _ _ _ (by omega)]; rfl
theorem pEnv_3 (d : Nat → Value) (lv ov : Value) (n i : Nat) : (pEnv d lv ov n i).get 3 = ov := by rw [pEnv, mkEnv_get _ _ _ (by omega)]; rfl
/-- frames that differ in what is known of the list and of dead slots -/
theorem lEnv_sub {R : Nat → Option Nat → Nat → Prop} {e : Env} {lv lv' : Value} {n i : Nat} (hn : e.n = 61) (h17 : e.get 17 = lv) (h18 : e.get 18 = .int .i64 n) (h19 : e.get 19 = .int .i64 i) (hl : Sub R lv lv') :
    ESub R e (lEnv (fun j => erase (e.get j)) lv' n i) := by
  refine ⟨hn.symm ▸ rfl, fun j hj => ?_⟩
  rw [lEnv, mkEnv_get _ _ _ (by omega)]
  cases b1 : Nat.beq j 17 with
  | true => obtain rfl := Nat.eq_of_beq_eq_true b1; rw [h17]; exact hl
  | false =>
    cases b2 : Nat.beq j 18 with
    | true => obtain rfl := Nat.eq_of_beq_eq_true b2; rw [h18]; exact .int _ _
    | false =>
      cases b3 : Nat.beq j 19 with
      | true => obtain rfl := Nat.eq_of_beq_eq_true b3; rw [h19]; exact .int _ _
      | false => exact sub_erase _
theorem pEnv_sub {R : Nat → Option Nat → Nat → Prop} {e : Env} {lv lv' ov ov' : Value} {n i : Nat} (hn : e.n = 50) (h3 : e.get 3 = ov) (h8 : e.get 8 = lv) (h9 : e.get 9 = .int .i64 n) (h10 : e.get 10 = .int .i64 i) (ho : Sub R ov ov') (hl : Sub R lv lv') :
    ESub R e (pEnv (fun j => erase (e.get j)) lv' ov' n i) := by
  refine ⟨hn.symm ▸ rfl, fun j hj => ?_⟩
  rw [pEnv, mkEnv_get _ _ _ (by omega)]
  cases b0 : Nat.beq j 3 with
  | true => obtain rfl := Nat.eq_of_beq_eq_true b0; rw [h3]; exact ho
  | false =>
    cases b1 : Nat.beq j 8 with
    | true => obtain rfl := Nat.eq_of_beq_eq_true b1; rw [h8]; exact hl
    | false =>
      cases b2 : Nat.beq j 9 with
      | true => obtain rfl := Nat.eq_of_beq_eq_true b2; rw [h9]; exact .int _ _
      | false =>
        cases b3 : Nat.beq j 10 with
        | true => obtain rfl := Nat.eq_of_beq_eq_true b3; rw [h10]; exact .int _ _
        | false => exact sub_erase _
theorem lEnv_18 (d : Nat → Value) (lv : Value) (n i : Nat) : (lEnv d lv n i).get 18 = .int .i64 n := by rw [lEnv, mkEnv_get _ _ _ (by omega)]; rfl
theorem lEnv_19 (d : Nat → Value) (lv : Value) (n i : Nat) : (lEnv d lv n i).get 19 = .int .i64 i := by rw [lEnv, mkEnv_get _ _ _ (by omega)]; rfl
theorem pEnv_9 (d : Nat → Value) (lv ov : Value) (n i : Nat) : (pEnv d lv ov n i).get 9 = .int .i64 n := by rw [pEnv, mkEnv_get _ _ _ (by omega)]; rfl
theorem pEnv_10 (d : Nat → Value) (lv ov : Value) (n i : Nat) : (pEnv d lv ov n i).get 10 = .int .i64 i := by rw [pEnv, mkEnv_get _ _ _ (by omega)]; rfl

/-- the small memory at an element -/
theorem rows6_obj {g : Nat → Option AObj} {ρ : Nat → Nat} {k : Nat} {q : Nat → List Value} {mv : Nat → Nat} {A B : List Value} {r : Rc} {il ml : Nat} {ρ' : Nat → Nat} (hρ : ∀ j, j < 6 → ρ' j = ρ j) (hk : 6 ≤ k) (h0 : ρ 0 = il) (hl : g il = some (.arr (A ++ (r.cells ++ B)) ml true))
    (hr : ∀ j, 1 ≤ j → j < 6 → ∃ row, g (ρ j) = some (.arr row (mv j) true) ∧ ∀ R, Subs R row (q j)) (hc : ∀ R : Nat → Option Nat → Nat → Prop, (∀ j, 1 ≤ j → j < 6 → ∀ sp, R (ρ j) sp j) → Subs R r.cells r.small) :
    ∀ i, i < 6 → ORel (fun j _ i => i < k ∧ ρ' i = j) (g (ρ i)) ((rows6 (oneRow A r.small B) (q 1) (q 2) (q 3) (q 4) (q 5) ml (mv 1) (mv 2) (mv 3) (mv 4) (mv 5)).get i) := by
  intro i hi
  obtain rfl | rfl | rfl | rfl | rfl | rfl : i = 0 ∨ i = 1 ∨ i = 2 ∨ i = 3 ∨ i = 4 ∨ i = 5 := by omega
  · rw [h0, hl, show (rows6 (oneRow A r.small B) (q 1) (q 2) (q 3) (q 4) (q 5) ml (mv 1) (mv 2) (mv 3) (mv 4) (mv 5)).get 0 = some (.arr (oneRow A r.small B) ml true) from by kernel_rfl]
    exact OSub.arr (subs_oneRow (hc _ fun j h1 h2 sp => ⟨by omega, hρ j h2⟩))
  · obtain ⟨row, h1, h2⟩ := hr 1 (by omega) (by omega)
    rw [h1, show (rows6 (oneRow A r.small B) (q 1) (q 2) (q 3) (q 4) (q 5) ml (mv 1) (mv 2) (mv 3) (mv 4) (mv 5)).get 1 = some (.arr (q 1) (mv 1) true) from by kernel_rfl]
    exact OSub.arr (h2 _)
  · obtain ⟨row, h1, h2⟩ := hr 2 (by omega) (by omega)
    rw [h1, show (rows6 (oneRow A r.small B) (q 1) (q 2) (q 3) (q 4) (q 5) ml (mv 1) (mv 2) (mv 3) (mv 4) (mv 5)).get 2 = some (.arr (q 2) (mv 2) true) from by kernel_rfl]
    exact OSub.arr (h2 _)
  · obtain ⟨row, h1, h2⟩ := hr 3 (by omega) (by omega)
    rw [h1, show (rows6 (oneRow A r.small B) (q 1) (q 2) (q 3) (q 4) (q 5) ml (mv 1) (mv 2) (mv 3) (mv 4) (mv 5)).get 3 = some (.arr (q 3) (mv 3) true) from by kernel_rfl]
    exact OSub.arr (h2 _)
  · obtain ⟨row, h1, h2⟩ := hr 4 (by omega) (by omega)
    rw [h1, show (rows6 (oneRow A r.small B) (q 1) (q 2) (q 3) (q 4) (q 5) ml (mv 1) (mv 2) (mv 3) (mv 4) (mv 5)).get 4 = some (.arr (q 4) (mv 4) true) from by kernel_rfl]
    exact OSub.arr (h2 _)
  · obtain ⟨row, h1, h2⟩ := hr 5 (by omega) (by omega)
    rw [h1, show (rows6 (oneRow A r.small B) (q 1) (q 2) (q 3) (q 4) (q 5) ml (mv 1) (mv 2) (mv 3) (mv 4) (mv 5)).get 5 = some (.arr (q 5) (mv 5) true) from by kernel_rfl]
    exact OSub.arr (h2 _)
theorem rows6_wf (r0 r1 r2 r3 r4 r5 : List Value) (m0 m1 m2 m3 m4 m5 : Nat) : (rows6 r0 r1 r2 r3 r4 r5 m0 m1 m2 m3 m4 m5).WF := ((((((wf_empty 0).new _).new _).new _).new _).new _).new _
theorem rows_ro {g : Nat → Option AObj} {ρ : Nat → Nat} {q : Nat → List Value} {mv : Nat → Nat} {cs : List Value} {il ml : Nat} (h0 : ρ 0 = il) (hl : g il = some (.arr cs ml true))
    (hr : ∀ j, 1 ≤ j → j < 6 → ∃ row, g (ρ j) = some (.arr row (mv j) true) ∧ ∀ R, Subs R row (q j)) : ∀ i, i < 6 → ∃ cs mv, g (ρ i) = some (.arr cs mv true) := by
  intro i hi
  by_cases h : i = 0
  · subst h; exact ⟨cs, ml, h0 ▸ hl⟩
  · obtain ⟨row, h1, _⟩ := hr i (by omega) hi
    exact ⟨row, _, h1⟩

theorem large_loop {s : St} (hw : s.WF) {il : Nat} {rs : List Rc} (hl : s.get il = some (.arr (rs.map Rc.cells).flatten (if rs.length = 0 then 1 else 0) true)) (hok : ∀ r ∈ rs, r.Ok s.get) :
    ∀ (t : List Rc) (i : Nat) (d : Nat → Value), rs.drop i = t → i ≤ rs.length → SK Tryz.prog 0 7 (.loop largeBody) (lEnv d (lS il rs.length) rs.length i) s (LE s (tailV i t)) := by
  intro t
  induction t with
  | nil =>
    intro i d ht hi
    have : rs.length ≤ i := List.drop_eq_nil_iff.1 ht
    refine sk_loop ((SK.norm (sk_ev Tryz.cfgOk (large_stop d rs.length i _ s this)) fun o e' s' ⟨h1, h2, h3⟩ => ⟨mkEnv 61 e'.get, h2.symm, fun j hj => mkEnv_get _ _ _ (by omega), ?_⟩) )
    subst h1
    exact ⟨h3, _, rfl, .inr ⟨rfl, rfl⟩⟩
  | cons r t ih =>
    intro i d ht hi
    obtain ⟨A, B, hfl, hA, hB, hin, ht', hr⟩ := at_elem ht
    rw [hfl] at hl
    obtain ⟨ρ, q, mv, h0, hrow, t1, t2, t3, t4, t5, hc⟩ := Rc.rows (hok r hr) hl
    refine sk_loop (sk_rows 6 6 ρ (WL il rs.length) 7 (s0 := rows6 (oneRow A r.small B) (q 1) (q 2) (q 3) (q 4) (q 5) (if rs.length = 0 then 1 else 0) (mv 1) (mv 2) (mv 3) (mv 4) (mv 5)) rfl (rows6_wf _ _ _ _ _ _ _ _ _ _ _ _)
      (rows_ro h0 hl hrow) (fun i j h1 h2 => by omega) (fun i h1 h2 => by omega) (fun i hi => ?_) (rows6_obj (fun _ _ => rfl) (by omega) h0 hl hrow hc) ?_ (lEnv_sub rfl (lEnv_17 ..) (lEnv_18 ..) (lEnv_19 ..) (lv' := lS 0 rs.length) (.slice ⟨by omega, h0⟩)) (fun i h1 h2 => by omega)
      (sk_ev Tryz.cfgOk (large_body _ rs.length i _ A B r.seq r.val r.fuel _ _ _ _ _ r.n1 r.n2 r.n3 r.n4 r.n5 _ _ _ _ _ (q 1) (q 2) (q 3) (q 4) (q 5) (mv 1) (mv 2) (mv 3) (mv 4) (mv 5) hA hB hin rfl)) ?_)
    · obtain ⟨cs, m, h⟩ := rows_ro h0 hl hrow i hi
      exact hw.lt h
    · rintro β t he j hi ⟨rfl, rfl⟩
      exact view_slot (lEnv_17 ..) β t he
    · rintro - o e0' s0' ⟨en, sn, _, hq⟩
      have hid : ∀ j, (∀ i, 6 ≤ i → i < 6 → ρ i ≠ j) → s.get j = s.get j := fun j _ => rfl
      refine ⟨sn, ?_⟩
      rcases hq with ⟨_, h⟩ | ⟨_, rfl, h6, hb⟩ | ⟨_, rfl, hb, h17, h18, h19⟩
      · omega
      · refine ⟨mkEnv 61 fun j => bif Nat.beq j 6 then .bool true else erase (e0'.get j), s, ⟨rfl, _, rfl, .inl ⟨rfl, rfl, ?_⟩⟩, ⟨en.symm ▸ rfl, fun j hj => ?_⟩, hw, .refl _, rfl, hid, fun i h1 h2 => by omega⟩
        · have hb : (decide ((i : Int) > 10) || r.big) = true := hb
          simp only [tailV, hb, Bool.true_or]
        · rw [mkEnv_get _ _ _ (by omega)]
          cases b : Nat.beq j 6 with
          | true => obtain rfl := Nat.eq_of_beq_eq_true b; rw [h6]; exact .bool _
          | false => exact sub_erase _
      · have hb : (decide ((i : Int) > 10) || r.big) = false := hb
        have hi10 : i ≤ 10 := by
          rw [Bool.or_eq_false_iff, decide_eq_false_iff_not] at hb
          omega
        rw [wrap_next (by omega)] at h19
        refine ⟨lEnv (fun j => erase (e0'.get j)) (lS il rs.length) rs.length (i + 1), s, ?_, lEnv_sub en h17 h18 h19 (.slice (.inr ⟨by omega, by rw [ownT, if_neg (by omega)], h0, _, rfl, rfl, rfl⟩)), hw, .refl _, rfl, hid, fun i h1 h2 => by omega⟩
        have : tailV i (r :: t) = tailV (i + 1) t := by simp only [tailV, hb, Bool.false_or]
        rw [this]
        exact ih (i + 1) _ ht' (by omega)
/-- behind the rounds of 'program' -/
def PE (s0 : St) (o : Out) (e' : Env) (s' : St) : Prop := o = .exit 0 ∧ s'.n = s0.n + 1 ∧ (∀ j, j < s0.n → s'.get j = s0.get j) ∧ ∃ d', e' = mkEnv 50 d' ∧ refy (d' 3) = true
theorem rows7_low (r0 r1 r2 r3 r4 r5 row : List Value) (m0 m1 m2 m3 m4 m5 i : Nat) (h : i < 6) : (rows7 r0 r1 r2 r3 r4 r5 m0 m1 m2 m3 m4 m5 row).get i = (rows6 r0 r1 r2 r3 r4 r5 m0 m1 m2 m3 m4 m5).get i := by
  have h6 : (rows6 r0 r1 r2 r3 r4 r5 m0 m1 m2 m3 m4 m5).n = 6 := rfl
  rw [rows7, St.get_new, h6, if_neg (by omega)]
theorem rows7_six (r0 r1 r2 r3 r4 r5 row : List Value) (m0 m1 m2 m3 m4 m5 : Nat) : (rows7 r0 r1 r2 r3 r4 r5 m0 m1 m2 m3 m4 m5 row).get 6 = some (.arr row 0 false) := by kernel_rfl

theorem prog_loop {s0 : St} (hw0 : s0.WF) {il : Nat} {rs : List Rc} (hl0 : s0.get il = some (.arr (rs.map Rc.cells).flatten (if rs.length = 0 then 1 else 0) true)) (hok0 : ∀ r ∈ rs, r.Ok s0.get) (hbig : ∀ r ∈ rs, r.big = false) (hlen : rs.length ≤ 11) :
    ∀ (t : List Rc) (i : Nat) (d : Nat → Value) (s : St) (row : List Value), rs.drop i = t → i ≤ rs.length → s.n = s0.n + 1 → (∀ j, j < s0.n → s.get j = s0.get j) → s.get s0.n = some (.arr row 0 false) → row.length = i * 8 →
      SK Tryz.prog 0 9 (.loop progBody) (pEnv d (lS il rs.length) (outS s0.n i) rs.length i) s (PE s0) := by
  intro t
  induction t with
  | nil =>
    intro i d s row ht hi hn hget hrow hlrow
    have : rs.length ≤ i := List.drop_eq_nil_iff.1 ht
    refine sk_loop ((SK.norm (sk_ev Tryz.cfgOk (prog_stop d rs.length i _ (outS s0.n i) s this)) fun o e' s' ⟨h1, h2, h3, h4⟩ => ⟨mkEnv 50 e'.get, h2.symm, fun j hj => mkEnv_get _ _ _ (by omega), ?_⟩))
    subst h1; subst h4
    exact ⟨rfl, hn, hget, _, rfl, by rw [h3]; rfl⟩
  | cons r t ih =>
    intro i d s row ht hi hn hget hrow hlrow
    obtain ⟨A, B, hfl, hA, hB, hin, ht', hr⟩ := at_elem ht
    have hl1 := hl0
    rw [hfl] at hl1
    obtain ⟨ρ0, q, mv, h0, hrw0, t1, t2, t3, t4, t5, hc⟩ := Rc.rows (hok0 r hr) hl1
    let ρ : Nat → Nat := fun j => if j < 6 then ρ0 j else s0.n
    have ρlow : ∀ j, j < 6 → ρ j = ρ0 j := fun j hj => if_pos hj
    have ρ6 : ρ 6 = s0.n := rfl
    have ρown : ∀ i, 6 ≤ i → i < 7 → ρ i = s0.n := fun i h1 h2 => by obtain rfl : i = 6 := by omega
                                                                     rfl
    have lt0 : ∀ i, i < 6 → ρ0 i < s0.n := fun i hi => by
      obtain ⟨cs, m, h⟩ := rows_ro h0 hl1 hrw0 i hi
      exact hw0.lt h
    have hl2 : s.get il = some (.arr (A ++ (r.cells ++ B)) (if rs.length = 0 then 1 else 0) true) := by rw [hget il (hw0.lt hl0)]; exact hl1
    have hrw : ∀ j, 1 ≤ j → j < 6 → ∃ row, s.get (ρ0 j) = some (.arr row (mv j) true) ∧ ∀ R, Subs R row (q j) := fun j h1 h2 => by
      rw [hget _ (lt0 j h2)]; exact hrw0 j h1 h2
    have hc' : ∀ R : Nat → Option Nat → Nat → Prop, (∀ j, 1 ≤ j → j < 6 → ∀ sp, R (ρ0 j) sp j) → Subs R r.cells r.small := hc
    have hb := Rc.big_not (hbig r hr)
    have hrown : ¬ RoAt s s0.n := by
      rintro ⟨cs, m, h⟩
      rw [hrow] at h
      cases h
    refine sk_loop (sk_rows 6 7 ρ (WL il rs.length) 15 (s0 := rows7 (oneRow A r.small B) (q 1) (q 2) (q 3) (q 4) (q 5) (if rs.length = 0 then 1 else 0) (mv 1) (mv 2) (mv 3) (mv 4) (mv 5) (erase.eraseL row)) rfl ((rows6_wf _ _ _ _ _ _ _ _ _ _ _ _).new _)
      (fun i hi => ?_) (fun i j h1 h2 h3 h4 _ => by omega) (fun i h1 h2 => by rw [ρown i h1 h2]; exact hrown) (fun i hi => ?_) (fun i hi => ?_) ?_
      (pEnv_sub rfl (pEnv_3 ..) (pEnv_8 ..) (pEnv_9 ..) (pEnv_10 ..) (ov' := outS 6 i) (lv' := lS 0 rs.length) (.slice ⟨by omega, rfl⟩) (.slice ⟨by omega, (ρlow 0 (by omega)).trans h0⟩)) (fun i h1 h2 => ?_)
      (sk_ev Tryz.cfgOk (prog_body _ rs.length i _ A B (erase.eraseL row) r.seq r.val r.fuel _ _ _ _ _ r.n1 r.n2 r.n3 r.n4 r.n5 _ _ _ _ _ (q 1) (q 2) (q 3) (q 4) (q 5) (mv 1) (mv 2) (mv 3) (mv 4) (mv 5) hA hB hin rfl (by rw [eraseL_length]; exact hlrow) (by omega) t1 t2 t3 t4 t5
        (by omega) (by omega) (by omega) (by omega) (by omega))) ?_)
    · rw [ρlow i hi]
      exact rows_ro h0 hl2 hrw i hi
    · by_cases h : i < 6
      · rw [ρlow i h, hn]; have := lt0 i h; omega
      · rw [ρown i (by omega) hi, hn]; omega
    · by_cases h : i < 6
      · rw [ρlow i h, rows7_low _ _ _ _ _ _ _ _ _ _ _ _ _ i h]
        exact rows6_obj (k := 7) ρlow (by omega) h0 hl2 hrw hc' i h
      · rw [ρown i (by omega) hi, hrow]
        obtain rfl : i = 6 := by omega
        rw [rows7_six]
        exact OSub.arr (subs_erase _)
    · rintro β t he j hi ⟨rfl, rfl⟩
      exact view_slot (pEnv_8 ..) β t he
    · rw [ρown i h1 h2]
      exact dom_slot (j := 3) (pEnv_3 ..)
    · rintro hws o e0' s0' ⟨en, sn, hq⟩
      refine ⟨sn, ?_⟩
      rcases hq with ⟨_, h, _⟩ | ⟨_, rfl, h8, h9, h10, h3, more, hm, h6⟩
      · omega
      · rw [wrap_next (by omega)] at h10
        have gset : ∀ j, j < s0.n → (s.set s0.n (.arr (erase.eraseL (erase.eraseL row ++ more)) 0 false)).get j = s.get j := fun j hj => by rw [St.get_set, if_neg (by omega)]
        have gown : (s.set s0.n (.arr (erase.eraseL (erase.eraseL row ++ more)) 0 false)).get s0.n = some (.arr (erase.eraseL (erase.eraseL row ++ more)) 0 false) := by rw [St.get_set, if_pos rfl]
        have e1 : i * 8 + 1 * 8 = (i + 1) * 8 := by omega
        rw [e1] at h3
        refine ⟨pEnv (fun j => erase (e0'.get j)) (lS il rs.length) (outS s0.n (i + 1)) rs.length (i + 1), s.set s0.n (.arr (erase.eraseL (erase.eraseL row ++ more)) 0 false), ?_,
          pEnv_sub en h3 h8 h9 h10 (.slice (.inl (show ownT 6 7 ρ 6 = some s0.n by rw [ownT, if_pos ⟨by omega, by omega⟩, ρ6]))) (.slice (.inr ⟨by omega, by rw [ownT, if_neg (by omega)], (ρlow 0 (by omega)).trans h0, _, rfl, rfl, rfl⟩)),
          hws.set hrow, Grow.set (.inl (by rw [hrow]; exact id)), rfl, fun j hj => ?_, fun i h1 h2 => ?_⟩
        · refine ih (i + 1) _ _ _ ht' (by omega) hn (fun j hj => ?_) gown ?_
          · rw [gset j hj]; exact hget j hj
          · rw [eraseL_length, List.length_append, eraseL_length, hlrow, hm]; omega
        · have := hj 6 (by omega) (by omega)
          rw [ρ6] at this
          rw [St.get_set, if_neg (fun e => this e.symm)]
        · rw [ρown i h1 h2, gown]
          obtain rfl : i = 6 := by omega
          rw [h6]
          exact OSub.arr (subs_erase _)
end Go.Proofs.YtfnbgfmmlgbfjaaGreatDoor
