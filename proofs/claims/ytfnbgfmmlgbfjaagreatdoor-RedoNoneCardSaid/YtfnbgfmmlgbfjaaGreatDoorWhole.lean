/- What 'large' and 'program' come to, whole. -/
import Derived.Test.YtfnbgfmmlgbfjaaGreatDoorLoop
namespace Go.Proofs.YtfnbgfmmlgbfjaaGreatDoor
open Go.Ai
/-- a list of records in a memory -/
def LSlot (s : St) (lv : Value) (rs : List Rc) : Prop := (lv = .slice none 0 0 ∧ rs = []) ∨ ∃ il, lv = lS il rs.length ∧ s.get il = some (.arr (rs.map Rc.cells).flatten (if rs.length = 0 then 1 else 0) true) ∧ ∀ r ∈ rs, r.Ok s.get
theorem sk_head7 {c : Code} {e : Env} {s : St} {lv : Value} {n : Nat} {Q : Out → Env → St → Prop} (hn : e.n = 61) (h17 : e.get 17 = lv) (h18 : e.get 18 = .int .i64 n) (h19 : e.get 19 = .int .i64 (0 : Nat)) (h : SK Tryz.prog 0 7 c (lEnv e.get lv n 0) s Q) : SK Tryz.prog 0 7 c e s Q := by
  refine sk_same (lEnv e.get lv n 0) hn.symm (fun j hj => ?_) h
  rw [lEnv, mkEnv_get _ _ _ (by omega)]
  cases b1 : Nat.beq j 17 with
  | true => obtain rfl := Nat.eq_of_beq_eq_true b1; exact h17.symm
  | false =>
    cases b2 : Nat.beq j 18 with
    | true => obtain rfl := Nat.eq_of_beq_eq_true b2; exact h18.symm
    | false =>
      cases b3 : Nat.beq j 19 with
      | true => obtain rfl := Nat.eq_of_beq_eq_true b3; exact h19.symm
      | false => rfl
theorem sk_head9 {c : Code} {e : Env} {s : St} {lv ov : Value} {n : Nat} {Q : Out → Env → St → Prop} (hn : e.n = 50) (h3 : e.get 3 = ov) (h8 : e.get 8 = lv) (h9 : e.get 9 = .int .i64 n) (h10 : e.get 10 = .int .i64 (0 : Nat)) (h : SK Tryz.prog 0 9 c (pEnv e.get lv ov n 0) s Q) : SK Tryz.prog 0 9 c e s Q := by
  refine sk_same (pEnv e.get lv ov n 0) hn.symm (fun j hj => ?_) h
  rw [pEnv, mkEnv_get _ _ _ (by omega)]
  cases b0 : Nat.beq j 3 with
  | true => obtain rfl := Nat.eq_of_beq_eq_true b0; exact h3.symm
  | false =>
    cases b1 : Nat.beq j 8 with
    | true => obtain rfl := Nat.eq_of_beq_eq_true b1; exact h8.symm
    | false =>
      cases b2 : Nat.beq j 9 with
      | true => obtain rfl := Nat.eq_of_beq_eq_true b2; exact h9.symm
      | false =>
        cases b3 : Nat.beq j 10 with
        | true => obtain rfl := Nat.eq_of_beq_eq_true b3; exact h10.symm
        | false => rfl

set_option maxHeartbeats 4000000 in
set_option maxRecDepth 100000 in
theorem large_sc {s : St} (hw : s.WF) {lv : Value} {rs : List Rc} (h : LSlot s lv rs) : SC Tryz.prog 0 7 [.slice none 0 0, lv, .slice none 0 0] s fun v s' => v = .bool (tailV 0 rs) ∧ s' = s := by
  have hS := sound_run Tryz.cfgOk 300
  rcases h with ⟨rfl, rfl⟩ | ⟨il, rfl, hl, hok⟩
  · refine sc_rec (sound_run Tryz.cfgOk 300) ?_
    have : run Tryz.cfg 300 (.call 7 [.slice none 0 0, .slice none 0 0, .slice none 0 0]) s = .ret (.val (.bool false), s) := by kernel_rfl
    rw [this]
    exact ⟨_, rfl, rfl, rfl⟩
  · refine sc_body Tryz.cfgOk f7_fn rfl ?_
    repeat' (with_reducible first | refine sk_seq ?_ | refine sk_block ?_ | refine sk_skip ?_ | refine sk_scope ?_)
    refine sk_regionK Tryz.cfgOk hS (by kernel_rfl) ?_
    repeat' (with_reducible first | refine sk_seq ?_ | refine sk_block ?_ | refine sk_skip ?_ | refine sk_scope ?_)
    refine sk_regionK Tryz.cfgOk hS (by kernel_rfl) ?_
    repeat' (with_reducible first | refine sk_seq ?_ | refine sk_block ?_ | refine sk_skip ?_ | refine sk_scope ?_)
    refine sk_false (by kernel_rfl) ?_
    repeat' (with_reducible first | refine sk_seq ?_ | refine sk_block ?_ | refine sk_skip ?_ | refine sk_scope ?_)
    refine sk_regionK Tryz.cfgOk hS (by kernel_rfl) ?_
    repeat' (with_reducible first | refine sk_seq ?_ | refine sk_block ?_ | refine sk_skip ?_ | refine sk_scope ?_)
    refine sk_st s (by kernel_rfl) ?_
    refine SK.up (Q := LE s (tailV 0 rs)) (sk_head7 (lv := lS il rs.length) (n := rs.length) (by kernel_rfl) (by kernel_rfl) (by kernel_rfl) (by kernel_rfl) (large_loop hw hl hok rs 0 _ rfl (Nat.zero_le _))) ?_
    rintro o e' s' ⟨rfl, d', rfl, ⟨rfl, h6, hb⟩ | ⟨rfl, hb⟩⟩
    · refine ⟨[(mkEnv 61 d').get 6], by kernel_rfl, ?_, rfl⟩
      show (mkEnv 61 d').get 6 = _
      rw [mkEnv_get _ _ _ (by omega), h6, hb]
    · with_reducible refine if_hit rfl ?_
      repeat' (with_reducible first | refine sk_seq ?_ | refine sk_block ?_ | refine sk_skip ?_ | refine sk_scope ?_)
      refine sk_regionK Tryz.cfgOk hS (by kernel_rfl) ?_
      repeat' (with_reducible first | refine sk_seq ?_ | refine sk_block ?_ | refine sk_skip ?_ | refine sk_scope ?_)
      refine sk_ret ?_
      rw [hb]
      exact ⟨[.bool false], by kernel_rfl, rfl, by kernel_rfl⟩

set_option maxHeartbeats 4000000 in
set_option maxRecDepth 100000 in
theorem program_sc {s : St} (hw : s.WF) {lv : Value} {rs : List Rc} (h : LSlot s lv rs) (hb : tailV 0 rs = false) : SC Tryz.prog 0 9 [lv] s fun v s' => s'.n ≤ s.n + 1 ∧ (∀ i, i < s.n → s'.get i = s.get i) ∧ Sub (idR s.n) v (.chan (some 0)) := by
  have hS := sound_run Tryz.cfgOk 300
  have new_get : ∀ i, i < s.n → (s.new (.arr [] 0 false)).get i = s.get i := fun i hi => by rw [St.get_new, if_neg (by omega)]
  rcases h with ⟨rfl, rfl⟩ | ⟨il, rfl, hl, hok⟩
  · refine sc_rec (sound_run Tryz.cfgOk 300) ?_
    have : run Tryz.cfg 300 (.call 9 [.slice none 0 0]) s = .ret (.val (.slice (some ⟨s.n, 0, some 0⟩) 0 8), s.new (.arr [] 0 false)) := by kernel_rfl
    rw [this]
    exact ⟨_, rfl, Nat.le_refl _, new_get, .junk 0 rfl⟩
  · obtain ⟨hbig, hlen⟩ := tailV_not hb
    have hlen : rs.length ≤ 11 := by
      rcases hlen with rfl | h
      · simp
      · omega
    refine sc_body Tryz.cfgOk f9_fn rfl ?_
    repeat' (with_reducible first | refine sk_seq ?_ | refine sk_block ?_ | refine sk_skip ?_ | refine sk_scope ?_)
    refine sk_regionK Tryz.cfgOk hS (by kernel_rfl) ?_
    repeat' (with_reducible first | refine sk_seq ?_ | refine sk_block ?_ | refine sk_skip ?_ | refine sk_scope ?_)
    refine sk_regionK Tryz.cfgOk hS (by kernel_rfl) ?_
    repeat' (with_reducible first | refine sk_seq ?_ | refine sk_block ?_ | refine sk_skip ?_ | refine sk_scope ?_)
    refine sk_regionK Tryz.cfgOk hS (by kernel_rfl) ?_
    repeat' (with_reducible first | refine sk_seq ?_ | refine sk_block ?_ | refine sk_skip ?_ | refine sk_scope ?_)
    refine sk_st (s.new (.arr [] 0 false)) (by kernel_rfl) ?_
    refine SK.up (Q := PE s) (sk_head9 (lv := lS il rs.length) (ov := outS s.n 0) (n := rs.length) (by kernel_rfl) (by kernel_rfl) (by kernel_rfl) (by kernel_rfl) (by kernel_rfl)
      (prog_loop hw hl hok hbig hlen rs 0 _ (s.new (.arr [] 0 false)) [] rfl (Nat.zero_le _) rfl new_get (by rw [St.get_new, if_pos rfl]) rfl)) ?_
    rintro o e' s' ⟨rfl, hn, hg, d', rfl, h3⟩
    with_reducible refine if_hit rfl ?_
    repeat' (with_reducible first | refine sk_seq ?_ | refine sk_block ?_ | refine sk_skip ?_ | refine sk_scope ?_)
    refine sk_regionK Tryz.cfgOk hS (by kernel_rfl) ?_
    repeat' (with_reducible first | refine sk_seq ?_ | refine sk_block ?_ | refine sk_skip ?_ | refine sk_scope ?_)
    refine sk_st s' (by kernel_rfl) ?_
    refine sk_ret ?_
    exact ⟨[d' 3], by kernel_rfl, by omega, hg, .junk 0 h3⟩
end Go.Proofs.YtfnbgfmmlgbfjaaGreatDoor
