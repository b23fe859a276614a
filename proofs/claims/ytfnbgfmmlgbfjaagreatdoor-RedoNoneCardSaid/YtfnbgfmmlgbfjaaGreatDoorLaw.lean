/- What RedoNone comes to. -/
import Derived.Test.YtfnbgfmmlgbfjaaGreatDoorWhole
namespace Go.Proofs.YtfnbgfmmlgbfjaaGreatDoor
open Go.Ai
def SpR (lv : Value) (b : Bool) (s0 : St) : Contract := fun (f : FuncId) (args : List Value) (s : St) (v : Value) (s' : St) => (f = 6 ∧ args = [] ∧ v = .bool true ∧ s' = s) ∨
  (f = 7 ∧ args = [.slice none 0 0, lv, .slice none 0 0] ∧ s = s0 ∧ v = .bool b ∧ s' = s) ∨ (f = 9 ∧ args = [lv] ∧ b = false ∧ s = s0 ∧ v = .chan (some 0) ∧ s' = s)
theorem lslot_self {s : St} (hw : s.WF) {lv : Value} {rs : List Rc} (h : LSlot s lv rs) : Sub (idR s.n) lv lv := by
  rcases h with ⟨rfl, _⟩ | ⟨il, rfl, hl, _⟩
  · exact .sliceNil
  · exact .slice ⟨hw.lt hl, rfl⟩
theorem spR_ok {s0 : St} (hw : s0.WF) (hr : Rowed s0) {lv : Value} {rs : List Rc} (h : LSlot s0 lv rs) : SpecOk Tryz.prog 0 (SpR lv (tailV 0 rs) s0) where
  call := by
    rintro f args s v s' (⟨rfl, h2, h3, h4⟩ | ⟨rfl, rfl, rfl, rfl, rfl⟩ | ⟨rfl, rfl, hb, rfl, rfl, rfl⟩)
    · exact alive_ok.call _ _ _ _ _ ⟨List.mem_singleton.2 rfl, h2, h3, h4⟩
    · refine scf_rowed s'.n hr (.cons .sliceNil (.cons (lslot_self hw h) (.cons .sliceNil .nil))) ((large_sc hw h).up ?_)
      rintro v s1 ⟨rfl, rfl⟩
      exact ⟨Nat.le_refl _, fun _ _ => rfl, .bool _⟩
    · exact scf_rowed (s'.n + 1) hr (.cons (lslot_self hw h) .nil) (program_sc hw h hb)
  grow := by
    rintro f args s v s' (⟨_, _, _, rfl⟩ | ⟨_, _, _, _, rfl⟩ | ⟨_, _, _, _, _, rfl⟩) hw <;> exact ⟨hw, .refl _⟩
theorem sub_of_eq {R : Nat → Option Nat → Nat → Prop} {x : Value} (v : Value) (h : x = v) (hv : Sub R v v) : Sub R x x := h ▸ hv
theorem f3_fn : Tryz.cfg.fn 3 = some Tryz.f3 := by kernel_rfl
def errV (n : Int) : Value := .iface 40 (.int .i64 n)
def R4 (o : Out) (e : Env) (s : St) : Prop := o = .ret ∧ e.n = 72 ∧ s.n ≤ 40 ∧ e.get 4 = .bool true

set_option maxHeartbeats 4000000 in
set_option maxRecDepth 100000 in
theorem law_sc {s0 : St} (hw : s0.WF) (hr : Rowed s0) {lv : Value} {rs : List Rc} (h : LSlot s0 lv rs) (w : Int) : SC Tryz.prog 0 3 [lv, .int .i64 w] s0 fun v _ => v = .bool true := by
  have hS := sound_over (fs := [6, 7, 9]) (spR_ok hw hr h) (sound_run Tryz.cfgOk 300)
  refine sc_body Tryz.cfgOk f3_fn rfl ?_
  repeat' (with_reducible first | refine sk_seq ?_ | refine sk_block ?_ | refine sk_skip ?_ | refine sk_scope ?_)
  refine sk_regionK Tryz.cfgOk hS (by kernel_rfl) ?_
  repeat' (with_reducible first | refine sk_seq ?_ | refine sk_block ?_ | refine sk_skip ?_ | refine sk_scope ?_)
  refine sk_regionL Tryz.cfgOk hS ?_
  refine al_callN 6 [] (.bool true) s0 rfl (fun b h => by cases h) (by kernel_rfl) (by kernel_rfl) rfl (.inl ⟨rfl, rfl, rfl, rfl⟩) ?_ ?_
  · rintro v1 s1 (⟨_, _, rfl, rfl⟩ | ⟨h, _⟩ | ⟨h, _⟩)
    · exact ⟨rfl, rfl⟩
    · cases h
    · cases h
  refine al_known (by kernel_rfl) ?_
  repeat' (with_reducible first | refine sk_seq ?_ | refine sk_block ?_ | refine sk_skip ?_ | refine sk_scope ?_)
  refine sk_false (by kernel_rfl) ?_
  repeat' (with_reducible first | refine sk_seq ?_ | refine sk_block ?_ | refine sk_skip ?_ | refine sk_scope ?_)
  refine sk_regionL Tryz.cfgOk hS (al_chunk 1 (by kernel_rfl) ?_)
  refine al_st s0 (by kernel_rfl) ?_
  refine al_callN 7 [.slice none 0 0, lv, .slice none 0 0] (.bool (tailV 0 rs)) s0 rfl (fun b h => by cases h) (by kernel_rfl) (by kernel_rfl) rfl (.inr (.inl ⟨rfl, rfl, rfl, rfl, rfl⟩)) ?_ ?_
  · rintro v1 s1 (⟨h, _⟩ | ⟨_, _, _, rfl, rfl⟩ | ⟨h, _⟩)
    · cases h
    · exact ⟨rfl, rfl⟩
    · cases h
  refine al_known (by kernel_rfl) ?_
  generalize htl : tailV 0 rs = b at *
  cases b with
  | true =>
    repeat' (with_reducible first | refine sk_seq ?_ | refine sk_block ?_ | refine sk_skip ?_ | refine sk_scope ?_)
    refine sk_true (by kernel_rfl) ?_
    repeat' (with_reducible first | refine sk_seq ?_ | refine sk_block ?_ | refine sk_skip ?_ | refine sk_scope ?_)
    refine sk_regionK Tryz.cfgOk hS (by kernel_rfl) ?_
    repeat' (with_reducible first | refine sk_seq ?_ | refine sk_block ?_ | refine sk_skip ?_ | refine sk_scope ?_)
    refine sk_ret ?_
    exact ⟨[.bool true], by kernel_rfl, rfl⟩
  | false =>
    repeat' (with_reducible first | refine sk_seq ?_ | refine sk_block ?_ | refine sk_skip ?_ | refine sk_scope ?_)
    refine sk_false (by kernel_rfl) ?_
    repeat' (with_reducible first | refine sk_seq ?_ | refine sk_block ?_ | refine sk_skip ?_ | refine sk_scope ?_)
    refine sk_regionK Tryz.cfgOk hS (by kernel_rfl) ?_
    repeat' (with_reducible first | refine sk_seq ?_ | refine sk_block ?_ | refine sk_skip ?_ | refine sk_scope ?_)
    refine sk_regionL Tryz.cfgOk hS (al_chunk 2 (by kernel_rfl) ?_)
    refine al_st s0 (by kernel_rfl) ?_
    refine al_callN 9 [lv] (.chan (some 0)) s0 rfl (fun b h => by cases h) (by kernel_rfl) (by kernel_rfl) rfl (.inr (.inr ⟨rfl, rfl, rfl, rfl, rfl, rfl⟩)) ?_ ?_
    · rintro v1 s1 (⟨h, _⟩ | ⟨h, _⟩ | ⟨_, _, _, _, rfl, rfl⟩)
      · cases h
      · cases h
      · exact ⟨rfl, rfl⟩
    refine al_known (by kernel_rfl) ?_
    repeat' (with_reducible first | refine sk_seq ?_ | refine sk_block ?_ | refine sk_skip ?_ | refine sk_scope ?_)
    refine sk_st s0 (by kernel_rfl) ?_
    refine sk_regionL Tryz.cfgOk hS (al_chunk 1 (by kernel_rfl) ?_)
    refine al_st s0 (by kernel_rfl) ?_
    refine al_callN 9 [lv] (.chan (some 0)) s0 rfl (fun b h => by cases h) (by kernel_rfl) (by kernel_rfl) rfl (.inr (.inr ⟨rfl, rfl, rfl, rfl, rfl, rfl⟩)) ?_ ?_
    · rintro v1 s1 (⟨h, _⟩ | ⟨h, _⟩ | ⟨_, _, _, _, rfl, rfl⟩)
      · cases h
      · cases h
      · exact ⟨rfl, rfl⟩
    refine al_known (by kernel_rfl) ?_
    refine sk_st s0 (by kernel_rfl) ?_
    refine sk_drop 0 40 [1, 5, 7, 9] [4] (s0 := St.empty 0) rfl (Nat.zero_le _) (wf_empty 0) hw (Nat.le_refl _) (fun i hi => by omega) (fun i hi => by omega) ?_ (Q0 := R4) (sk_ev Tryz.cfgOk ?_) ?_
    · intro j hj
      simp only [List.mem_cons, List.not_mem_nil, or_false] at hj
      rcases hj with rfl | rfl | rfl | rfl
      · exact sub_of_eq (.int .i64 w) (by kernel_rfl) (.int _ _)
      · exact sub_of_eq (.pointer none) (by kernel_rfl) .ptrNil
      · exact sub_of_eq (errV 11) (by kernel_rfl) (.iface (.int _ _))
      · exact sub_of_eq (errV 11) (by kernel_rfl) (.iface (.int _ _))
    · repeat' (with_reducible first | refine ev_seq ?_ | refine ev_block ?_ | refine ev_loop ?_ | refine ev_skip ?_ | refine ev_scope ?_)
      refine ev_regionK 300 (by kernel_rfl) ?_
      repeat' (with_reducible first | refine ev_seq ?_ | refine ev_block ?_ | refine ev_loop ?_ | refine ev_skip ?_ | refine ev_scope ?_)
      refine ev_regionK 300 (by kernel_rfl) ?_
      repeat' (with_reducible first | refine ev_seq ?_ | refine ev_block ?_ | refine ev_loop ?_ | refine ev_skip ?_ | refine ev_scope ?_)
      refine ev_ret ?_
      exact ⟨rfl, by kernel_rfl, Nat.le_of_ble_eq_true (by kernel_rfl), by kernel_rfl⟩
    · rintro o e0' s0' ⟨rfl, en, sn, h4⟩
      refine ⟨sn, fun i hi => by omega, fun j hj => ?_, ?_⟩
      · obtain rfl := List.mem_singleton.1 hj
        rw [h4]
        exact .bool _
      · refine ⟨[(eraseEnv [4] e0').get 4], by kernel_rfl, ?_⟩
        show (eraseEnv [4] e0').get 4 = _
        rw [eraseEnv_get, if_pos (by omega), h4]
        rfl
end Go.Proofs.YtfnbgfmmlgbfjaaGreatDoor
