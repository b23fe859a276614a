/- What 'Frame' of the document's chapter 14 comes to. -/
import Derived.Test.YtfcfphkcoongdaaWhole
namespace Go.Proofs.Ytfcfphkcoongdaa
open Go.Ai
theorem f16_fn : Try.cfg.fn 16 = some Try.f16 := by kernel_rfl
def partsOf (N : Nat) : Nat := (N - 1) / 50 + 1
def rowK (s : St) (K : Nat) : St := s.new (.arr (List.replicate K junkV) 0 false)

/-- a call in a memory of one row, which makes a row of parts -/
theorem scf_parts {f : FuncId} {args args0 : List Value} {s s0 : St} {j0 K : Nat} {o : AObj} (hn0 : s0.n = 1) (hw0 : s0.WF) (hj : j0 < s.n) (h0 : s0.get 0 = some o) (hs : s.get j0 = some o) (ho : ∀ R, (∀ i j, R i j → True) → OSub R o o)
    (ha : Subs (fun j i => i < 1 ∧ j0 = j) args args0) (h : SC Try.prog 0 f args0 s0 fun v s' => ∃ id row, v = oSl id K ∧ 0 < id ∧ s'.n ≤ 6 ∧ s'.get 0 = some o ∧ s'.get id = some (.arr row 0 false) ∧ row.length = K ∧ row.all refy = true) :
    SCF Try.prog 0 f args s fun v1 s1 => v1 = oSl s.n K ∧ s1 = rowK s K := by
  have gj : ∀ j, j < s.n → (rowK s K).get j = s.get j := fun j hj => by rw [rowK, St.get_new, if_neg (by omega)]
  have gn : (rowK s K).get s.n = some (.arr (List.replicate K junkV) 0 false) := by rw [rowK, St.get_new, if_pos rfl]
  refine sc_frame (G := 0) (k := 1) (ρ := fun _ => j0) (s0 := s0) ⟨hn0, fun i j hi hj _ => by omega, fun i hi => hj, fun i hi => ?_, fun g hg => absurd hg (Nat.not_lt_zero g), hw0⟩ 6 ha h ?_
  · obtain rfl : i = 0 := by omega
    rw [h0, hs]
    exact ho _ fun _ _ _ => trivial
  · rintro hw v0 s0' ⟨id, row, rfl, hid, h6, q0, q1, q2, q3⟩ hw0' hg
    have hlt := hw0'.lt q1
    refine ⟨h6, fun i => if i = 0 then some j0 else if i = id then some s.n else none, _, _, ⟨rfl, rfl⟩, ?_, ?_, ?_⟩
    · refine .slice ?_
      show (if id = 0 then some j0 else if id = id then some s.n else none) = some s.n
      rw [if_neg (by omega), if_pos rfl]
    · refine ⟨fun i hi => by rw [if_pos (by omega)], fun i j hi h => ?_, fun i i' j h h' => ?_, fun i j h => ?_, fun j hj' hne => gj j hj', by rw [rowK, St.n_new]; omega, hw.new _, .new s hw _⟩
      · rw [if_neg (by omega)] at h
        split at h
        · rename_i e
          obtain rfl := Option.some.inj h
          subst e
          exact ⟨hlt, Nat.le_refl _, by rw [rowK, St.n_new]; omega⟩
        · cases h
      · by_cases e0 : i = 0
        · by_cases e0' : i' = 0
          · omega
          · rw [if_pos e0] at h
            rw [if_neg e0'] at h'
            split at h'
            · have := Option.some.inj h
              have := Option.some.inj h'
              omega
            · cases h'
        · rw [if_neg e0] at h
          split at h
          · rename_i e1
            by_cases e0' : i' = 0
            · rw [if_pos e0'] at h'
              have := Option.some.inj h
              have := Option.some.inj h'
              omega
            · rw [if_neg e0'] at h'
              split at h'
              · omega
              · cases h'
          · cases h
      · by_cases e0 : i = 0
        · rw [if_pos e0] at h
          obtain rfl := Option.some.inj h
          subst e0
          rw [q0, gj _ hj, hs]
          exact ho _ fun _ _ _ => trivial
        · rw [if_neg e0] at h
          split at h
          · rename_i e1
            obtain rfl := Option.some.inj h
            subst e1
            rw [q1, gn]
            refine OSub.arr ?_
            rw [← q2]
            exact subs_refy q3
          · cases h
    · intro i hi
      exact .inr fun _ => gj _ hj

def SpF : Contract := fun (f : FuncId) (args : List Value) (s : St) (v : Value) (s' : St) => ∃ cs : List Value, f = 30 ∧ args = [.slice (some ⟨2, 0, some cs.length⟩) cs.length 1] ∧ cs.all plainC = true ∧ 1 ≤ cs.length ∧ cs.length ≤ 5000 ∧ s.get 2 = some (.arr cs 0 false) ∧ 2 < s.n ∧
  v = oSl s.n (partsOf cs.length) ∧ s' = rowK s (partsOf cs.length)
theorem spF_ok : SpecOk Try.prog 0 SpF where
  call := by
    rintro f args s v s' ⟨cs, rfl, rfl, hp, h1, h2, hg, hn, rfl, rfl⟩
    refine scf_parts (s0 := P0 cs) (j0 := 2) (o := .arr cs 0 false) rfl ((wf_empty 0).new _) hn (by kernel_rfl) hg (fun R _ => OSub.arr (subs_lit (plain_lit hp))) (args0 := [bSl 0 cs.length cs.length]) (.cons (.slice ⟨by omega, rfl⟩) .nil) ?_
    refine (parts_sc cs hp cs.length h1 h2).up ?_
    rintro v s' ⟨id, K, row, rfl, rfl, q1, q2, q3, q4, q5, q6⟩
    exact ⟨id, row, rfl, q1, q2, q3, q4, q5, q6⟩
  grow := by
    rintro f args s v s' ⟨cs, _, _, _, _, _, _, _, _, rfl⟩ hw
    exact ⟨hw.new _, .new s hw _⟩
def BytesQ (n m : Nat) (r : List Value) (v : Value) (s' : St) : Prop := ∃ cs : List Value, v = .slice (some ⟨2, 0, some cs.length⟩) cs.length 1 ∧ s'.get 2 = some (.arr cs 0 false) ∧ s'.get 0 = some (.arr r m true) ∧ 3 ≤ s'.n ∧ s'.n ≤ 4 ∧
  cs.all plainC = true ∧ (n < 128 → cs.length = n + 1) ∧ (128 ≤ n → cs.length = n + 2)
def lenOf (n : Nat) : Nat := bif Nat.blt n 128 then n + 1 else n + 2
set_option maxHeartbeats 4000000 in
set_option maxRecDepth 100000 in
theorem frame_sc (a : Option Addr) (n z m : Nat) (r : List Value) (d : Slot 0 1 m n z a) (l : r.length = n * 1) (p : r.all plainC = true) (hn : n ≤ 4096) :
    SC Try.prog 0 16 [.slice a n z] (row1 r m) fun v s' => ∃ id row, v = oSl id (partsOf (lenOf n)) ∧ 0 < id ∧ s'.n ≤ 6 ∧ s'.get 0 = some (.arr r m true) ∧ s'.get id = some (.arr row 0 false) ∧ row.length = partsOf (lenOf n) ∧ row.all refy = true := by
  have hev : EvF Try.cfg 31 [.slice a n z] (row1 r m) (BytesQ n m r) := bytes_ev a n z m r d l p hn
  obtain ⟨m31, h31⟩ := hev
  have hS := sound_over (fs := [30]) spF_ok (sound_run Try.cfgOk m31)
  refine sc_body Try.cfgOk f16_fn rfl ?_
  repeat' (with_reducible first | refine sk_seq ?_ | refine sk_block ?_ | refine sk_skip ?_ | refine sk_scope ?_)
  refine sk_regionK Try.cfgOk hS (by kernel_rfl) ?_
  repeat' (with_reducible first | refine sk_seq ?_ | refine sk_block ?_ | refine sk_skip ?_ | refine sk_scope ?_)
  refine sk_regionL Try.cfgOk hS (al_chunk 1 (by kernel_rfl) ?_)
  refine al_callE (Q := BytesQ n m r) 31 [.slice a n z] rfl (fun b h => by cases h) (by kernel_rfl) (by kernel_rfl) rfl (all_of_eq (s1 := row1 r m) (by kernel_rfl) h31) ?_
  rintro v s1 ⟨cs, rfl, g2, g0, gm, gn, cp, k1, k2⟩
  have hlen : cs.length = lenOf n := by
    unfold lenOf
    cases hb : Nat.blt n 128 with
    | true =>
      rw [Nat.blt_eq] at hb
      exact k1 hb
    | false =>
      have : ¬ n < 128 := fun h => by rw [← Nat.blt_eq] at h; rw [hb] at h; cases h
      exact k2 (by omega)
  have hl5 : 1 ≤ cs.length ∧ cs.length ≤ 5000 := by
    rw [hlen]
    unfold lenOf
    cases Nat.blt n 128 <;> simp only [cond_true, cond_false] <;> omega
  refine al_callN 30 [.slice (some ⟨2, 0, some cs.length⟩) cs.length 1] (oSl s1.n (partsOf cs.length)) (rowK s1 (partsOf cs.length)) rfl (fun b h => by cases h) (by kernel_rfl) (by kernel_rfl) rfl ⟨cs, rfl, rfl, cp, hl5.1, hl5.2, g2, by omega, rfl, rfl⟩ ?_ ?_
  · rintro v1 s2 ⟨cs', _, h2, _, _, _, _, _, rfl, rfl⟩
    have : cs.length = cs'.length := by
      injection h2 with h2 _
      injection h2
    rw [this]
    exact ⟨rfl, rfl⟩
  refine al_known (by kernel_rfl) ?_
  repeat' (with_reducible first | refine sk_seq ?_ | refine sk_block ?_ | refine sk_skip ?_ | refine sk_scope ?_)
  refine sk_ret ?_
  have hrow : (rowK s1 (partsOf cs.length)).get s1.n = some (.arr (List.replicate (partsOf cs.length) junkV) 0 false) := by rw [rowK, St.get_new, if_pos rfl]
  have hrow0 : (rowK s1 (partsOf cs.length)).get 0 = some (.arr r m true) := by rw [rowK, St.get_new, if_neg (by omega)]; exact g0
  have hrown : (rowK s1 (partsOf cs.length)).n ≤ 6 := by rw [rowK, St.n_new]; omega
  rw [← hlen]
  exact ⟨[oSl s1.n (partsOf cs.length)], by kernel_rfl, s1.n, List.replicate (partsOf cs.length) junkV, rfl, by omega, n_of_eq (s1 := rowK s1 (partsOf cs.length)) (by kernel_rfl) hrown, get_of_eq (s1 := rowK s1 (partsOf cs.length)) (by kernel_rfl) hrow0,
    get_of_eq (s1 := rowK s1 (partsOf cs.length)) (by kernel_rfl) hrow, by simp, rep_refy _⟩
end Go.Proofs.Ytfcfphkcoongdaa
