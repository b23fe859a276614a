/- The rounds of 'Parts', in whatever memory. -/
import Derived.Test.YtfcfphkcoongdaaParts
namespace Go.Proofs.Ytfcfphkcoongdaa
open Go.Ai
def ren (r : Nat) : Value → Value
  | .slice (some ⟨1, o, sp⟩) n sz => .slice (some ⟨r, o, sp⟩) n sz
  | v => v
def Okv (v : Value) : Prop := v = .slice none 0 0 ∨ (∃ o sp n sz, v = .slice (some ⟨0, o, sp⟩) n sz) ∨ ∃ o sp n sz, v = .slice (some ⟨1, o, sp⟩) n sz
theorem okv_b (off N L : Nat) : Okv (bSl off N L) := .inr (.inl ⟨_, _, _, _, rfl⟩)
theorem okv_o (k : Nat) : Okv (oSl 1 k) := .inr (.inr ⟨_, _, _, _, rfl⟩)
theorem plain_lit {l : List Value} (h : l.all plainC = true) : l.all litOk = true := by
  rw [List.all_eq_true] at h ⊢
  intro v hv
  have := h v hv
  simp only [plainC, Bool.and_eq_true] at this
  exact this.1
theorem subs_refy {R : Nat → Nat → Prop} : ∀ {row : List Value}, row.all refy = true → Subs R row (List.replicate row.length junkV)
  | [], _ => .nil
  | v :: l, h => by
    rw [List.all_cons, Bool.and_eq_true] at h
    exact .cons (.junk 0 h.1) (subs_refy h.2)
theorem erase_refy : ∀ {row : List Value}, row.all refy = true → (erase.eraseL row).all refy = true
  | [], _ => by simp [erase.eraseL]
  | v :: l, h => by
    rw [List.all_cons, Bool.and_eq_true] at h
    simp only [erase.eraseL, List.all_cons, Bool.and_eq_true]
    refine ⟨?_, erase_refy h.2⟩
    have h1 := h.1
    cases v <;> first
      | (simp [refy] at h1; done)
      | simp [erase, refy]
theorem rep_refy (k : Nat) : (List.replicate k junkV).all refy = true := by simp [List.all_replicate, junkV, refy]

/-- a part of 'Parts', looked at where its rows have the numbers 0 and 1 -/
theorem up {c : Code} {r1 : Nat} (hr : r1 = 1 ∨ r1 = 2) {cs : List Value} (hp : cs.all plainC = true) {k off N L : Nat} {e : Env} {s : St} {row : List Value} (hn : e.n = 22) (h0 : e.get 0 = bSl off N L) (h2 : e.get 2 = .slice none 0 0) (h3 : e.get 3 = oSl r1 k)
    (sn : r1 < s.n) (g0 : s.get 0 = some (.arr cs 0 false)) (g1 : s.get r1 = some (.arr row 0 false)) (hrow : row.all refy = true) (hlen : row.length = k) {Q0 Q : Out → Env → St → Prop}
    (hs : SK Try.prog 0 30 c (pEnv (fun j => erase (e.get j)) (bSl off N L) (oSl 1 k)) (P1 cs k) Q0)
    (hQ : ∀ o e0 s0, Q0 o e0 s0 → e0.n = 22 ∧ s0.n ≤ 5 ∧ s0.get 0 = some (.arr cs 0 false) ∧ (∃ row', s0.get 1 = some (.arr row' 0 false)) ∧ Okv (e0.get 0) ∧ Okv (e0.get 2) ∧ Okv (e0.get 3))
    (hQ' : ∀ o e0 s0 e1 s1 row', Q0 o e0 s0 → s0.get 1 = some (.arr row' 0 false) → e1.n = 22 → e1.get 0 = ren r1 (e0.get 0) → e1.get 2 = ren r1 (e0.get 2) → e1.get 3 = ren r1 (e0.get 3) → s1.n = s.n →
      s1.get 0 = some (.arr cs 0 false) → s1.get r1 = some (.arr (erase.eraseL row') 0 false) → Q o e1 s1) : SK Try.prog 0 30 c e s Q := by
  have hr0 : r1 ≠ 0 := by omega
  let ρ : Nat → Nat := fun i => if i = 0 then 0 else r1
  have ρ0 : ρ 0 = 0 := rfl
  have ρ1 : ρ 1 = r1 := rfl
  have two : ∀ i, i < 2 → i = 0 ∨ i = 1 := fun i hi => by omega
  have F : Fit 0 2 ρ s (P1 cs k) := by
    refine ⟨rfl, ?_, ?_, ?_, fun g hg => absurd hg (Nat.not_lt_zero g), ((wf_empty 0).new _).new _⟩
    · intro i j hi hj h
      rcases two i hi with rfl | rfl <;> rcases two j hj with rfl | rfl <;> first
        | rfl
        | (rw [ρ0, ρ1] at h; omega)
    · intro i hi
      rcases two i hi with rfl | rfl
      · rw [ρ0]; omega
      · exact sn
    · intro i hi
      rcases two i hi with rfl | rfl
      · rw [ρ0, g0, show (P1 cs k).get 0 = some (.arr cs 0 false) from by kernel_rfl]
        exact OSub.arr (subs_lit (plain_lit hp))
      · rw [ρ1, g1, show (P1 cs k).get 1 = some (.arr (List.replicate k junkV) 0 false) from by kernel_rfl]
        rw [← hlen]
        exact OSub.arr (subs_refy hrow)
  have he : ESub (fun j i => i < 2 ∧ ρ i = j) e (pEnv (fun j => erase (e.get j)) (bSl off N L) (oSl 1 k)) := by
    refine ⟨hn.symm, fun j hj => ?_⟩
    rw [pEnv, mkEnv_get _ _ _ (by omega)]
    cases b0 : Nat.beq j 0 with
    | true =>
      have := Nat.eq_of_beq_eq_true b0
      subst this
      rw [h0]
      exact .slice ⟨by omega, rfl⟩
    | false =>
      cases b2 : Nat.beq j 2 with
      | true =>
        have := Nat.eq_of_beq_eq_true b2
        subst this
        rw [h2]
        exact .sliceNil
      | false =>
        cases b3 : Nat.beq j 3 with
        | true =>
          have := Nat.eq_of_beq_eq_true b3
          subst this
          rw [h3]
          exact .slice ⟨by omega, rfl⟩
        | false => exact sub_erase _
  refine sk_frame (G := 0) (k := 2) (ρ := ρ) (s0 := P1 cs k) F 5 he hs ?_
  intro hw o e0 s0 hq hw0 hg0
  obtain ⟨en, n5, q0, ⟨row', q1⟩, k0, k2, k3⟩ := hQ o e0 s0 hq
  have ren_sub : ∀ v, Okv v → Sub (fun i j => (if i < 2 then some (ρ i) else none) = some j) v (ren r1 v) := by
    rintro v (rfl | ⟨_, _, _, _, rfl⟩ | ⟨_, _, _, _, rfl⟩)
    · exact .sliceNil
    · exact .slice rfl
    · exact .slice rfl
  have s1g0 : ((s.set 0 (.arr cs 0 false)).set r1 (.arr (erase.eraseL row') 0 false)).get 0 = some (.arr cs 0 false) := by rw [St.get_set, if_neg (by omega), St.get_set, if_pos rfl]
  have s1g1 : ((s.set 0 (.arr cs 0 false)).set r1 (.arr (erase.eraseL row') 0 false)).get r1 = some (.arr (erase.eraseL row') 0 false) := by rw [St.get_set, if_pos rfl]
  have sg1 : (s.set 0 (.arr cs 0 false)).get r1 = some (.arr row 0 false) := by rw [St.get_set, if_neg (by omega)]; exact g1
  refine ⟨n5, fun i => if i < 2 then some (ρ i) else none, mkEnv 22 (fun j => bif (Nat.beq j 0 || Nat.beq j 2 || Nat.beq j 3) then ren r1 (e0.get j) else erase (e0.get j)), (s.set 0 (.arr cs 0 false)).set r1 (.arr (erase.eraseL row') 0 false),
    hQ' o e0 s0 _ _ row' hq q1 rfl (mkEnv_get 22 _ 0 (by omega)) (mkEnv_get 22 _ 2 (by omega)) (mkEnv_get 22 _ 3 (by omega)) rfl s1g0 s1g1, ⟨en.symm, fun j hj => ?_⟩, ?_, ?_⟩
  · rw [mkEnv_get _ _ _ (by omega)]
    cases b0 : Nat.beq j 0 with
    | true =>
      have := Nat.eq_of_beq_eq_true b0
      subst this
      exact ren_sub _ k0
    | false =>
      cases b2 : Nat.beq j 2 with
      | true =>
        have := Nat.eq_of_beq_eq_true b2
        subst this
        exact ren_sub _ k2
      | false =>
        cases b3 : Nat.beq j 3 with
        | true =>
          have := Nat.eq_of_beq_eq_true b3
          subst this
          exact ren_sub _ k3
        | false => exact sub_erase _
  · refine ⟨fun i hi => if_pos hi, fun i j hi h => ?_, fun i i' j h h' => ?_, fun i j h => ?_, fun j hj hne => ?_, Nat.le_refl _, (hw.set g0).set sg1, (Grow.set (.inl (by rw [g0]; exact id))).trans (Grow.set (.inl (by rw [sg1]; exact id)))⟩
    · rw [if_neg (by omega)] at h; cases h
    · by_cases hi : i < 2
      · by_cases hi' : i' < 2
        · rw [if_pos hi] at h
          rw [if_pos hi'] at h'
          exact F.inj i i' hi hi' ((Option.some.inj h).trans (Option.some.inj h').symm)
        · rw [if_neg hi'] at h'; cases h'
      · rw [if_neg hi] at h; cases h
    · by_cases hi : i < 2
      · rw [if_pos hi] at h
        obtain rfl := Option.some.inj h
        rcases two i hi with rfl | rfl
        · rw [q0, ρ0, s1g0]
          exact OSub.arr (subs_lit (plain_lit hp))
        · rw [q1, ρ1, s1g1]
          exact OSub.arr (subs_erase _)
      · rw [if_neg hi] at h; cases h
    · have n0 := hne 0 (by omega)
      have n1 := hne 1 (by omega)
      rw [ρ0] at n0
      rw [ρ1] at n1
      rw [St.get_set, if_neg (by omega), St.get_set, if_neg (by omega)]
  · intro i hi
    rcases two i hi with rfl | rfl
    · exact .inl (dom_slot (j := 0) h0)
    · exact .inl (dom_slot (j := 3) h3)

def QL (r : Nat) (cs : List Value) (k L N : Nat) (o : Out) (e : Env) (s : St) : Prop := o = .exit 0 ∧ e.n = 22 ∧ e.get 2 = .slice none 0 0 ∧ (r < s.n ∧ s.n ≤ 3) ∧ s.get 0 = some (.arr cs 0 false) ∧
  ∃ k' L' off' row, e.get 0 = bSl off' N L' ∧ e.get 3 = oSl r k' ∧ s.get r = some (.arr row 0 false) ∧ row.length = k' ∧ row.all refy = true ∧ L' ≤ 50 ∧ (0 < L → 0 < L') ∧ 50 * k' + L' = 50 * k + L

theorem ql_ok {cs : List Value} {k L N : Nat} {o : Out} {e : Env} {s : St} (h : QL 1 cs k L N o e s) : e.n = 22 ∧ s.n ≤ 5 ∧ s.get 0 = some (.arr cs 0 false) ∧ (∃ row', s.get 1 = some (.arr row' 0 false)) ∧ Okv (e.get 0) ∧ Okv (e.get 2) ∧ Okv (e.get 3) := by
  obtain ⟨_, h1, h2, h3, h4, k', L', off', row, h5, h6, h7, _⟩ := h
  exact ⟨h1, by omega, h4, ⟨row, h7⟩, h5 ▸ okv_b .., .inl h2, h6 ▸ okv_o ..⟩
theorem ql_up {cs : List Value} {r k L N : Nat} {o : Out} {e e1 : Env} {s s1 : St} {row' : List Value} (h : QL 1 cs k L N o e s) (hr : s.get 1 = some (.arr row' 0 false)) (hn : e1.n = 22) (h0 : e1.get 0 = ren r (e.get 0)) (h2 : e1.get 2 = ren r (e.get 2)) (h3 : e1.get 3 = ren r (e.get 3))
    (hs : r < s1.n ∧ s1.n ≤ 3) (g0 : s1.get 0 = some (.arr cs 0 false)) (g1 : s1.get r = some (.arr (erase.eraseL row') 0 false)) : QL r cs k L N o e1 s1 := by
  obtain ⟨rfl, q1, q2, q3, q4, k', L', off', row, q5, q6, q7, q8, q9, q10⟩ := h
  rw [q7] at hr
  cases hr
  refine ⟨rfl, hn, by rw [h2, q2]; rfl, hs, g0, k', L', off', _, by rw [h0, q5]; rfl, by rw [h3, q6]; rfl, g1, by rw [eraseL_length]; exact q8, erase_refy q9, q10⟩

theorem loop_sk {cs : List Value} (hp : cs.all plainC = true) (N : Nat) : ∀ (m L k off : Nat) (d : Nat → Value), L ≤ m → 50 * k + L ≤ 6000 → SK Try.prog 0 30 (.loop partsBody) (pEnv d (bSl off N L) (oSl 1 k)) (P1 cs k) (QL 1 cs k L N) := by
  intro m
  induction m with
  | zero =>
    intro L k off d hL hk
    refine sk_loop ((sk_ev Try.cfgOk (body_ev d cs k L off N (by omega))).up ?_)
    rintro o e1 s1 (⟨rfl, q1, q2, q3, q4, q5, q6, q7, q8⟩ | ⟨rfl, q1, _⟩)
    · exact ⟨rfl, q2, q4, by omega, q7, k, L, off, _, q3, q5, q8, by simp, rep_refy k, q1, id, rfl⟩
    · omega
  | succ m ih =>
    intro L k off d hL hk
    refine sk_loop ((sk_ev Try.cfgOk (body_ev d cs k L off N (by omega))).up ?_)
    rintro o e1 s1 (⟨rfl, q1, q2, q3, q4, q5, q6, q7, q8⟩ | ⟨rfl, q1, q2, q3, q4, q5, q6, q7, x, hx, q8⟩)
    · exact ⟨rfl, q2, q4, by omega, q7, k, L, off, _, q3, q5, q8, by simp, rep_refy k, q1, id, rfl⟩
    · refine up (.inl rfl) hp q2 q3 q4 q5 (by omega) q7 q8 (by rw [List.all_append, rep_refy]; simp [hx]) (by simp) (ih (L - 50) (k + 1) (off + 50) _ (by omega) (by omega)) (fun o e0 s0 h => ql_ok h) fun o e0 s0 e1' s1' row' h hr hn h0 h2 h3 hsn g0 g1 => ?_
      have := ql_up h hr hn h0 h2 h3 (by omega) g0 g1
      obtain ⟨z1, z2, z3, z4, z5, k', L', off', row, w1, w2, w3, w4, w5, w6, w7, w8⟩ := this
      exact ⟨z1, z2, z3, z4, z5, k', L', off', row, w1, w2, w3, w4, w5, w6, fun h => w7 (by omega), by omega⟩
end Go.Proofs.Ytfcfphkcoongdaa
