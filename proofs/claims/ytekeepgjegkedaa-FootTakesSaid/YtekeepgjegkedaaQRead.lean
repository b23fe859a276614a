/- What is read of bytes, by the document. -/
import Derived.Test.YtekeepgjegkedaaRead
import Derived.Test.YtekeepgjegkedaaKit
set_option linter.unusedVariables false
set_option linter.unusedSimpArgs false
set_option linter.unnecessarySimpa false
namespace Go.Proofs.Ytekeepgjegkedaa
open Go.Ai
noncomputable def smV (b : List UInt8) (bad : Bool) : Int := if rdV b bad > 100000 then -1 else ((rdV b bad : Nat) : Int)
theorem sm_le (b : List UInt8) (bad : Bool) : -1 ≤ smV b bad ∧ smV b bad ≤ 100000 := by unfold smV; split <;> omega
theorem sm_uv {x : Nat} {r : List UInt8} (h : x ≤ 100000) : smV (uv x ++ r) false = (x : Int) := by
 unfold smV;rw [rdV_uv Z5, if_neg Z5]
noncomputable def qks : Nat → List UInt8 → Bool → List Key × List UInt8 × Bool
 | 0, b, bad => ([], b, bad)
 | n + 1, b, bad => if bad = true then ([], b, bad) else
  ((smV b bad, unf (rdV (rdR b bad) (rdB b bad))) :: (qks n (rdR (rdR b bad) (rdB b bad)) (rdB (rdR b bad) (rdB b bad))).1, (qks n (rdR (rdR b bad) (rdB b bad)) (rdB (rdR b bad) (rdB b bad))).2)
noncomputable def qss : Nat → List UInt8 → Bool → List Span × List UInt8 × Bool
 | 0, b, bad => ([], b, bad)
 | n + 1, b, bad => if bad = true then ([], b, bad) else
  ((smV b bad, unf (rdV (rdR b bad) (rdB b bad)), unf (rdV (rdR (rdR b bad) (rdB b bad)) (rdB (rdR b bad) (rdB b bad)))) :: (qss n (rdR (rdR (rdR b bad) (rdB b bad)) (rdB (rdR b bad) (rdB b bad))) (rdB (rdR (rdR b bad) (rdB b bad)) (rdB (rdR b bad) (rdB b bad)))).1, (qss n (rdR (rdR (rdR b bad) (rdB b bad)) (rdB (rdR b bad) (rdB b bad))) (rdB (rdR (rdR b bad) (rdB b bad)) (rdB (rdR b bad) (rdB b bad)))).2)
noncomputable def qkeys (b : List UInt8) (bad : Bool) : List Key × List UInt8 × Bool := qks (smV b bad).toNat (rdR b bad) (rdB b bad)
noncomputable def qspans (b : List UInt8) (bad : Bool) : List Span × List UInt8 × Bool := qss (smV b bad).toNat (rdR b bad) (rdB b bad)
theorem qks_stop {n : Nat} {b : List UInt8} {bad : Bool} (h : bad = true ∨ n = 0) : qks n b bad = ([], b, bad) := by
  cases n with
  | zero => rfl
  | succ n => rcases h with h | h
              · rw [qks, if_pos h]
              · cases h
theorem qss_stop {n : Nat} {b : List UInt8} {bad : Bool} (h : bad = true ∨ n = 0) : qss n b bad = ([], b, bad) := by
  cases n with
  | zero => rfl
  | succ n => rcases h with h | h
              · rw [qss, if_pos h]
              · cases h
theorem qks_step {acc : List Key} {n : Nat} {b : List UInt8} {bad : Bool} (hn : acc.length < n) (hb : ¬ bad = true) : (acc ++ [(smV b bad, unf (rdV (rdR b bad) (rdB b bad)))] ++ (qks (n - (acc.length + 1)) (rdR (rdR b bad) (rdB b bad)) (rdB (rdR b bad) (rdB b bad))).1, (qks (n - (acc.length + 1)) (rdR (rdR b bad) (rdB b bad)) (rdB (rdR b bad) (rdB b bad))).2) = (acc ++ (qks (n - acc.length) b bad).1, (qks (n - acc.length) b bad).2) := by
 obtain ⟨m, hm⟩ : ∃ m, n - acc.length = m + 1 := ⟨n - acc.length - 1, Z5⟩;have e : n - (acc.length + 1) = m := Z5
 rw [hm, e];simp only [qks, if_neg hb, List.append_assoc, List.cons_append, List.nil_append]
theorem qss_step {acc : List Span} {n : Nat} {b : List UInt8} {bad : Bool} (hn : acc.length < n) (hb : ¬ bad = true) : (acc ++ [(smV b bad, unf (rdV (rdR b bad) (rdB b bad)), unf (rdV (rdR (rdR b bad) (rdB b bad)) (rdB (rdR b bad) (rdB b bad))))] ++ (qss (n - (acc.length + 1)) (rdR (rdR (rdR b bad) (rdB b bad)) (rdB (rdR b bad) (rdB b bad))) (rdB (rdR (rdR b bad) (rdB b bad)) (rdB (rdR b bad) (rdB b bad)))).1, (qss (n - (acc.length + 1)) (rdR (rdR (rdR b bad) (rdB b bad)) (rdB (rdR b bad) (rdB b bad))) (rdB (rdR (rdR b bad) (rdB b bad)) (rdB (rdR b bad) (rdB b bad)))).2) = (acc ++ (qss (n - acc.length) b bad).1, (qss (n - acc.length) b bad).2) := by
 obtain ⟨m, hm⟩ : ∃ m, n - acc.length = m + 1 := ⟨n - acc.length - 1, Z5⟩;have e : n - (acc.length + 1) = m := Z5
 rw [hm, e];simp only [qss, if_neg hb, List.append_assoc, List.cons_append, List.nil_append]
theorem rd_room {b : List UInt8} {bad : Bool} (h : RdI b bad) : (rdB b bad = true ∧ rdR b bad = []) ∨ (rdB b bad = false ∧ (rdR b bad).length < b.length) := by
  unfold rdB rdR;cases bad
  · cases hq : rd b with
    | none => left; simp
    | some p =>
      right
      have := (rd_some (x := p.1) (r := p.2) hq).1;have := congrArg List.length this;have h2 := uv_pos p.1;rw [List.length_append] at this;simp
      omega
  · left; exact ⟨rfl, h rfl⟩
theorem qks_bad {n : Nat} {b : List UInt8} : qks n b true = ([], b, true) := qks_stop (.inl rfl)
theorem qss_bad {n : Nat} {b : List UInt8} : qss n b true = ([], b, true) := qss_stop (.inl rfl)
theorem qks_all : ∀ (n : Nat) (b : List UInt8) (bad : Bool), RdI b bad → (∀ k ∈ (qks n b bad).1, in64 k.2) ∧ (qks n b bad).1.length + (qks n b bad).2.1.length ≤ b.length + 1 ∧ RdI (qks n b bad).2.1 (qks n b bad).2.2
  | 0, b, bad, h => ⟨(fun k hk => Z1m), by simp [qks], h⟩
  | n + 1, b, bad, h => by
    by_cases hb : bad = true
    · rw [qks_stop (.inl hb)]
      exact ⟨(fun k hk => Z1m), Z0a, h⟩
    · have h1 := rdI_step h
      obtain ⟨i1, i2, i3⟩ := qks_all n _ _ (rdI_step h1);have g1 := rd_room h;have g2 := rd_room h1;have hl : (qks n (rdR (rdR b bad) (rdB b bad)) (rdB (rdR b bad) (rdB b bad))).1.length + (qks n (rdR (rdR b bad) (rdB b bad)) (rdB (rdR b bad) (rdB b bad))).2.1.length ≤ b.length := by
        rcases g2 with ⟨q1, q2⟩ | ⟨_, q2⟩
        · rw [q1, q2, qks_bad]; simp
        · rcases g1 with ⟨r1, r2⟩ | ⟨_, r2⟩
          · rw [r2] at q2; simp at q2
          · omega
      unfold qks;rw [if_neg hb];refine ⟨fun k hk => ?_, Z19, i3⟩;rcases List.mem_cons.1 hk with rfl | hk
      · exact unf_in _ (rdV_lt _ _)
      · exact i1 k hk
theorem qss_all : ∀ (n : Nat) (b : List UInt8) (bad : Bool), RdI b bad → (∀ k ∈ (qss n b bad).1, in64 k.2.1 ∧ in64 k.2.2) ∧ (qss n b bad).1.length + (qss n b bad).2.1.length ≤ b.length + 1 ∧ RdI (qss n b bad).2.1 (qss n b bad).2.2
  | 0, b, bad, h => ⟨(fun k hk => Z1m), by simp [qss], h⟩
  | n + 1, b, bad, h => by
    by_cases hb : bad = true
    · rw [qss_stop (.inl hb)]
      exact ⟨(fun k hk => Z1m), Z0a, h⟩
    · have h1 := rdI_step h
      have h2 := rdI_step h1;obtain ⟨i1, i2, i3⟩ := qss_all n _ _ (rdI_step h2);have g1 := rd_room h;have g2 := rdR_le (rdR b bad) (rdB b bad);have g3 := rd_room h2;have hl : (qss n (rdR (rdR (rdR b bad) (rdB b bad)) (rdB (rdR b bad) (rdB b bad))) (rdB (rdR (rdR b bad) (rdB b bad)) (rdB (rdR b bad) (rdB b bad)))).1.length + (qss n (rdR (rdR (rdR b bad) (rdB b bad)) (rdB (rdR b bad) (rdB b bad))) (rdB (rdR (rdR b bad) (rdB b bad)) (rdB (rdR b bad) (rdB b bad)))).2.1.length ≤ b.length := by
        rcases g3 with ⟨q1, q2⟩ | ⟨_, q2⟩
        · rw [q1, q2, qss_bad]; simp
        · rcases g1 with ⟨r1, r2⟩ | ⟨_, r2⟩
          · rw [r2] at g2; simp at g2; rw [r2, g2] at q2; simp at q2
          · omega
      unfold qss;rw [if_neg hb];refine ⟨fun k hk => ?_, Z19, i3⟩;rcases List.mem_cons.1 hk with rfl | hk
      · exact ⟨unf_in _ (rdV_lt _ _), unf_in _ (rdV_lt _ _)⟩
      · exact i1 k hk
theorem qkeys_all {b : List UInt8} {bad : Bool} (h : RdI b bad) : (∀ k ∈ (qkeys b bad).1, in64 k.2) ∧ (qkeys b bad).1.length + (qkeys b bad).2.1.length ≤ b.length + 1 ∧ RdI (qkeys b bad).2.1 (qkeys b bad).2.2 := by
 obtain ⟨h1, h2, h3⟩ := qks_all (smV b bad).toNat _ _ (rdI_step h);exact ⟨h1, Nat.le_trans h2 (Nat.add_le_add_right (rdR_le _ _) 1), h3⟩
theorem qspans_all {b : List UInt8} {bad : Bool} (h : RdI b bad) : (∀ k ∈ (qspans b bad).1, in64 k.2.1 ∧ in64 k.2.2) ∧ (qspans b bad).1.length + (qspans b bad).2.1.length ≤ b.length + 1 ∧ RdI (qspans b bad).2.1 (qspans b bad).2.2 := by
 obtain ⟨h1, h2, h3⟩ := qss_all (smV b bad).toNat _ _ (rdI_step h);exact ⟨h1, Nat.le_trans h2 (Nat.add_le_add_right (rdR_le _ _) 1), h3⟩
theorem sm_tab {n : Int} (h : 0 ≤ n ∧ n < 4) {r : List UInt8} : smV (uv (u64 n) ++ r) false = n := by
 have hu := u64_small h;rw [sm_uv Z5];omega
theorem qks_back : ∀ (ks : List Key) (r : List UInt8), (∀ k ∈ ks, (0 ≤ k.1 ∧ k.1 < 4) ∧ in64 k.2) → qks ks.length (catB kb ks ++ r) false = (ks, r, false)
  | [], r, _ => rfl
  | k :: ks, r, h => by
    have hk := h k (List.mem_cons_self ..);have e : catB kb (k :: ks) ++ r = uv (u64 k.1) ++ (uv (fold k.2) ++ (catB kb ks ++ r)) := by simp [catB, kb]
    have hf := fold_lt hk.2;have hu := u64_small hk.1;rw [e, List.length_cons, qks, if_neg Z9, rdR_uv hu.2, rdB_uv hu.2, rdV_uv hf, rdR_uv hf, rdB_uv hf, qks_back ks r (fun q hq => h q (List.mem_cons_of_mem _ hq)), unf_fold hk.2, sm_tab hk.1]
theorem qss_back : ∀ (ks : List Span) (r : List UInt8), (∀ k ∈ ks, (0 ≤ k.1 ∧ k.1 < 4) ∧ in64 k.2.1 ∧ in64 k.2.2) → qss ks.length (catB sb ks ++ r) false = (ks, r, false)
  | [], r, _ => rfl
  | k :: ks, r, h => by
    have hk := h k (List.mem_cons_self ..);have e : catB sb (k :: ks) ++ r = uv (u64 k.1) ++ (uv (fold k.2.1) ++ (uv (fold k.2.2) ++ (catB sb ks ++ r))) := by simp [catB, sb]
    have hf := fold_lt hk.2.1;have hg := fold_lt hk.2.2;have hu := u64_small hk.1;rw [e, List.length_cons, qss, if_neg Z9, rdR_uv hu.2, rdB_uv hu.2, rdV_uv hf, rdR_uv hf, rdB_uv hf, rdV_uv hg, rdR_uv hg, rdB_uv hg, qss_back ks r (fun q hq => h q (List.mem_cons_of_mem _ hq)), unf_fold hk.2.1, unf_fold hk.2.2, sm_tab hk.1]
theorem qkeys_back {ks : List Key} {r : List UInt8} (hl : ks.length ≤ 6000) (h : ∀ k ∈ ks, (0 ≤ k.1 ∧ k.1 < 4) ∧ in64 k.2) : qkeys (keysB ks ++ r) false = (ks, r, false) := by
 have hx : ks.length < 18446744073709551616 := Z5
 rw [qkeys, keysB, List.append_assoc, sm_uv Z5, rdR_uv hx, rdB_uv hx, Int.toNat_natCast, qks_back ks r h]
theorem qspans_back {ks : List Span} {r : List UInt8} (hl : ks.length ≤ 6000) (h : ∀ k ∈ ks, (0 ≤ k.1 ∧ k.1 < 4) ∧ in64 k.2.1 ∧ in64 k.2.2) : qspans (spansB ks ++ r) false = (ks, r, false) := by
 have hx : ks.length < 18446744073709551616 := Z5
 rw [qspans, spansB, List.append_assoc, sm_uv Z5, rdR_uv hx, rdB_uv hx, Int.toNat_natCast, qss_back ks r h]
noncomputable def qk (b : List UInt8) : List Key := (qkeys b false).1
noncomputable def qs2 (b : List UInt8) : List UInt8 × Bool := (qkeys b false).2
noncomputable def qs (b : List UInt8) : List Span := (qspans (qs2 b).1 (qs2 b).2).1
noncomputable def qw2 (b : List UInt8) : List UInt8 × Bool := (qspans (qs2 b).1 (qs2 b).2).2
noncomputable def qw (b : List UInt8) : List Key := (qkeys (qw2 b).1 (qw2 b).2).1
noncomputable def qe (b : List UInt8) : List UInt8 × Bool := (qkeys (qw2 b).1 (qw2 b).2).2
theorem qfoot_back {ar : List Key} {az : List Span} {aw : List Key} (h0 : okK ar) (h1 : okS az) (h2 : okK aw) (hg : goodP ar az aw) :
  qk (footB ar az aw) = ar ∧ qs (footB ar az aw) = az ∧ qw (footB ar az aw) = aw ∧ qe (footB ar az aw) = ([], false) := by
 have e1 : qkeys (footB ar az aw) false = (ar, spansB az ++ keysB aw, false) := by
  rw [footB]; exact qkeys_back h0.1 fun k hk => ⟨key_tab hg.2.1 k hk, h0.2 k hk⟩
 have e2 : qspans (spansB az ++ keysB aw) false = (az, keysB aw, false) := qspans_back h1.1 fun k hk => ⟨span_tab hg.1 k hk, h1.2 k hk⟩
 have e3 : qkeys (keysB aw) false = (aw, [], false) := by
  have := qkeys_back (ks := aw) (r := []) h2.1 fun k hk => ⟨key_tab hg.2.2 k hk, h2.2 k hk⟩
  rwa [List.append_nil] at this
 have h2' : qs2 (footB ar az aw) = (spansB az ++ keysB aw, false) := by rw [qs2, e1]
 have h3' : qw2 (footB ar az aw) = (keysB aw, false) := by rw [qw2, h2', e2]
 exact ⟨by rw [qk, e1], by rw [qs, h2', e2], by rw [qw, h3', e3], by rw [qe, h3', e3]⟩
theorem q_ok {b : List UInt8} (h : b.length ≤ 5000) : okK (qk b) ∧ okS (qs b) ∧ okK (qw b) := by
 obtain ⟨a1, a2, a3⟩ := qkeys_all (rdI_false b);obtain ⟨b1, b2, b3⟩ := qspans_all a3;obtain ⟨c1, c2, c3⟩ := qkeys_all b3;have e1 : (qk b).length ≤ 6000 := by unfold qk; omega
 have e2 : (qs b).length ≤ 6000 := by unfold qs qs2; omega
 have e3 : (qw b).length ≤ 6000 := by unfold qw qw2 qs2; omega
 exact ⟨⟨e1, a1⟩, ⟨e2, b1⟩, e3, c1⟩
def qP (b : List UInt8) : Prop := qe b = ([], false) ∧ goodR (qk b) (qs b) (qw b) ∧ footB (qk b) (qs b) (qw b) = b
end Go.Proofs.Ytekeepgjegkedaa