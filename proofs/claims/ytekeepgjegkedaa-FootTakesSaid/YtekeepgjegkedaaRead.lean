/- What is read of bytes: keys, spans, a foot. -/
import Derived.Test.YtekeepgjegkedaaPut
import Derived.Test.YtekeepgjegkedaaAiCon
import Derived.Test.YtekeepgjegkedaaKit
set_option linter.unusedVariables false
set_option linter.unusedSimpArgs false
set_option linter.unnecessarySimpa false
namespace Go.Proofs.Ytekeepgjegkedaa
open Go.Ai
theorem rdV_uv {x : Nat} {r : List UInt8} (h : x < 18446744073709551616) : rdV (uv x ++ r) false = x := by simp [rdV, rd_of rfl h]
theorem rdR_uv {x : Nat} {r : List UInt8} (h : x < 18446744073709551616) : rdR (uv x ++ r) false = r := by simp [rdR, rd_of rfl h]
theorem rdB_uv {x : Nat} {r : List UInt8} (h : x < 18446744073709551616) : rdB (uv x ++ r) false = false := by simp [rdB, rd_of rfl h]
theorem rdR_le (b : List UInt8) (bad : Bool) : (rdR b bad).length ≤ b.length := by
  unfold rdR;cases bad
  · cases h : rd b with
    | none => simp
    | some p =>
      have := (rd_some (x := p.1) (r := p.2) h).1;have := congrArg List.length this;rw [List.length_append] at this;simp
      omega
  · simp
theorem rdR_lt {b : List UInt8} {bad : Bool} (hb : ¬ b = []) : (rdR b bad).length < b.length ∨ bad = true := by
  unfold rdR;cases bad
  · left
    have hl := List.length_pos_iff.2 hb;cases h : rd b with
    | none => simpa using hl
    | some p =>
      have := (rd_some (x := p.1) (r := p.2) h).1;have := congrArg List.length this;have h2 := uv_pos p.1;rw [List.length_append] at this;simp
      omega
  · right; rfl
def RdI (b : List UInt8) (bad : Bool) : Prop := bad = true → b = []
theorem rdI_step {b : List UInt8} {bad : Bool} (h : RdI b bad) : RdI (rdR b bad) (rdB b bad) := by
 unfold RdI rdR rdB;intro h2;cases bad
 ·cases hq : rd b with
  | none => simp
  | some p => simp [hq] at h2
 ·simpa using h rfl
theorem rdI_false (b : List UInt8) : RdI b false := fun h => Zo
theorem rdR_lt' {b : List UInt8} {bad : Bool} (h : RdI b bad) (hb : ¬ b = []) : (rdR b bad).length < b.length :=
 (rdR_lt hb).resolve_right fun q => hb (h q)
theorem unf_in (x : Nat) (h : x < 18446744073709551616) : in64 (unf x) := by unfold unf in64; split <;> omega
noncomputable def tks : Nat → List UInt8 → Bool → List Key × List UInt8 × Bool
 | 0, b, bad => ([], b, bad)
 | n + 1, b, bad => if b = [] then ([], b, bad) else
  ((((min (rdV b bad) 4294967295 : Nat) : Int), unf (rdV (rdR b bad) (rdB b bad))) :: (tks n (rdR (rdR b bad) (rdB b bad)) (rdB (rdR b bad) (rdB b bad))).1, (tks n (rdR (rdR b bad) (rdB b bad)) (rdB (rdR b bad) (rdB b bad))).2)
noncomputable def tss : Nat → List UInt8 → Bool → List Span × List UInt8 × Bool
 | 0, b, bad => ([], b, bad)
 | n + 1, b, bad => if b = [] then ([], b, bad) else
  ((((min (rdV b bad) 4294967295 : Nat) : Int), unf (rdV (rdR b bad) (rdB b bad)), unf (rdV (rdR (rdR b bad) (rdB b bad)) (rdB (rdR b bad) (rdB b bad)))) :: (tss n (rdR (rdR (rdR b bad) (rdB b bad)) (rdB (rdR b bad) (rdB b bad))) (rdB (rdR (rdR b bad) (rdB b bad)) (rdB (rdR b bad) (rdB b bad)))).1, (tss n (rdR (rdR (rdR b bad) (rdB b bad)) (rdB (rdR b bad) (rdB b bad))) (rdB (rdR (rdR b bad) (rdB b bad)) (rdB (rdR b bad) (rdB b bad)))).2)
noncomputable def tkeys (b : List UInt8) (bad : Bool) : List Key × List UInt8 × Bool := tks (min (rdV b bad) 4294967295) (rdR b bad) (rdB b bad)
noncomputable def tspans (b : List UInt8) (bad : Bool) : List Span × List UInt8 × Bool := tss (min (rdV b bad) 4294967295) (rdR b bad) (rdB b bad)
theorem tks_nil {n : Nat} {bad : Bool} : tks n [] bad = ([], [], bad) := by cases n <;> simp [tks]
theorem tss_nil {n : Nat} {bad : Bool} : tss n [] bad = ([], [], bad) := by cases n <;> simp [tss]
theorem tks_stop {n : Nat} {b : List UInt8} {bad : Bool} (h : b = [] ∨ n = 0) : tks n b bad = ([], b, bad) := by
 rcases h with rfl | rfl
 ·exact tks_nil
 ·rfl
theorem tss_stop {n : Nat} {b : List UInt8} {bad : Bool} (h : b = [] ∨ n = 0) : tss n b bad = ([], b, bad) := by
 rcases h with rfl | rfl
 ·exact tss_nil
 ·rfl
theorem tks_all : ∀ (n : Nat) (b : List UInt8) (bad : Bool), RdI b bad → (∀ k ∈ (tks n b bad).1, in64 k.2) ∧ (tks n b bad).1.length + (tks n b bad).2.1.length ≤ b.length ∧ RdI (tks n b bad).2.1 (tks n b bad).2.2
  | 0, b, bad, h => ⟨(fun k hk => Z1m), by simp [tks], h⟩
  | n + 1, b, bad, h => by
    unfold tks;split
    · exact ⟨(fun k hk => Z1m), Z0a, h⟩
    · rename_i hb
      obtain ⟨h1, h2, h3⟩ := tks_all n _ _ (rdI_step (rdI_step h));have l1 := rdR_lt' h hb;have l2 := rdR_le (rdR b bad) (rdB b bad);refine ⟨fun k hk => ?_, ?_, h3⟩
      · rcases List.mem_cons.1 hk with rfl | hk
        · exact unf_in _ (rdV_lt _ _)
        · exact h1 k hk
      · simp only [List.length_cons]; omega
theorem tss_all : ∀ (n : Nat) (b : List UInt8) (bad : Bool), RdI b bad → (∀ k ∈ (tss n b bad).1, in64 k.2.1 ∧ in64 k.2.2) ∧ (tss n b bad).1.length + (tss n b bad).2.1.length ≤ b.length ∧ RdI (tss n b bad).2.1 (tss n b bad).2.2
  | 0, b, bad, h => ⟨(fun k hk => Z1m), by simp [tss], h⟩
  | n + 1, b, bad, h => by
    unfold tss;split
    · exact ⟨(fun k hk => Z1m), Z0a, h⟩
    · rename_i hb
      obtain ⟨h1, h2, h3⟩ := tss_all n _ _ (rdI_step (rdI_step (rdI_step h)));have l1 := rdR_lt' h hb;have l2 := rdR_le (rdR b bad) (rdB b bad);have l3 := rdR_le (rdR (rdR b bad) (rdB b bad)) (rdB (rdR b bad) (rdB b bad));refine ⟨fun k hk => ?_, ?_, h3⟩
      · rcases List.mem_cons.1 hk with rfl | hk
        · exact ⟨unf_in _ (rdV_lt _ _), unf_in _ (rdV_lt _ _)⟩
        · exact h1 k hk
      · simp only [List.length_cons]; omega
theorem tkeys_all {b : List UInt8} {bad : Bool} (h : RdI b bad) : (∀ k ∈ (tkeys b bad).1, in64 k.2) ∧ (tkeys b bad).1.length + (tkeys b bad).2.1.length ≤ b.length ∧ RdI (tkeys b bad).2.1 (tkeys b bad).2.2 := by
 obtain ⟨h1, h2, h3⟩ := tks_all (min (rdV b bad) 4294967295) _ _ (rdI_step h);exact ⟨h1, Nat.le_trans h2 (rdR_le _ _), h3⟩
theorem tspans_all {b : List UInt8} {bad : Bool} (h : RdI b bad) : (∀ k ∈ (tspans b bad).1, in64 k.2.1 ∧ in64 k.2.2) ∧ (tspans b bad).1.length + (tspans b bad).2.1.length ≤ b.length ∧ RdI (tspans b bad).2.1 (tspans b bad).2.2 := by
 obtain ⟨h1, h2, h3⟩ := tss_all (min (rdV b bad) 4294967295) _ _ (rdI_step h);exact ⟨h1, Nat.le_trans h2 (rdR_le _ _), h3⟩
theorem tks_step {acc : List Key} {n : Nat} {b : List UInt8} {bad : Bool} (hn : acc.length < n) (hb : ¬ b = []) : (acc ++ [(((min (rdV b bad) 4294967295 : Nat) : Int), unf (rdV (rdR b bad) (rdB b bad)))] ++ (tks (n - (acc.length + 1)) (rdR (rdR b bad) (rdB b bad)) (rdB (rdR b bad) (rdB b bad))).1, (tks (n - (acc.length + 1)) (rdR (rdR b bad) (rdB b bad)) (rdB (rdR b bad) (rdB b bad))).2) = (acc ++ (tks (n - acc.length) b bad).1, (tks (n - acc.length) b bad).2) := by
 obtain ⟨m, hm⟩ : ∃ m, n - acc.length = m + 1 := ⟨n - acc.length - 1, Z5⟩;have e : n - (acc.length + 1) = m := Z5
 rw [hm, e];simp only [tks, if_neg hb, List.append_assoc, List.cons_append, List.nil_append]
theorem tss_step {acc : List Span} {n : Nat} {b : List UInt8} {bad : Bool} (hn : acc.length < n) (hb : ¬ b = []) : (acc ++ [(((min (rdV b bad) 4294967295 : Nat) : Int), unf (rdV (rdR b bad) (rdB b bad)), unf (rdV (rdR (rdR b bad) (rdB b bad)) (rdB (rdR b bad) (rdB b bad))))] ++ (tss (n - (acc.length + 1)) (rdR (rdR (rdR b bad) (rdB b bad)) (rdB (rdR b bad) (rdB b bad))) (rdB (rdR (rdR b bad) (rdB b bad)) (rdB (rdR b bad) (rdB b bad)))).1, (tss (n - (acc.length + 1)) (rdR (rdR (rdR b bad) (rdB b bad)) (rdB (rdR b bad) (rdB b bad))) (rdB (rdR (rdR b bad) (rdB b bad)) (rdB (rdR b bad) (rdB b bad)))).2) = (acc ++ (tss (n - acc.length) b bad).1, (tss (n - acc.length) b bad).2) := by
 obtain ⟨m, hm⟩ : ∃ m, n - acc.length = m + 1 := ⟨n - acc.length - 1, Z5⟩;have e : n - (acc.length + 1) = m := Z5
 rw [hm, e];simp only [tss, if_neg hb, List.append_assoc, List.cons_append, List.nil_append]
theorem uv_ne {x : Nat} {r : List UInt8} : ¬ uv x ++ r = [] := fun h => by
 have := uv_pos x;have := congrArg List.length h;simp only [List.length_append, List.length_nil] at this;omega
theorem u64_small {n : Int} (h : 0 ≤ n ∧ n < 4) : (min (u64 n) 4294967295 : Nat) = n ∧ u64 n < 18446744073709551616 := by unfold u64; omega
theorem tks_back : ∀ (ks : List Key) (r : List UInt8), (∀ k ∈ ks, (0 ≤ k.1 ∧ k.1 < 4) ∧ in64 k.2) → tks ks.length (catB kb ks ++ r) false = (ks, r, false)
  | [], r, _ => rfl
  | k :: ks, r, h => by
    have hk := h k (List.mem_cons_self ..);have e : catB kb (k :: ks) ++ r = uv (u64 k.1) ++ (uv (fold k.2) ++ (catB kb ks ++ r)) := by simp [catB, kb]
    have hf := fold_lt hk.2;have hu := u64_small hk.1;rw [e, List.length_cons, tks, if_neg uv_ne, rdV_uv hu.2, rdR_uv hu.2, rdB_uv hu.2, rdV_uv hf, rdR_uv hf, rdB_uv hf, tks_back ks r (fun q hq => h q (List.mem_cons_of_mem _ hq)), unf_fold hk.2, hu.1]
theorem tss_back : ∀ (ks : List Span) (r : List UInt8), (∀ k ∈ ks, (0 ≤ k.1 ∧ k.1 < 4) ∧ in64 k.2.1 ∧ in64 k.2.2) → tss ks.length (catB sb ks ++ r) false = (ks, r, false)
  | [], r, _ => rfl
  | k :: ks, r, h => by
    have hk := h k (List.mem_cons_self ..);have e : catB sb (k :: ks) ++ r = uv (u64 k.1) ++ (uv (fold k.2.1) ++ (uv (fold k.2.2) ++ (catB sb ks ++ r))) := by simp [catB, sb]
    have hf := fold_lt hk.2.1;have hg := fold_lt hk.2.2;have hu := u64_small hk.1;rw [e, List.length_cons, tss, if_neg uv_ne, rdV_uv hu.2, rdR_uv hu.2, rdB_uv hu.2, rdV_uv hf, rdR_uv hf, rdB_uv hf, rdV_uv hg, rdR_uv hg, rdB_uv hg, tss_back ks r (fun q hq => h q (List.mem_cons_of_mem _ hq)), unf_fold hk.2.1, unf_fold hk.2.2, hu.1]
theorem tkeys_back {ks : List Key} {r : List UInt8} (hl : ks.length ≤ 6000) (h : ∀ k ∈ ks, (0 ≤ k.1 ∧ k.1 < 4) ∧ in64 k.2) : tkeys (keysB ks ++ r) false = (ks, r, false) := by
 have hx : ks.length < 18446744073709551616 := Z5
 have hm : min ks.length 4294967295 = ks.length := Z5
 rw [tkeys, keysB, List.append_assoc, rdV_uv hx, rdR_uv hx, rdB_uv hx, hm, tks_back ks r h]
theorem tspans_back {ks : List Span} {r : List UInt8} (hl : ks.length ≤ 6000) (h : ∀ k ∈ ks, (0 ≤ k.1 ∧ k.1 < 4) ∧ in64 k.2.1 ∧ in64 k.2.2) : tspans (spansB ks ++ r) false = (ks, r, false) := by
 have hx : ks.length < 18446744073709551616 := Z5
 have hm : min ks.length 4294967295 = ks.length := Z5
 rw [tspans, spansB, List.append_assoc, rdV_uv hx, rdR_uv hx, rdB_uv hx, hm, tss_back ks r h]
noncomputable def rk (b : List UInt8) : List Key := (tkeys b false).1
noncomputable def rs2 (b : List UInt8) : List UInt8 × Bool := (tkeys b false).2
noncomputable def rs (b : List UInt8) : List Span := (tspans (rs2 b).1 (rs2 b).2).1
noncomputable def rw2 (b : List UInt8) : List UInt8 × Bool := (tspans (rs2 b).1 (rs2 b).2).2
noncomputable def rkw (b : List UInt8) : List Key := (tkeys (rw2 b).1 (rw2 b).2).1
noncomputable def re2 (b : List UInt8) : List UInt8 × Bool := (tkeys (rw2 b).1 (rw2 b).2).2
theorem key_tab {l : List Key} (h : risingL l) : ∀ k ∈ l, 0 ≤ k.1 ∧ k.1 < 4 := fun k hk => by
 obtain ⟨i, hi, e⟩ := List.mem_iff_getElem.1 hk;have hx : l[i]? = some k := by rw [List.getElem?_eq_getElem hi, e]
 have := fun q => h ⟨i, hi, (badK_iff hx).2 q⟩
 exact Classical.not_not.1 fun q => this (.inl q)
theorem span_tab {l : List Span} (h : ¬ badFL l) : ∀ k ∈ l, 0 ≤ k.1 ∧ k.1 < 4 := fun k hk => by
 obtain ⟨i, hi, e⟩ := List.mem_iff_getElem.1 hk;have hx : l[i]? = some k := by rw [List.getElem?_eq_getElem hi, e]
 have := fun q => h ⟨i, hi, (badF_iff hx).2 q⟩
 exact Classical.not_not.1 fun q => this (.inl q)
theorem foot_back {ar : List Key} {az : List Span} {aw : List Key} (h0 : okK ar) (h1 : okS az) (h2 : okK aw) (hg : goodP ar az aw) :
  rk (footB ar az aw) = ar ∧ rs (footB ar az aw) = az ∧ rkw (footB ar az aw) = aw ∧ re2 (footB ar az aw) = ([], false) := by
 have e1 : tkeys (footB ar az aw) false = (ar, spansB az ++ keysB aw, false) := by
  rw [footB]; exact tkeys_back h0.1 fun k hk => ⟨key_tab hg.2.1 k hk, h0.2 k hk⟩
 have e2 : tspans (spansB az ++ keysB aw) false = (az, keysB aw, false) := tspans_back h1.1 fun k hk => ⟨span_tab hg.1 k hk, h1.2 k hk⟩
 have e3 : tkeys (keysB aw) false = (aw, [], false) := by
  have := tkeys_back (ks := aw) (r := []) h2.1 fun k hk => ⟨key_tab hg.2.2 k hk, h2.2 k hk⟩
  rwa [List.append_nil] at this
 have h2' : rs2 (footB ar az aw) = (spansB az ++ keysB aw, false) := by rw [rs2, e1]
 have h3' : rw2 (footB ar az aw) = (keysB aw, false) := by rw [rw2, h2', e2]
 exact ⟨by rw [rk, e1], by rw [rs, h2', e2], by rw [rkw, h3', e3], by rw [re2, h3', e3]⟩
def takeP (b : List UInt8) : Prop := goodP (rk b) (rs b) (rkw b) ∧ re2 b = ([], false) ∧ footB (rk b) (rs b) (rkw b) = b
theorem take_ok {b : List UInt8} (h : b.length ≤ 6000) : okK (rk b) ∧ okS (rs b) ∧ okK (rkw b) := by
 obtain ⟨a1, a2, a3⟩ := tkeys_all (rdI_false b);obtain ⟨b1, b2, b3⟩ := tspans_all a3;obtain ⟨c1, c2, c3⟩ := tkeys_all b3;have e1 : (rk b).length ≤ 6000 := by unfold rk; omega
 have e2 : (rs b).length ≤ 6000 := by unfold rs rs2; omega
 have e3 : (rkw b).length ≤ 6000 := by unfold rkw rw2 rs2; omega
 exact ⟨⟨e1, a1⟩, ⟨e2, b1⟩, e3, c1⟩
theorem take_put {ar : List Key} {az : List Span} {aw : List Key} (h0 : okK ar) (h1 : okS az) (h2 : okK aw) (hg : goodP ar az aw) : takeP (footB ar az aw) := by
 obtain ⟨e1, e2, e3, e4⟩ := foot_back h0 h1 h2 hg;refine ⟨?_, e4, ?_⟩
 ·rw [e1, e2, e3]; exact hg
 ·rw [e1, e2, e3]
end Go.Proofs.Ytekeepgjegkedaa