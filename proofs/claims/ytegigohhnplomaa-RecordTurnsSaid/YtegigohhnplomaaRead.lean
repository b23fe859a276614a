/- What is read of bytes: keys, spans, a foot. -/
import Derived.Test.YtegigohhnplomaaPut
import Derived.Test.YtegigohhnplomaaAiCon
import Derived.Test.YtegigohhnplomaaKit
set_option linter.unusedVariables false
set_option linter.unusedSimpArgs false
set_option linter.unnecessarySimpa false
namespace Go.Proofs.Ytegigohhnplomaa
open Go.Ai
theorem rdR_le (b : List UInt8) (bad : Bool) : (rdR b bad).length ≤ b.length := by
  unfold rdR;cases bad
  · cases h : rd b with
    | none => simp
    | some p =>
      have := (rd_some (x := p.1) (r := p.2) h).1;have := congrArg List.length this;rw [List.length_append] at this;simp
      omega
  · simp
theorem rdR_lt {b : List UInt8} {bad : Bool} (hb : ¬ b = []) : (rdR b bad).length < b.length ∨ bad = true := by
  unfold rdR;cases bad
  · left
    have hl := List.length_pos_iff.2 hb;cases h : rd b with
    | none => simpa using hl
    | some p =>
      have := (rd_some (x := p.1) (r := p.2) h).1;have := congrArg List.length this;have h2 := uv_pos p.1;rw [List.length_append] at this;simp
      omega
  · right; rfl
def RdI (b : List UInt8) (bad : Bool) : Prop := bad = true → b = []
theorem rdI_step {b : List UInt8} {bad : Bool} (h : RdI b bad) : RdI (rdR b bad) (rdB b bad) := by
 unfold RdI rdR rdB;intro h2;cases bad
 ·cases hq : rd b with
  | none => simp
  | some p => simp [hq] at h2
 ·simpa using h rfl
theorem rdI_false (b : List UInt8) : RdI b false := fun h => Zw
theorem rdR_lt' {b : List UInt8} {bad : Bool} (h : RdI b bad) (hb : ¬ b = []) : (rdR b bad).length < b.length :=
 (rdR_lt hb).resolve_right fun q => hb (h q)
theorem unf_in (x : Nat) (h : x < 18446744073709551616) : in64 (unf x) := by unfold unf in64; split <;> omega
noncomputable def tks : Nat → List UInt8 → Bool → List Key × List UInt8 × Bool
 | 0, b, bad => ([], b, bad)
 | n + 1, b, bad => if b = [] then ([], b, bad) else
  ((((min (rdV b bad) 4294967295 : Nat) : Int), unf (rdV (rdR b bad) (rdB b bad))) :: (tks n (rdR (rdR b bad) (rdB b bad)) (rdB (rdR b bad) (rdB b bad))).1, (tks n (rdR (rdR b bad) (rdB b bad)) (rdB (rdR b bad) (rdB b bad))).2)
noncomputable def tss : Nat → List UInt8 → Bool → List Span × List UInt8 × Bool
 | 0, b, bad => ([], b, bad)
 | n + 1, b, bad => if b = [] then ([], b, bad) else
  ((((min (rdV b bad) 4294967295 : Nat) : Int), unf (rdV (rdR b bad) (rdB b bad)), unf (rdV (rdR (rdR b bad) (rdB b bad)) (rdB (rdR b bad) (rdB b bad)))) :: (tss n (rdR (rdR (rdR b bad) (rdB b bad)) (rdB (rdR b bad) (rdB b bad))) (rdB (rdR (rdR b bad) (rdB b bad)) (rdB (rdR b bad) (rdB b bad)))).1, (tss n (rdR (rdR (rdR b bad) (rdB b bad)) (rdB (rdR b bad) (rdB b bad))) (rdB (rdR (rdR b bad) (rdB b bad)) (rdB (rdR b bad) (rdB b bad)))).2)
noncomputable def tkeys (b : List UInt8) (bad : Bool) : List Key × List UInt8 × Bool := tks (min (rdV b bad) 4294967295) (rdR b bad) (rdB b bad)
noncomputable def tspans (b : List UInt8) (bad : Bool) : List Span × List UInt8 × Bool := tss (min (rdV b bad) 4294967295) (rdR b bad) (rdB b bad)
theorem tks_nil {n : Nat} {bad : Bool} : tks n [] bad = ([], [], bad) := by cases n <;> simp [tks]
theorem tss_nil {n : Nat} {bad : Bool} : tss n [] bad = ([], [], bad) := by cases n <;> simp [tss]
theorem tks_stop {n : Nat} {b : List UInt8} {bad : Bool} (h : b = [] ∨ n = 0) : tks n b bad = ([], b, bad) := by
 rcases h with rfl | rfl
 ·exact tks_nil
 ·rfl
theorem tss_stop {n : Nat} {b : List UInt8} {bad : Bool} (h : b = [] ∨ n = 0) : tss n b bad = ([], b, bad) := by
 rcases h with rfl | rfl
 ·exact tss_nil
 ·rfl
theorem tks_all : ∀ (n : Nat) (b : List UInt8) (bad : Bool), RdI b bad → (∀ k ∈ (tks n b bad).1, in64 k.2) ∧ (tks n b bad).1.length + (tks n b bad).2.1.length ≤ b.length ∧ RdI (tks n b bad).2.1 (tks n b bad).2.2
  | 0, b, bad, h => ⟨(fun k hk => Z1a), by simp [tks], h⟩
  | n + 1, b, bad, h => by
    unfold tks;split
    · exact ⟨(fun k hk => Z1a), Z0d, h⟩
    · rename_i hb
      obtain ⟨h1, h2, h3⟩ := tks_all n _ _ (rdI_step (rdI_step h));have l1 := rdR_lt' h hb;have l2 := rdR_le (rdR b bad) (rdB b bad);refine ⟨fun k hk => ?_, ?_, h3⟩
      · rcases List.mem_cons.1 hk with rfl | hk
        · exact unf_in _ (rdV_lt _ _)
        · exact h1 k hk
      · simp only [List.length_cons]; omega
theorem tss_all : ∀ (n : Nat) (b : List UInt8) (bad : Bool), RdI b bad → (∀ k ∈ (tss n b bad).1, in64 k.2.1 ∧ in64 k.2.2) ∧ (tss n b bad).1.length + (tss n b bad).2.1.length ≤ b.length ∧ RdI (tss n b bad).2.1 (tss n b bad).2.2
  | 0, b, bad, h => ⟨(fun k hk => Z1a), by simp [tss], h⟩
  | n + 1, b, bad, h => by
    unfold tss;split
    · exact ⟨(fun k hk => Z1a), Z0d, h⟩
    · rename_i hb
      obtain ⟨h1, h2, h3⟩ := tss_all n _ _ (rdI_step (rdI_step (rdI_step h)));have l1 := rdR_lt' h hb;have l2 := rdR_le (rdR b bad) (rdB b bad);have l3 := rdR_le (rdR (rdR b bad) (rdB b bad)) (rdB (rdR b bad) (rdB b bad));refine ⟨fun k hk => ?_, ?_, h3⟩
      · rcases List.mem_cons.1 hk with rfl | hk
        · exact ⟨unf_in _ (rdV_lt _ _), unf_in _ (rdV_lt _ _)⟩
        · exact h1 k hk
      · simp only [List.length_cons]; omega
theorem tkeys_all {b : List UInt8} {bad : Bool} (h : RdI b bad) : (∀ k ∈ (tkeys b bad).1, in64 k.2) ∧ (tkeys b bad).1.length + (tkeys b bad).2.1.length ≤ b.length ∧ RdI (tkeys b bad).2.1 (tkeys b bad).2.2 := by
 obtain ⟨h1, h2, h3⟩ := tks_all (min (rdV b bad) 4294967295) _ _ (rdI_step h);exact ⟨h1, Nat.le_trans h2 (rdR_le _ _), h3⟩
theorem tspans_all {b : List UInt8} {bad : Bool} (h : RdI b bad) : (∀ k ∈ (tspans b bad).1, in64 k.2.1 ∧ in64 k.2.2) ∧ (tspans b bad).1.length + (tspans b bad).2.1.length ≤ b.length ∧ RdI (tspans b bad).2.1 (tspans b bad).2.2 := by
 obtain ⟨h1, h2, h3⟩ := tss_all (min (rdV b bad) 4294967295) _ _ (rdI_step h);exact ⟨h1, Nat.le_trans h2 (rdR_le _ _), h3⟩
theorem tks_step {acc : List Key} {n : Nat} {b : List UInt8} {bad : Bool} (hn : acc.length < n) (hb : ¬ b = []) : (acc ++ [(((min (rdV b bad) 4294967295 : Nat) : Int), unf (rdV (rdR b bad) (rdB b bad)))] ++ (tks (n - (acc.length + 1)) (rdR (rdR b bad) (rdB b bad)) (rdB (rdR b bad) (rdB b bad))).1, (tks (n - (acc.length + 1)) (rdR (rdR b bad) (rdB b bad)) (rdB (rdR b bad) (rdB b bad))).2) = (acc ++ (tks (n - acc.length) b bad).1, (tks (n - acc.length) b bad).2) := by
 obtain ⟨m, hm⟩ : ∃ m, n - acc.length = m + 1 := ⟨n - acc.length - 1, Z5⟩;have e : n - (acc.length + 1) = m := Z5
 rw [hm, e];simp only [tks, if_neg hb, List.append_assoc, List.cons_append, List.nil_append]
theorem tss_step {acc : List Span} {n : Nat} {b : List UInt8} {bad : Bool} (hn : acc.length < n) (hb : ¬ b = []) : (acc ++ [(((min (rdV b bad) 4294967295 : Nat) : Int), unf (rdV (rdR b bad) (rdB b bad)), unf (rdV (rdR (rdR b bad) (rdB b bad)) (rdB (rdR b bad) (rdB b bad))))] ++ (tss (n - (acc.length + 1)) (rdR (rdR (rdR b bad) (rdB b bad)) (rdB (rdR b bad) (rdB b bad))) (rdB (rdR (rdR b bad) (rdB b bad)) (rdB (rdR b bad) (rdB b bad)))).1, (tss (n - (acc.length + 1)) (rdR (rdR (rdR b bad) (rdB b bad)) (rdB (rdR b bad) (rdB b bad))) (rdB (rdR (rdR b bad) (rdB b bad)) (rdB (rdR b bad) (rdB b bad)))).2) = (acc ++ (tss (n - acc.length) b bad).1, (tss (n - acc.length) b bad).2) := by
 obtain ⟨m, hm⟩ : ∃ m, n - acc.length = m + 1 := ⟨n - acc.length - 1, Z5⟩;have e : n - (acc.length + 1) = m := Z5
 rw [hm, e];simp only [tss, if_neg hb, List.append_assoc, List.cons_append, List.nil_append]
noncomputable def rk (b : List UInt8) : List Key := (tkeys b false).1
noncomputable def rs2 (b : List UInt8) : List UInt8 × Bool := (tkeys b false).2
noncomputable def rs (b : List UInt8) : List Span := (tspans (rs2 b).1 (rs2 b).2).1
noncomputable def rw2 (b : List UInt8) : List UInt8 × Bool := (tspans (rs2 b).1 (rs2 b).2).2
noncomputable def rkw (b : List UInt8) : List Key := (tkeys (rw2 b).1 (rw2 b).2).1
noncomputable def re2 (b : List UInt8) : List UInt8 × Bool := (tkeys (rw2 b).1 (rw2 b).2).2
def takeP (b : List UInt8) : Prop := goodP (rk b) (rs b) (rkw b) ∧ re2 b = ([], false) ∧ footB (rk b) (rs b) (rkw b) = b
theorem take_ok {b : List UInt8} (h : b.length ≤ 6000) : okK (rk b) ∧ okS (rs b) ∧ okK (rkw b) := by
 obtain ⟨a1, a2, a3⟩ := tkeys_all (rdI_false b);obtain ⟨b1, b2, b3⟩ := tspans_all a3;obtain ⟨c1, c2, c3⟩ := tkeys_all b3;have e1 : (rk b).length ≤ 6000 := by unfold rk; omega
 have e2 : (rs b).length ≤ 6000 := by unfold rs rs2; omega
 have e3 : (rkw b).length ≤ 6000 := by unfold rkw rw2 rs2; omega
 exact ⟨⟨e1, a1⟩, ⟨e2, b1⟩, e3, c1⟩
end Go.Proofs.Ytegigohhnplomaa