/- The reader: parts, bytes, flags, numbers. -/
import Derived.Test.YtegigohhnplomaaReader
import Derived.Test.YtegigohhnplomaaKit
set_option linter.unusedVariables false
set_option linter.unusedSimpArgs false
set_option linter.unnecessarySimpa false
set_option maxHeartbeats 4000000
set_option maxRecDepth 100000
namespace Go.Proofs.Ytegigohhnplomaa
open Go.Ai
def tnV (n : Nat) (b : List UInt8) (bad : Bool) : List UInt8 := bif bad then [] else if b.length < n then [] else b.take n
def tnO (n : Nat) (b : List UInt8) (bad : Bool) : Bool := bif bad then false else if b.length < n then false else true
def tnR (n : Nat) (b : List UInt8) (bad : Bool) : List UInt8 := bif bad then b else if b.length < n then [] else b.drop n
def tnB (n : Nat) (b : List UInt8) (bad : Bool) : Bool := bif bad then true else if b.length < n then true else false
theorem tnV_s {n : Nat} {b : List UInt8} (h : b.length < n) : tnV n b false = [] := if_pos h
theorem tnV_k {n : Nat} {b : List UInt8} (h : ¬ b.length < n) : tnV n b false = b.take n := if_neg h
theorem tnO_s {n : Nat} {b : List UInt8} (h : b.length < n) : tnO n b false = false := if_pos h
theorem tnO_k {n : Nat} {b : List UInt8} (h : ¬ b.length < n) : tnO n b false = true := if_neg h
theorem tnR_s {n : Nat} {b : List UInt8} (h : b.length < n) : tnR n b false = [] := if_pos h
theorem tnR_k {n : Nat} {b : List UInt8} (h : ¬ b.length < n) : tnR n b false = b.drop n := if_neg h
theorem tnB_s {n : Nat} {b : List UInt8} (h : b.length < n) : tnB n b false = true := if_pos h
theorem tnB_k {n : Nat} {b : List UInt8} (h : ¬ b.length < n) : tnB n b false = false := if_neg h
theorem tnR_le (n : Nat) (b : List UInt8) (bad : Bool) : (tnR n b bad).length ≤ b.length := by
 unfold tnR;cases bad
 ·simp only [cond_false]; split
  ·simp
  ·rw [List.length_drop]; omega
 ·exact Nat.le_refl _
theorem tnV_le (n : Nat) (b : List UInt8) (bad : Bool) : (tnV n b bad).length ≤ b.length := by
 unfold tnV;cases bad
 ·simp only [cond_false]; split
  ·simp
  ·rw [List.length_take]; omega
 ·simp
theorem tnI {n : Nat} {b : List UInt8} {bad : Bool} (h : bad = true → b = []) : tnB n b bad = true → tnR n b bad = [] := by
 unfold tnB tnR;cases bad
 ·simp only [cond_false]; intro q; split at q
  ·rename_i h1; rw [if_pos h1]
  ·cases q
 ·intro _; exact h rfl
def byV (b : List UInt8) (bad : Bool) : UInt8 := bif bad then 0 else b.headD 0
def flV (b : List UInt8) (bad : Bool) : Bool := decide ((byV b bad).toNat = 1)
def flR (b : List UInt8) (bad : Bool) : List UInt8 := if 1 < (byV b bad).toNat then [] else tkR b bad
def flB (b : List UInt8) (bad : Bool) : Bool := if 1 < (byV b bad).toNat then true else tkB b bad
theorem tkR_le (b : List UInt8) (bad : Bool) : (tkR b bad).length ≤ b.length := by
 unfold tkR;split
 ·exact Nat.le_refl _
 ·rw [List.length_drop]; omega
theorem tkI {b : List UInt8} {bad : Bool} (h : bad = true → b = []) : tkB b bad = true → tkR b bad = [] := by
 intro q;unfold tkB at q;unfold tkR;cases bad
 ·have : b = [] := by simpa using q
  rw [this]; rfl
 ·rw [h rfl]; rfl
theorem flR_le (b : List UInt8) (bad : Bool) : (flR b bad).length ≤ b.length := by
 unfold flR;split
 ·simp
 ·exact tkR_le b bad
theorem flI {b : List UInt8} {bad : Bool} (h : bad = true → b = []) : flB b bad = true → flR b bad = [] := by
 intro q;unfold flB at q;unfold flR;split at q
 ·rename_i h1; rw [if_pos h1]
 ·rename_i h1; rw [if_neg h1]; exact tkI h q
theorem rd_le (b : List UInt8) (bad : Bool) : (rdR b bad).length ≤ b.length := by
  unfold rdR;cases bad
  · cases h : rd b with
    | none => simp
    | some p =>
      have := (rd_some (x := p.1) (r := p.2) h).1;have := congrArg List.length this;rw [List.length_append] at this;simp
      omega
  · simp
theorem rtakeN_fn : Try.cfg.fn 71 = some Try.f71 := Z1
theorem rtakeN_sc (n : Nat) (b : List UInt8) (bad : Bool) (h0 : b.length ≤ 1000000000) (h1 : n < 18446744073709551616) : SC Try.prog 0 71 [.pointer (some ⟨0, 0, none⟩), .int .u64 ((n : Nat) : Int)] ((St.empty 0).new (.cells [inlL Z1s 1 b, .bool bad])) fun v s' => v = .tuple #[inlL Z1s 1 (tnV n b bad), .bool (tnO n b bad)] ∧ s'.n ≤ 400 ∧ ∀ a, a < 1 → s'.get a = some (objL [.cells [inlL Z1s 1 (tnR n b bad), .bool (tnB n b bad)]] a) := by
 obtain ⟨rc, hS, hC⟩ := rc_con (Z24 Try.cfgOk 300) [con_rfail] Z1;have hC68 := hC con_rfail (.head _);rcases n with _ | n <;> cases bad
 ·
  refine sc_iceK (k := 1) (N := 400) (v2 := .tuple #[inlL Z1s 1 (tnV 0 b false), .bool (tnO 0 b false)]) (Ms := objL [.cells [inlL Z1s 1 (tnR 0 b false), .bool (tnB 0 b false)]]) rfl ?_ (all1 (OSub.cells (.cons (sub_clo rfl) (.cons (sub_clo rfl) .nil))));refine Z2d Try.cfgOk rtakeN_fn rfl ?_;refine Z1u ?_;refine kK Try.cfgOk hS ?_;refine Z1u (Z1u ?_);refine kK Try.cfgOk hS ?_;refine kF ?_;refine Z26 (Z1u (Z1u ?_));refine Z1t Try.cfgOk hS ?_;refine aK 5 ?_;refine aM (lenB Try.cfg (St.empty 0) 34 (inlL Z1s 1 b)) (.int .i64 ((b.length : Nat) : Int)) (len_inl tokC Z1) ?_;refine aE (v := .int .u64 (IntKind.wrap .u64 ((b.length : Nat) : Int))) (.int .u64 ((b.length : Nat) : Int)) (congrArg (Value.int .u64) ((wrap_u64 _).trans (congrArg Nat.cast (u64_nat Z0c)))) ?_;refine aT (fun h1 => ?_) (fun h1 => ?_)
  ·have c2e : (decide ((((0 : Nat) : Int) : Int) > ((b.length : Nat) : Int))) = true := Eq.trans Z1 h1;clear h1;have c2 : (((0 : Nat) : Int) : Int) > ((b.length : Nat) : Int) := of_decide_eq_true c2e;clear c2e;refine Z29 ?_;refine kT ?_;refine Z1u ?_;refine Z1t Try.cfgOk hS ?_;refine aK 1 ?_;refine aC 68 [.pointer (some ⟨0, 0, none⟩)] (.tuple #[]) _ rfl (hC68 _ _ _ _ (con_rfail_at b false 0  _ Z1 Z1 )) ?_;refine Z29 ?_;refine Z1u ?_;refine kK Try.cfgOk hS ?_;refine Z1z ?_;exact ⟨[.slice none 0 0, .bool false], Z1, .tuple (.cons (fs_to (fs_nilL (f := Z1s) (sz := 1) Ze) (congrArg (inlL Z1s 1) Zf)) (.cons (fs_to (Z23 rfl) (congrArg Value.bool Zf)) (.nil))), Zle, all1 (Eq.trans (b := some (.cells [inlL Z1s 1 ([] : List UInt8), .bool true])) Z1 (congrArg some (show ((.cells [inlL Z1s 1 ([] : List UInt8), .bool true]) : AObj) = .cells [inlL Z1s 1 (tnR 0 b false), .bool (tnB 0 b false)] by first | rfl | (rw [tnR_s Z5, tnB_s Z5]; done) | (rw [tnR_k Z5, tnB_k Z5]; done) | (rw [tnR_k Z5, tnB_k Z5]; rfl))))⟩
  ·have c2e : (decide ((((0 : Nat) : Int) : Int) > ((b.length : Nat) : Int))) = false := Eq.trans Z1 h1;clear h1;have c2 : ¬ (((0 : Nat) : Int) : Int) > ((b.length : Nat) : Int) := of_decide_eq_false c2e;clear c2e;refine Z29 ?_;refine kF ?_;refine Z26 (Z1u ?_);refine Z1t Try.cfgOk hS ?_;refine aK 6 ?_;refine aM (sliceV Try.cfg 34 (inlL Z1s 1 b) none (some (.int .u64 ((0 : Nat) : Int))) (some (.int .u64 ((0 : Nat) : Int)))) (bareT) (cut_zero3 tokC Z1) ?_;refine aN ?_;refine Z1u ?_;refine Z1t Try.cfgOk hS ?_;refine aK 6 ?_;refine aM (sliceV Try.cfg 34 (inlL Z1s 1 b) (some (.int .u64 ((0 : Nat) : Int))) none none) (inlL Z1s 1 (b.drop 0)) (cut_lo (m := 0) tokC Z1 Z2g Z5) ?_;refine aN ?_;refine Z1u ?_;refine kK Try.cfgOk hS ?_;refine Z1z ?_;exact ⟨[bareT, .bool true], Z1, .tuple (.cons (fs_to (.same (sub_bare (f := Z1s) (sz := 1) Ze)) (congrArg (inlL Z1s 1) Zf)) (.cons (fs_to (Z23 rfl) (congrArg Value.bool Zf)) (.nil))), Zle, all1 (Eq.trans (b := some (.cells [inlL Z1s 1 (b.drop 0), .bool false])) Z1 (congrArg some (show ((.cells [inlL Z1s 1 (b.drop 0), .bool false]) : AObj) = .cells [inlL Z1s 1 (tnR 0 b false), .bool (tnB 0 b false)] by first | rfl | (rw [tnR_s Z5, tnB_s Z5]; done) | (rw [tnR_k Z5, tnB_k Z5]; done) | (rw [tnR_k Z5, tnB_k Z5]; rfl))))⟩
 ·
  refine sc_iceK (k := 1) (N := 400) (v2 := .tuple #[inlL Z1s 1 (tnV 0 b true), .bool (tnO 0 b true)]) (Ms := objL [.cells [inlL Z1s 1 (tnR 0 b true), .bool (tnB 0 b true)]]) rfl ?_ (all1 (OSub.cells (.cons (sub_clo rfl) (.cons (sub_clo rfl) .nil))));refine Z2d Try.cfgOk rtakeN_fn rfl ?_;refine Z1u ?_;refine kK Try.cfgOk hS ?_;refine Z1u (Z1u ?_);refine kK Try.cfgOk hS ?_;refine kT ?_;refine Z1u ?_;refine kK Try.cfgOk hS ?_;refine Z1z ?_;exact ⟨[.slice none 0 0, .bool false], Z1, .tuple (.cons (fs_to (fs_nilL (f := Z1s) (sz := 1) Ze) (congrArg (inlL Z1s 1) Zf)) (.cons (fs_to (Z23 rfl) (congrArg Value.bool Zf)) (.nil))), Zle, all1 (Eq.trans (b := some (.cells [inlL Z1s 1 b, .bool true])) Z1 (congrArg some (show ((.cells [inlL Z1s 1 b, .bool true]) : AObj) = .cells [inlL Z1s 1 (tnR 0 b true), .bool (tnB 0 b true)] by first | rfl | (rw [tnR_s Z5, tnB_s Z5]; done) | (rw [tnR_k Z5, tnB_k Z5]; done) | (rw [tnR_k Z5, tnB_k Z5]; rfl))))⟩
 ·
  refine sc_iceK (k := 1) (N := 400) (v2 := .tuple #[inlL Z1s 1 (tnV (n + 1) b false), .bool (tnO (n + 1) b false)]) (Ms := objL [.cells [inlL Z1s 1 (tnR (n + 1) b false), .bool (tnB (n + 1) b false)]]) rfl ?_ (all1 (OSub.cells (.cons (sub_clo rfl) (.cons (sub_clo rfl) .nil))));refine Z2d Try.cfgOk rtakeN_fn rfl ?_;refine Z1u ?_;refine kK Try.cfgOk hS ?_;refine Z1u (Z1u ?_);refine kK Try.cfgOk hS ?_;refine kF ?_;refine Z26 (Z1u (Z1u ?_));refine Z1t Try.cfgOk hS ?_;refine aK 5 ?_;refine aM (lenB Try.cfg (St.empty 0) 34 (inlL Z1s 1 b)) (.int .i64 ((b.length : Nat) : Int)) (len_inl tokC Z1) ?_;refine aE (v := .int .u64 (IntKind.wrap .u64 ((b.length : Nat) : Int))) (.int .u64 ((b.length : Nat) : Int)) (congrArg (Value.int .u64) ((wrap_u64 _).trans (congrArg Nat.cast (u64_nat Z0c)))) ?_;refine aT (fun h3 => ?_) (fun h3 => ?_)
  ·have c4e : (decide (((((n + 1) : Nat) : Int) : Int) > ((b.length : Nat) : Int))) = true := Eq.trans Z1 h3;clear h3;have c4 : ((((n + 1) : Nat) : Int) : Int) > ((b.length : Nat) : Int) := of_decide_eq_true c4e;clear c4e;refine Z29 ?_;refine kT ?_;refine Z1u ?_;refine Z1t Try.cfgOk hS ?_;refine aK 1 ?_;refine aC 68 [.pointer (some ⟨0, 0, none⟩)] (.tuple #[]) _ rfl (hC68 _ _ _ _ (con_rfail_at b false 0  _ Z1 Z1 )) ?_;refine Z29 ?_;refine Z1u ?_;refine kK Try.cfgOk hS ?_;refine Z1z ?_;exact ⟨[.slice none 0 0, .bool false], Z1, .tuple (.cons (fs_to (fs_nilL (f := Z1s) (sz := 1) Ze) (congrArg (inlL Z1s 1) Zf)) (.cons (fs_to (Z23 rfl) (congrArg Value.bool Zf)) (.nil))), Zle, all1 (Eq.trans (b := some (.cells [inlL Z1s 1 ([] : List UInt8), .bool true])) Z1 (congrArg some (show ((.cells [inlL Z1s 1 ([] : List UInt8), .bool true]) : AObj) = .cells [inlL Z1s 1 (tnR (n + 1) b false), .bool (tnB (n + 1) b false)] by first | rfl | (rw [tnR_s Z5, tnB_s Z5]; done) | (rw [tnR_k Z5, tnB_k Z5]; done) | (rw [tnR_k Z5, tnB_k Z5]; rfl))))⟩
  ·have c4e : (decide (((((n + 1) : Nat) : Int) : Int) > ((b.length : Nat) : Int))) = false := Eq.trans Z1 h3;clear h3;have c4 : ¬ ((((n + 1) : Nat) : Int) : Int) > ((b.length : Nat) : Int) := of_decide_eq_false c4e;clear c4e;refine Z29 ?_;refine kF ?_;refine Z26 (Z1u ?_);refine Z1t Try.cfgOk hS ?_;refine aK 6 ?_;refine aM (sliceV Try.cfg 34 (inlL Z1s 1 b) none (some (.int .u64 (((n + 1) : Nat) : Int))) (some (.int .u64 (((n + 1) : Nat) : Int)))) (inlL Z1s 1 (b.take (n + 1))) (cut_hi3 tokC Z1 Z2g (h := (n + 1)) Z5 Z5) ?_;refine aN ?_;refine Z1u ?_;refine Z1t Try.cfgOk hS ?_;refine aK 6 ?_;refine aM (sliceV Try.cfg 34 (inlL Z1s 1 b) (some (.int .u64 (((n + 1) : Nat) : Int))) none none) (inlL Z1s 1 (b.drop (n + 1))) (cut_lo (m := (n + 1)) tokC Z1 Z2g Z5) ?_;refine aN ?_;refine Z1u ?_;refine kK Try.cfgOk hS ?_;refine Z1z ?_;exact ⟨[inlL Z1s 1 (b.take (n + 1)), .bool true], Z1, .tuple (.cons (fs_to (Z23 rfl) (congrArg (inlL Z1s 1) Zf)) (.cons (fs_to (Z23 rfl) (congrArg Value.bool Zf)) (.nil))), Zle, all1 (Eq.trans (b := some (.cells [inlL Z1s 1 (b.drop (n + 1)), .bool false])) Z1 (congrArg some (show ((.cells [inlL Z1s 1 (b.drop (n + 1)), .bool false]) : AObj) = .cells [inlL Z1s 1 (tnR (n + 1) b false), .bool (tnB (n + 1) b false)] by first | rfl | (rw [tnR_s Z5, tnB_s Z5]; done) | (rw [tnR_k Z5, tnB_k Z5]; done) | (rw [tnR_k Z5, tnB_k Z5]; rfl))))⟩
 ·
  refine sc_iceK (k := 1) (N := 400) (v2 := .tuple #[inlL Z1s 1 (tnV (n + 1) b true), .bool (tnO (n + 1) b true)]) (Ms := objL [.cells [inlL Z1s 1 (tnR (n + 1) b true), .bool (tnB (n + 1) b true)]]) rfl ?_ (all1 (OSub.cells (.cons (sub_clo rfl) (.cons (sub_clo rfl) .nil))));refine Z2d Try.cfgOk rtakeN_fn rfl ?_;refine Z1u ?_;refine kK Try.cfgOk hS ?_;refine Z1u (Z1u ?_);refine kK Try.cfgOk hS ?_;refine kT ?_;refine Z1u ?_;refine kK Try.cfgOk hS ?_;refine Z1z ?_;exact ⟨[.slice none 0 0, .bool false], Z1, .tuple (.cons (fs_to (fs_nilL (f := Z1s) (sz := 1) Ze) (congrArg (inlL Z1s 1) Zf)) (.cons (fs_to (Z23 rfl) (congrArg Value.bool Zf)) (.nil))), Zle, all1 (Eq.trans (b := some (.cells [inlL Z1s 1 b, .bool true])) Z1 (congrArg some (show ((.cells [inlL Z1s 1 b, .bool true]) : AObj) = .cells [inlL Z1s 1 (tnR (n + 1) b true), .bool (tnB (n + 1) b true)] by first | rfl | (rw [tnR_s Z5, tnB_s Z5]; done) | (rw [tnR_k Z5, tnB_k Z5]; done) | (rw [tnR_k Z5, tnB_k Z5]; rfl))))⟩
noncomputable def sm_rtakeN : Small Try.prog 0 71 (Nat × (List UInt8) × Bool) where
 k := 1
 A := fun z9 ρ => [.pointer (some ⟨(ρ 0), 0, none⟩), .int .u64 ((z9.1 : Nat) : Int)]
 M := fun z9 ρ => objL [.cells [inlL Z1s 1 z9.2.1, .bool z9.2.2]]
 M1 := fun z9 ρ => objL [.cells [inlL Z1s 1 (tnR z9.1 z9.2.1 z9.2.2), .bool (tnB z9.1 z9.2.1 z9.2.2)]]
 V := fun z9 ρ => .tuple #[inlL Z1s 1 (tnV z9.1 z9.2.1 z9.2.2), .bool (tnO z9.1 z9.2.1 z9.2.2)]
 Pre := fun z9 => (z9.2.1.length ≤ 1000000000) ∧ (z9.1 < 18446744073709551616)
 ch := [0]
 N := 400
 s0 := fun z9 => ((St.empty 0).new (.cells [inlL Z1s 1 z9.2.1, .bool z9.2.2]))
 hch := by decide
 hsame := fun x ρ => all1 (fun h => absurd (by decide) h)
 hG := rfl
 hn := fun x => rfl
 hwf := fun x => ((Z1x 0).new _)
 hget := fun x => all1 (by kernel_rfl)
 noloop := fun x ρ => all1 (fun h => h.elim)
 inA := fun x ρ R hR => .cons (.ptr (hR 0 _ (by decide))) (.cons (sub_clo rfl) .nil)
 inM := fun x ρ R hR => all1 (OSub.cells (.cons (sub_clo rfl) (.cons (sub_clo rfl) .nil)))
 outM := fun x ρ R hR => all1 (OSub.cells (.cons (sub_clo rfl) (.cons (sub_clo rfl) .nil)))
 outV := fun x ρ R hR => .tuple (.cons (sub_clo rfl) (.cons (sub_clo rfl) .nil))
 dom := by
  intro x ρ a ha
  obtain rfl := List.mem_singleton.1 ha
  refine .inl fun β y h => ?_
  obtain ⟨_, _, _, h, _⟩ := h.cons_inv
  exact h.dom_ptr
 sc := by
  rintro ⟨a0, a1, a2⟩ ⟨p0, p1⟩
  exact rtakeN_sc a0 a1 a2 p0 p1
 det := by
  rintro ⟨a0, a1, a2⟩ ρ ⟨b0, b1, b2⟩ σ s h hm hm'
  simp only [injA, injB, Z28] at h
  have q0 : ρ 0 = σ 0 := by simp_all
  have e0 := (hm 0 (by decide)).symm.trans ((congrArg s.get q0).trans (hm' 0 (by decide)))
  simp only [objL, List.getD_cons_zero, List.getD_cons_succ, injA, injB, Z28] at e0
  have q : ∀ a, a < 1 → ρ a = σ a := all1 q0
  clear hm hm'
  exact ⟨by first | rfl | (simp_all [Prod.ext_iff]; done) | exact e0, q⟩
 par := by
  intro x ρ σ h
  have h0 := h 0 (by decide)
  exact ⟨by first | rfl | simp only [h0], by first | exact fun _ _ => rfl | (intro a ha; simp only [h0])⟩
noncomputable def con_rtakeN : Con Try.prog 0 := sm_rtakeN.con
theorem con_rtakeN_at (n : Nat) (b : List UInt8) (bad : Bool) (i0 : Nat) (h0 : b.length ≤ 1000000000) (h1 : n < 18446744073709551616) (s : St) (hn : nodupB [i0] = true) (m0 : s.get i0 = some (.cells [inlL Z1s 1 b, .bool bad])) : con_rtakeN.rel [.pointer (some ⟨i0, 0, none⟩), .int .u64 ((n : Nat) : Int)] s (.tuple #[inlL Z1s 1 (tnV n b bad), .bool (tnO n b bad)]) (s.set i0 (.cells [inlL Z1s 1 (tnR n b bad), .bool (tnB n b bad)])) :=
 sm_rtakeN.at_ (n, b, bad) [i0] s _ ⟨h0, h1⟩ rfl hn rfl (all1 m0) rfl rfl
theorem rbyte_fn : Try.cfg.fn 67 = some Try.f67 := Z1
theorem rbyte_sc (b : List UInt8) (bad : Bool) (h0 : b.length ≤ 1000000000) : SC Try.prog 0 67 [.pointer (some ⟨0, 0, none⟩)] ((St.empty 0).new (.cells [inlL Z1s 1 b, .bool bad])) fun v s' => v = .int .u8 (((byV b bad).toNat : Nat) : Int) ∧ s'.n ≤ 400 ∧ ∀ a, a < 1 → s'.get a = some (objL [.cells [inlL Z1s 1 (tkR b bad), .bool (tkB b bad)]] a) := by
 obtain ⟨rc, hS, hC⟩ := rc_con (Z24 Try.cfgOk 300) [con_rtake] Z1;have hC71 := hC con_rtake (.head _);rcases b with _ | ⟨c_, r_⟩ <;> cases bad
 ·
  refine Z2d Try.cfgOk rbyte_fn rfl ?_;refine Z1u ?_;refine kK Try.cfgOk hS ?_;refine Z1u ?_;refine Z1t Try.cfgOk hS ?_;refine aK 1 ?_;refine aC 71 [.pointer (some ⟨0, 0, none⟩), .int .u64 1] (.tuple #[inlL Z1s 1 ([] : List UInt8), .bool false]) _ rfl (hC71 _ _ _ _ (con_rtake_at ([] : List UInt8) false 0 Zm _ Z1 Z1 )) ?_;refine aN ?_;refine Z1u (Z1u ?_);refine kK Try.cfgOk hS ?_;refine kT ?_;refine Z1u ?_;refine kK Try.cfgOk hS ?_;refine Z1z ?_;exact ⟨[.int .u8 0], Z1, congrArg (Value.int .u8) Z0m, Zle, all1 (Eq.trans (b := some (.cells [inlL Z1s 1 ([] : List UInt8), .bool true])) Z1 (congrArg some (show ((.cells [inlL Z1s 1 ([] : List UInt8), .bool true]) : AObj) = .cells [inlL Z1s 1 (tkR ([] : List UInt8) false), .bool (tkB ([] : List UInt8) false)] by rfl)))⟩
 ·
  refine Z2d Try.cfgOk rbyte_fn rfl ?_;refine Z1u ?_;refine kK Try.cfgOk hS ?_;refine Z1u ?_;refine Z1t Try.cfgOk hS ?_;refine aK 1 ?_;refine aC 71 [.pointer (some ⟨0, 0, none⟩), .int .u64 1] (.tuple #[inlL Z1s 1 ([] : List UInt8), .bool false]) _ rfl (hC71 _ _ _ _ (con_rtake_at ([] : List UInt8) true 0 Zm _ Z1 Z1 )) ?_;refine aN ?_;refine Z1u (Z1u ?_);refine kK Try.cfgOk hS ?_;refine kT ?_;refine Z1u ?_;refine kK Try.cfgOk hS ?_;refine Z1z ?_;exact ⟨[.int .u8 0], Z1, congrArg (Value.int .u8) Z0m, Zle, all1 (Eq.trans (b := some (.cells [inlL Z1s 1 ([] : List UInt8), .bool true])) Z1 (congrArg some (show ((.cells [inlL Z1s 1 ([] : List UInt8), .bool true]) : AObj) = .cells [inlL Z1s 1 (tkR ([] : List UInt8) true), .bool (tkB ([] : List UInt8) true)] by rfl)))⟩
 ·
  refine Z2d Try.cfgOk rbyte_fn rfl ?_;refine Z1u ?_;refine kK Try.cfgOk hS ?_;refine Z1u ?_;refine Z1t Try.cfgOk hS ?_;refine aK 1 ?_;refine aC 71 [.pointer (some ⟨0, 0, none⟩), .int .u64 1] (.tuple #[inlL Z1s 1 ([c_]), .bool true]) _ rfl (hC71 _ _ _ _ (con_rtake_at (c_ :: r_) false 0 Zm _ Z1 Z1 )) ?_;refine aN ?_;refine Z1u (Z1u ?_);refine kK Try.cfgOk hS ?_;refine kF ?_;refine Z26 (Z1u ?_);refine Z1t Try.cfgOk hS ?_;refine aK 1 ?_;refine aM (indexAddrV Try.cfg 34 (inlL Z1s 1 ([c_])) (.int .i64 0)) (elt (flatL Z1s ([c_])) (0 * 1)) (idx_inlL tokC Z1 Z0g) ?_;refine aM (loadV Try.cfg (St.empty 0) 5 (elt (flatL Z1s ([c_])) (0 * 1))) (.int .u8 ((c_.toNat : Nat) : Int)) (load_el1 (o := 0) tokC Z1 Z2g (show [c_][0]? = some c_ from rfl) rfl) ?_;refine aN ?_;refine Z1z ?_;exact ⟨[.int .u8 ((c_.toNat : Nat) : Int)], Z1, congrArg (Value.int .u8) Z0m, Zle, all1 (Eq.trans (b := some (.cells [inlL Z1s 1 r_, .bool false])) Z1 (congrArg some (show ((.cells [inlL Z1s 1 r_, .bool false]) : AObj) = .cells [inlL Z1s 1 (tkR (c_ :: r_) false), .bool (tkB (c_ :: r_) false)] by rfl)))⟩
 ·
  refine Z2d Try.cfgOk rbyte_fn rfl ?_;refine Z1u ?_;refine kK Try.cfgOk hS ?_;refine Z1u ?_;refine Z1t Try.cfgOk hS ?_;refine aK 1 ?_;refine aC 71 [.pointer (some ⟨0, 0, none⟩), .int .u64 1] (.tuple #[inlL Z1s 1 ([] : List UInt8), .bool false]) _ rfl (hC71 _ _ _ _ (con_rtake_at (c_ :: r_) true 0 Zm _ Z1 Z1 )) ?_;refine aN ?_;refine Z1u (Z1u ?_);refine kK Try.cfgOk hS ?_;refine kT ?_;refine Z1u ?_;refine kK Try.cfgOk hS ?_;refine Z1z ?_;exact ⟨[.int .u8 0], Z1, congrArg (Value.int .u8) Z0m, Zle, all1 (Eq.trans (b := some (.cells [inlL Z1s 1 (c_ :: r_), .bool true])) Z1 (congrArg some (show ((.cells [inlL Z1s 1 (c_ :: r_), .bool true]) : AObj) = .cells [inlL Z1s 1 (tkR (c_ :: r_) true), .bool (tkB (c_ :: r_) true)] by rfl)))⟩
noncomputable def sm_rbyte : Small Try.prog 0 67 ((List UInt8) × Bool) where
 k := 1
 A := fun z9 ρ => [.pointer (some ⟨(ρ 0), 0, none⟩)]
 M := fun z9 ρ => objL [.cells [inlL Z1s 1 z9.1, .bool z9.2]]
 M1 := fun z9 ρ => objL [.cells [inlL Z1s 1 (tkR z9.1 z9.2), .bool (tkB z9.1 z9.2)]]
 V := fun z9 ρ => .int .u8 (((byV z9.1 z9.2).toNat : Nat) : Int)
 Pre := fun z9 => (z9.1.length ≤ 1000000000)
 ch := [0]
 N := 400
 s0 := fun z9 => ((St.empty 0).new (.cells [inlL Z1s 1 z9.1, .bool z9.2]))
 hch := by decide
 hsame := fun x ρ => all1 (fun h => absurd (by decide) h)
 hG := rfl
 hn := fun x => rfl
 hwf := fun x => ((Z1x 0).new _)
 hget := fun x => all1 (by kernel_rfl)
 noloop := fun x ρ => all1 (fun h => h.elim)
 inA := fun x ρ R hR => .cons (.ptr (hR 0 _ (by decide))) .nil
 inM := fun x ρ R hR => all1 (OSub.cells (.cons (sub_clo rfl) (.cons (sub_clo rfl) .nil)))
 outM := fun x ρ R hR => all1 (OSub.cells (.cons (sub_clo rfl) (.cons (sub_clo rfl) .nil)))
 outV := fun x ρ R hR => sub_clo rfl
 dom := by
  intro x ρ a ha
  obtain rfl := List.mem_singleton.1 ha
  refine .inl fun β y h => ?_
  obtain ⟨_, _, _, h, _⟩ := h.cons_inv
  exact h.dom_ptr
 sc := by
  rintro ⟨a0, a1⟩ p0
  exact rbyte_sc a0 a1 p0
 det := by
  rintro ⟨a0, a1⟩ ρ ⟨b0, b1⟩ σ s h hm hm'
  simp only [injA, injB, Z28] at h
  have q0 : ρ 0 = σ 0 := by simp_all
  have e0 := (hm 0 (by decide)).symm.trans ((congrArg s.get q0).trans (hm' 0 (by decide)))
  simp only [objL, List.getD_cons_zero, List.getD_cons_succ, injA, injB, Z28] at e0
  have q : ∀ a, a < 1 → ρ a = σ a := all1 q0
  clear hm hm'
  exact ⟨by first | rfl | (simp_all [Prod.ext_iff]; done) | exact e0, q⟩
 par := by
  intro x ρ σ h
  have h0 := h 0 (by decide)
  exact ⟨by first | rfl | simp only [h0], by first | exact fun _ _ => rfl | (intro a ha; simp only [h0])⟩
noncomputable def con_rbyte : Con Try.prog 0 := sm_rbyte.con
theorem con_rbyte_at (b : List UInt8) (bad : Bool) (i0 : Nat) (h0 : b.length ≤ 1000000000) (s : St) (hn : nodupB [i0] = true) (m0 : s.get i0 = some (.cells [inlL Z1s 1 b, .bool bad])) : con_rbyte.rel [.pointer (some ⟨i0, 0, none⟩)] s (.int .u8 (((byV b bad).toNat : Nat) : Int)) (s.set i0 (.cells [inlL Z1s 1 (tkR b bad), .bool (tkB b bad)])) :=
 sm_rbyte.at_ (b, bad) [i0] s _ h0 rfl hn rfl (all1 m0) rfl rfl
theorem rflag_fn : Try.cfg.fn 45 = some Try.f45 := Z1
theorem rflag_sc (b : List UInt8) (bad : Bool) (h0 : b.length ≤ 1000000000) : SC Try.prog 0 45 [.pointer (some ⟨0, 0, none⟩)] ((St.empty 0).new (.cells [inlL Z1s 1 b, .bool bad])) fun v s' => v = .bool (flV b bad) ∧ s'.n ≤ 400 ∧ ∀ a, a < 1 → s'.get a = some (objL [.cells [inlL Z1s 1 (flR b bad), .bool (flB b bad)]] a) := by
 obtain ⟨rc, hS, hC⟩ := rc_con (Z24 Try.cfgOk 300) [con_rbyte, con_rfail] Z1;have hC67 := hC con_rbyte (.head _);have hC68 := hC con_rfail (.tail _ (.head _));refine Z2d Try.cfgOk rflag_fn rfl ?_;refine Z1u ?_;refine kK Try.cfgOk hS ?_;refine Z1u ?_;refine Z1t Try.cfgOk hS ?_;refine aK 1 ?_;refine aC 67 [.pointer (some ⟨0, 0, none⟩)] (.int .u8 (((byV b bad).toNat : Nat) : Int)) _ rfl (hC67 _ _ _ _ (con_rbyte_at b bad 0 Zm _ Z1 Z1 )) ?_;refine aN ?_;refine Z1u (Z1u ?_);refine Z1t Try.cfgOk hS ?_;refine aK 1 ?_;refine aT (fun h1 => ?_) (fun h1 => ?_)
 ·have c2e : (decide (((((byV b bad).toNat : Nat) : Int) : Int) > 1)) = true := Eq.trans Z1 h1;clear h1;have c2 : ((((byV b bad).toNat : Nat) : Int) : Int) > 1 := of_decide_eq_true c2e;clear c2e;refine Z29 ?_;refine kT ?_;refine Z1t Try.cfgOk hS ?_;refine aK 1 ?_;refine aC 68 [.pointer (some ⟨0, 0, none⟩)] (.tuple #[]) _ rfl (hC68 _ _ _ _ (con_rfail_at (tkR b bad) (tkB b bad) 0  _ Z1 Z1 )) ?_;refine Z29 ?_;refine Z1u ?_;refine Z1t Try.cfgOk hS ?_;refine aK 1 ?_;refine aT (fun h3 => ?_) (fun h3 => ?_)
  ·have c4e : (((((byV b bad).toNat : Nat) : Int) : Int) == 1) = true := Eq.trans Z1 h3;clear h3;have c4 : ((((byV b bad).toNat : Nat) : Int) : Int) = 1 := eq_of_beq c4e;clear c4e;refine aN ?_;refine Z1z ?_;exact ⟨[.bool true], Z1, congrArg Value.bool Zj, Zle, all1 (Eq.trans (b := some (.cells [inlL Z1s 1 ([] : List UInt8), .bool true])) Z1 (congrArg some (show ((.cells [inlL Z1s 1 ([] : List UInt8), .bool true]) : AObj) = .cells [inlL Z1s 1 (flR b bad), .bool (flB b bad)] by first | (rw [flR, flB, if_pos Z5, if_pos Z5]; done) | (rw [flR, flB, if_neg Z5, if_neg Z5]; done))))⟩
  ·have c4e : (((((byV b bad).toNat : Nat) : Int) : Int) == 1) = false := Eq.trans Z1 h3;clear h3;have c4 : ¬ ((((byV b bad).toNat : Nat) : Int) : Int) = 1 := ne_of_beq_false c4e;clear c4e;refine aN ?_;refine Z1z ?_;exact ⟨[.bool false], Z1, congrArg Value.bool Zj, Zle, all1 (Eq.trans (b := some (.cells [inlL Z1s 1 ([] : List UInt8), .bool true])) Z1 (congrArg some (show ((.cells [inlL Z1s 1 ([] : List UInt8), .bool true]) : AObj) = .cells [inlL Z1s 1 (flR b bad), .bool (flB b bad)] by first | (rw [flR, flB, if_pos Z5, if_pos Z5]; done) | (rw [flR, flB, if_neg Z5, if_neg Z5]; done))))⟩
 ·have c2e : (decide (((((byV b bad).toNat : Nat) : Int) : Int) > 1)) = false := Eq.trans Z1 h1;clear h1;have c2 : ¬ ((((byV b bad).toNat : Nat) : Int) : Int) > 1 := of_decide_eq_false c2e;clear c2e;refine Z29 ?_;refine kF ?_;refine Z26 (Z1u ?_);refine Z1t Try.cfgOk hS ?_;refine aK 1 ?_;refine aT (fun h5 => ?_) (fun h5 => ?_)
  ·have c6e : (((((byV b bad).toNat : Nat) : Int) : Int) == 1) = true := Eq.trans Z1 h5;clear h5;have c6 : ((((byV b bad).toNat : Nat) : Int) : Int) = 1 := eq_of_beq c6e;clear c6e;refine aN ?_;refine Z1z ?_;exact ⟨[.bool true], Z1, congrArg Value.bool Zj, Zle, all1 (Eq.trans (b := some (.cells [inlL Z1s 1 (tkR b bad), .bool (tkB b bad)])) Z1 (congrArg some (show ((.cells [inlL Z1s 1 (tkR b bad), .bool (tkB b bad)]) : AObj) = .cells [inlL Z1s 1 (flR b bad), .bool (flB b bad)] by first | (rw [flR, flB, if_pos Z5, if_pos Z5]; done) | (rw [flR, flB, if_neg Z5, if_neg Z5]; done))))⟩
  ·have c6e : (((((byV b bad).toNat : Nat) : Int) : Int) == 1) = false := Eq.trans Z1 h5;clear h5;have c6 : ¬ ((((byV b bad).toNat : Nat) : Int) : Int) = 1 := ne_of_beq_false c6e;clear c6e;refine aN ?_;refine Z1z ?_;exact ⟨[.bool false], Z1, congrArg Value.bool Zj, Zle, all1 (Eq.trans (b := some (.cells [inlL Z1s 1 (tkR b bad), .bool (tkB b bad)])) Z1 (congrArg some (show ((.cells [inlL Z1s 1 (tkR b bad), .bool (tkB b bad)]) : AObj) = .cells [inlL Z1s 1 (flR b bad), .bool (flB b bad)] by first | (rw [flR, flB, if_pos Z5, if_pos Z5]; done) | (rw [flR, flB, if_neg Z5, if_neg Z5]; done))))⟩
noncomputable def sm_rflag : Small Try.prog 0 45 ((List UInt8) × Bool) where
 k := 1
 A := fun z9 ρ => [.pointer (some ⟨(ρ 0), 0, none⟩)]
 M := fun z9 ρ => objL [.cells [inlL Z1s 1 z9.1, .bool z9.2]]
 M1 := fun z9 ρ => objL [.cells [inlL Z1s 1 (flR z9.1 z9.2), .bool (flB z9.1 z9.2)]]
 V := fun z9 ρ => .bool (flV z9.1 z9.2)
 Pre := fun z9 => (z9.1.length ≤ 1000000000)
 ch := [0]
 N := 400
 s0 := fun z9 => ((St.empty 0).new (.cells [inlL Z1s 1 z9.1, .bool z9.2]))
 hch := by decide
 hsame := fun x ρ => all1 (fun h => absurd (by decide) h)
 hG := rfl
 hn := fun x => rfl
 hwf := fun x => ((Z1x 0).new _)
 hget := fun x => all1 (by kernel_rfl)
 noloop := fun x ρ => all1 (fun h => h.elim)
 inA := fun x ρ R hR => .cons (.ptr (hR 0 _ (by decide))) .nil
 inM := fun x ρ R hR => all1 (OSub.cells (.cons (sub_clo rfl) (.cons (sub_clo rfl) .nil)))
 outM := fun x ρ R hR => all1 (OSub.cells (.cons (sub_clo rfl) (.cons (sub_clo rfl) .nil)))
 outV := fun x ρ R hR => sub_clo rfl
 dom := by
  intro x ρ a ha
  obtain rfl := List.mem_singleton.1 ha
  refine .inl fun β y h => ?_
  obtain ⟨_, _, _, h, _⟩ := h.cons_inv
  exact h.dom_ptr
 sc := by
  rintro ⟨a0, a1⟩ p0
  exact rflag_sc a0 a1 p0
 det := by
  rintro ⟨a0, a1⟩ ρ ⟨b0, b1⟩ σ s h hm hm'
  simp only [injA, injB, Z28] at h
  have q0 : ρ 0 = σ 0 := by simp_all
  have e0 := (hm 0 (by decide)).symm.trans ((congrArg s.get q0).trans (hm' 0 (by decide)))
  simp only [objL, List.getD_cons_zero, List.getD_cons_succ, injA, injB, Z28] at e0
  have q : ∀ a, a < 1 → ρ a = σ a := all1 q0
  clear hm hm'
  exact ⟨by first | rfl | (simp_all [Prod.ext_iff]; done) | exact e0, q⟩
 par := by
  intro x ρ σ h
  have h0 := h 0 (by decide)
  exact ⟨by first | rfl | simp only [h0], by first | exact fun _ _ => rfl | (intro a ha; simp only [h0])⟩
noncomputable def con_rflag : Con Try.prog 0 := sm_rflag.con
theorem con_rflag_at (b : List UInt8) (bad : Bool) (i0 : Nat) (h0 : b.length ≤ 1000000000) (s : St) (hn : nodupB [i0] = true) (m0 : s.get i0 = some (.cells [inlL Z1s 1 b, .bool bad])) : con_rflag.rel [.pointer (some ⟨i0, 0, none⟩)] s (.bool (flV b bad)) (s.set i0 (.cells [inlL Z1s 1 (flR b bad), .bool (flB b bad)])) :=
 sm_rflag.at_ (b, bad) [i0] s _ h0 rfl hn rfl (all1 m0) rfl rfl
theorem rbytes_fn : Try.cfg.fn 47 = some Try.f47 := Z1
theorem rbytes_sc (b : List UInt8) (bad : Bool) (h0 : b.length ≤ 1000000000) : SC Try.prog 0 47 [.pointer (some ⟨0, 0, none⟩)] ((St.empty 0).new (.cells [inlL Z1s 1 b, .bool bad])) fun v s' => v = inlL Z1s 1 (tnV (rdV b bad) (rdR b bad) (rdB b bad)) ∧ s'.n ≤ 400 ∧ ∀ a, a < 1 → s'.get a = some (objL [.cells [inlL Z1s 1 (tnR (rdV b bad) (rdR b bad) (rdB b bad)), .bool (tnB (rdV b bad) (rdR b bad) (rdB b bad))]] a) := by
 obtain ⟨rc, hS, hC⟩ := rc_con (Z24 Try.cfgOk 300) [con_rdcount, con_rtakeN] Z1;have hC66 := hC con_rdcount (.head _);have hC71 := hC con_rtakeN (.tail _ (.head _));refine Z2d Try.cfgOk rbytes_fn rfl ?_;refine Z1u ?_;refine kK Try.cfgOk hS ?_;refine Z1u ?_;refine Z1t Try.cfgOk hS ?_;refine aK 2 ?_;refine aC 66 [.pointer (some ⟨0, 0, none⟩)] (.int .u64 (((rdV b bad) : Nat) : Int)) _ rfl (hC66 _ _ _ _ (con_rdcount_at b bad 0 Z0u _ Z1 Z1 )) ?_;refine aC 71 [.pointer (some ⟨0, 0, none⟩), .int .u64 (((rdV b bad) : Nat) : Int)] (.tuple #[inlL Z1s 1 (tnV (rdV b bad) (rdR b bad) (rdB b bad)), .bool (tnO (rdV b bad) (rdR b bad) (rdB b bad))]) _ rfl (hC71 _ _ _ _ (con_rtakeN_at (rdV b bad) (rdR b bad) (rdB b bad) 0 Z0u Z0u _ Z1 Z1 )) ?_;refine aN ?_;refine Z1u ?_;refine kK Try.cfgOk hS ?_;refine Z1z ?_;exact ⟨[inlL Z1s 1 (tnV (rdV b bad) (rdR b bad) (rdB b bad))], Z1, rfl, Zle, all1 Z1⟩
noncomputable def sm_rbytes : Small Try.prog 0 47 ((List UInt8) × Bool) where
 k := 1
 A := fun z9 ρ => [.pointer (some ⟨(ρ 0), 0, none⟩)]
 M := fun z9 ρ => objL [.cells [inlL Z1s 1 z9.1, .bool z9.2]]
 M1 := fun z9 ρ => objL [.cells [inlL Z1s 1 (tnR (rdV z9.1 z9.2) (rdR z9.1 z9.2) (rdB z9.1 z9.2)), .bool (tnB (rdV z9.1 z9.2) (rdR z9.1 z9.2) (rdB z9.1 z9.2))]]
 V := fun z9 ρ => inlL Z1s 1 (tnV (rdV z9.1 z9.2) (rdR z9.1 z9.2) (rdB z9.1 z9.2))
 Pre := fun z9 => (z9.1.length ≤ 1000000000)
 ch := [0]
 N := 400
 s0 := fun z9 => ((St.empty 0).new (.cells [inlL Z1s 1 z9.1, .bool z9.2]))
 hch := by decide
 hsame := fun x ρ => all1 (fun h => absurd (by decide) h)
 hG := rfl
 hn := fun x => rfl
 hwf := fun x => ((Z1x 0).new _)
 hget := fun x => all1 (by kernel_rfl)
 noloop := fun x ρ => all1 (fun h => h.elim)
 inA := fun x ρ R hR => .cons (.ptr (hR 0 _ (by decide))) .nil
 inM := fun x ρ R hR => all1 (OSub.cells (.cons (sub_clo rfl) (.cons (sub_clo rfl) .nil)))
 outM := fun x ρ R hR => all1 (OSub.cells (.cons (sub_clo rfl) (.cons (sub_clo rfl) .nil)))
 outV := fun x ρ R hR => sub_clo rfl
 dom := by
  intro x ρ a ha
  obtain rfl := List.mem_singleton.1 ha
  refine .inl fun β y h => ?_
  obtain ⟨_, _, _, h, _⟩ := h.cons_inv
  exact h.dom_ptr
 sc := by
  rintro ⟨a0, a1⟩ p0
  exact rbytes_sc a0 a1 p0
 det := by
  rintro ⟨a0, a1⟩ ρ ⟨b0, b1⟩ σ s h hm hm'
  simp only [injA, injB, Z28] at h
  have q0 : ρ 0 = σ 0 := by simp_all
  have e0 := (hm 0 (by decide)).symm.trans ((congrArg s.get q0).trans (hm' 0 (by decide)))
  simp only [objL, List.getD_cons_zero, List.getD_cons_succ, injA, injB, Z28] at e0
  have q : ∀ a, a < 1 → ρ a = σ a := all1 q0
  clear hm hm'
  exact ⟨by first | rfl | (simp_all [Prod.ext_iff]; done) | exact e0, q⟩
 par := by
  intro x ρ σ h
  have h0 := h 0 (by decide)
  exact ⟨by first | rfl | simp only [h0], by first | exact fun _ _ => rfl | (intro a ha; simp only [h0])⟩
noncomputable def con_rbytes : Con Try.prog 0 := sm_rbytes.con
theorem con_rbytes_at (b : List UInt8) (bad : Bool) (i0 : Nat) (h0 : b.length ≤ 1000000000) (s : St) (hn : nodupB [i0] = true) (m0 : s.get i0 = some (.cells [inlL Z1s 1 b, .bool bad])) : con_rbytes.rel [.pointer (some ⟨i0, 0, none⟩)] s (inlL Z1s 1 (tnV (rdV b bad) (rdR b bad) (rdB b bad))) (s.set i0 (.cells [inlL Z1s 1 (tnR (rdV b bad) (rdR b bad) (rdB b bad)), .bool (tnB (rdV b bad) (rdR b bad) (rdB b bad))])) :=
 sm_rbytes.at_ (b, bad) [i0] s _ h0 rfl hn rfl (all1 m0) rfl rfl
theorem psmall_fn : Try.cfg.fn 69 = some Try.f69 := Z1
theorem psmall_sc (b : List UInt8) (bad : Bool) (h0 : b.length ≤ 1000000000) : SC Try.prog 0 69 [.pointer (some ⟨0, 0, none⟩)] ((St.empty 0).new (.cells [inlL Z1s 1 b, .bool bad])) fun v s' => v = .int .i64 ((rdV b bad % 4611686018427387904 : Nat) : Int) ∧ s'.n ≤ 400 ∧ ∀ a, a < 1 → s'.get a = some (objL [.cells [inlL Z1s 1 (rdR b bad), .bool (rdB b bad)]] a) := by
 obtain ⟨rc, hS, hC⟩ := rc_con (Z24 Try.cfgOk 300) [con_rdcount] Z1;have hC66 := hC con_rdcount (.head _);refine Z2d Try.cfgOk psmall_fn rfl ?_;refine Z1u ?_;refine kK Try.cfgOk hS ?_;refine Z1u ?_;refine Z1t Try.cfgOk hS ?_;refine aK 1 ?_;refine aC 66 [.pointer (some ⟨0, 0, none⟩)] (.int .u64 (((rdV b bad) : Nat) : Int)) _ rfl (hC66 _ _ _ _ (con_rdcount_at b bad 0 Zm _ Z1 Z1 )) ?_;refine aE (v := .int .u64 (IntKind.wrap .u64 (((BitVec.ofInt (IntKind.bits .u64) (((rdV b bad) : Nat) : Int) &&& BitVec.ofInt (IntKind.bits .u64) 4611686018427387903).toNat : Nat) : Int))) (.int .u64 (((rdV b bad) % 4611686018427387904 : Nat) : Int)) (congrArg (Value.int .u64) (and62 (rdV b bad) (rdV_lt _ _))) ?_;refine aE (v := .int .i64 (IntKind.wrap .i64 (((rdV b bad) % 4611686018427387904 : Nat) : Int))) (.int .i64 (((rdV b bad) % 4611686018427387904 : Nat) : Int)) (congrArg (Value.int .i64) (wrap64 Z1d)) ?_;refine aN ?_;refine Z1z ?_;exact ⟨[.int .i64 (((rdV b bad) % 4611686018427387904 : Nat) : Int)], Z1, congrArg (Value.int .i64) Z1r, Zle, all1 Z1⟩
noncomputable def sm_psmall : Small Try.prog 0 69 ((List UInt8) × Bool) where
 k := 1
 A := fun z9 ρ => [.pointer (some ⟨(ρ 0), 0, none⟩)]
 M := fun z9 ρ => objL [.cells [inlL Z1s 1 z9.1, .bool z9.2]]
 M1 := fun z9 ρ => objL [.cells [inlL Z1s 1 (rdR z9.1 z9.2), .bool (rdB z9.1 z9.2)]]
 V := fun z9 ρ => .int .i64 ((rdV z9.1 z9.2 % 4611686018427387904 : Nat) : Int)
 Pre := fun z9 => (z9.1.length ≤ 1000000000)
 ch := [0]
 N := 400
 s0 := fun z9 => ((St.empty 0).new (.cells [inlL Z1s 1 z9.1, .bool z9.2]))
 hch := by decide
 hsame := fun x ρ => all1 (fun h => absurd (by decide) h)
 hG := rfl
 hn := fun x => rfl
 hwf := fun x => ((Z1x 0).new _)
 hget := fun x => all1 (by kernel_rfl)
 noloop := fun x ρ => all1 (fun h => h.elim)
 inA := fun x ρ R hR => .cons (.ptr (hR 0 _ (by decide))) .nil
 inM := fun x ρ R hR => all1 (OSub.cells (.cons (sub_clo rfl) (.cons (sub_clo rfl) .nil)))
 outM := fun x ρ R hR => all1 (OSub.cells (.cons (sub_clo rfl) (.cons (sub_clo rfl) .nil)))
 outV := fun x ρ R hR => sub_clo rfl
 dom := by
  intro x ρ a ha
  obtain rfl := List.mem_singleton.1 ha
  refine .inl fun β y h => ?_
  obtain ⟨_, _, _, h, _⟩ := h.cons_inv
  exact h.dom_ptr
 sc := by
  rintro ⟨a0, a1⟩ p0
  exact psmall_sc a0 a1 p0
 det := by
  rintro ⟨a0, a1⟩ ρ ⟨b0, b1⟩ σ s h hm hm'
  simp only [injA, injB, Z28] at h
  have q0 : ρ 0 = σ 0 := by simp_all
  have e0 := (hm 0 (by decide)).symm.trans ((congrArg s.get q0).trans (hm' 0 (by decide)))
  simp only [objL, List.getD_cons_zero, List.getD_cons_succ, injA, injB, Z28] at e0
  have q : ∀ a, a < 1 → ρ a = σ a := all1 q0
  clear hm hm'
  exact ⟨by first | rfl | (simp_all [Prod.ext_iff]; done) | exact e0, q⟩
 par := by
  intro x ρ σ h
  have h0 := h 0 (by decide)
  exact ⟨by first | rfl | simp only [h0], by first | exact fun _ _ => rfl | (intro a ha; simp only [h0])⟩
noncomputable def con_psmall : Con Try.prog 0 := sm_psmall.con
theorem con_psmall_at (b : List UInt8) (bad : Bool) (i0 : Nat) (h0 : b.length ≤ 1000000000) (s : St) (hn : nodupB [i0] = true) (m0 : s.get i0 = some (.cells [inlL Z1s 1 b, .bool bad])) : con_psmall.rel [.pointer (some ⟨i0, 0, none⟩)] s (.int .i64 ((rdV b bad % 4611686018427387904 : Nat) : Int)) (s.set i0 (.cells [inlL Z1s 1 (rdR b bad), .bool (rdB b bad)])) :=
 sm_psmall.at_ (b, bad) [i0] s _ h0 rfl hn rfl (all1 m0) rfl rfl
theorem rsmall_fn : Try.cfg.fn 44 = some Try.f44 := Z1
theorem rsmall_sc (b : List UInt8) (bad : Bool) (h0 : b.length ≤ 1000000000) : SC Try.prog 0 44 [.pointer (some ⟨0, 0, none⟩)] ((St.empty 0).new (.cells [inlL Z1s 1 b, .bool bad])) fun v s' => v = .int .i64 ((rdV b bad % 4611686018427387904 : Nat) : Int) ∧ s'.n ≤ 400 ∧ ∀ a, a < 1 → s'.get a = some (objL [.cells [inlL Z1s 1 (rdR b bad), .bool (rdB b bad)]] a) := by
 obtain ⟨rc, hS, hC⟩ := rc_con (Z24 Try.cfgOk 300) [con_rdcount] Z1;have hC66 := hC con_rdcount (.head _);refine Z2d Try.cfgOk rsmall_fn rfl ?_;refine Z1u ?_;refine kK Try.cfgOk hS ?_;refine Z1u ?_;refine Z1t Try.cfgOk hS ?_;refine aK 1 ?_;refine aC 66 [.pointer (some ⟨0, 0, none⟩)] (.int .u64 (((rdV b bad) : Nat) : Int)) _ rfl (hC66 _ _ _ _ (con_rdcount_at b bad 0 Zm _ Z1 Z1 )) ?_;refine aE (v := .int .u64 (IntKind.wrap .u64 (((BitVec.ofInt (IntKind.bits .u64) (((rdV b bad) : Nat) : Int) &&& BitVec.ofInt (IntKind.bits .u64) 4611686018427387903).toNat : Nat) : Int))) (.int .u64 (((rdV b bad) % 4611686018427387904 : Nat) : Int)) (congrArg (Value.int .u64) (and62 (rdV b bad) (rdV_lt _ _))) ?_;refine aE (v := .int .i64 (IntKind.wrap .i64 (((rdV b bad) % 4611686018427387904 : Nat) : Int))) (.int .i64 (((rdV b bad) % 4611686018427387904 : Nat) : Int)) (congrArg (Value.int .i64) (wrap64 Z1d)) ?_;refine aN ?_;refine Z1z ?_;exact ⟨[.int .i64 (((rdV b bad) % 4611686018427387904 : Nat) : Int)], Z1, congrArg (Value.int .i64) Z1r, Zle, all1 Z1⟩
noncomputable def sm_rsmall : Small Try.prog 0 44 ((List UInt8) × Bool) where
 k := 1
 A := fun z9 ρ => [.pointer (some ⟨(ρ 0), 0, none⟩)]
 M := fun z9 ρ => objL [.cells [inlL Z1s 1 z9.1, .bool z9.2]]
 M1 := fun z9 ρ => objL [.cells [inlL Z1s 1 (rdR z9.1 z9.2), .bool (rdB z9.1 z9.2)]]
 V := fun z9 ρ => .int .i64 ((rdV z9.1 z9.2 % 4611686018427387904 : Nat) : Int)
 Pre := fun z9 => (z9.1.length ≤ 1000000000)
 ch := [0]
 N := 400
 s0 := fun z9 => ((St.empty 0).new (.cells [inlL Z1s 1 z9.1, .bool z9.2]))
 hch := by decide
 hsame := fun x ρ => all1 (fun h => absurd (by decide) h)
 hG := rfl
 hn := fun x => rfl
 hwf := fun x => ((Z1x 0).new _)
 hget := fun x => all1 (by kernel_rfl)
 noloop := fun x ρ => all1 (fun h => h.elim)
 inA := fun x ρ R hR => .cons (.ptr (hR 0 _ (by decide))) .nil
 inM := fun x ρ R hR => all1 (OSub.cells (.cons (sub_clo rfl) (.cons (sub_clo rfl) .nil)))
 outM := fun x ρ R hR => all1 (OSub.cells (.cons (sub_clo rfl) (.cons (sub_clo rfl) .nil)))
 outV := fun x ρ R hR => sub_clo rfl
 dom := by
  intro x ρ a ha
  obtain rfl := List.mem_singleton.1 ha
  refine .inl fun β y h => ?_
  obtain ⟨_, _, _, h, _⟩ := h.cons_inv
  exact h.dom_ptr
 sc := by
  rintro ⟨a0, a1⟩ p0
  exact rsmall_sc a0 a1 p0
 det := by
  rintro ⟨a0, a1⟩ ρ ⟨b0, b1⟩ σ s h hm hm'
  simp only [injA, injB, Z28] at h
  have q0 : ρ 0 = σ 0 := by simp_all
  have e0 := (hm 0 (by decide)).symm.trans ((congrArg s.get q0).trans (hm' 0 (by decide)))
  simp only [objL, List.getD_cons_zero, List.getD_cons_succ, injA, injB, Z28] at e0
  have q : ∀ a, a < 1 → ρ a = σ a := all1 q0
  clear hm hm'
  exact ⟨by first | rfl | (simp_all [Prod.ext_iff]; done) | exact e0, q⟩
 par := by
  intro x ρ σ h
  have h0 := h 0 (by decide)
  exact ⟨by first | rfl | simp only [h0], by first | exact fun _ _ => rfl | (intro a ha; simp only [h0])⟩
noncomputable def con_rsmall : Con Try.prog 0 := sm_rsmall.con
theorem con_rsmall_at (b : List UInt8) (bad : Bool) (i0 : Nat) (h0 : b.length ≤ 1000000000) (s : St) (hn : nodupB [i0] = true) (m0 : s.get i0 = some (.cells [inlL Z1s 1 b, .bool bad])) : con_rsmall.rel [.pointer (some ⟨i0, 0, none⟩)] s (.int .i64 ((rdV b bad % 4611686018427387904 : Nat) : Int)) (s.set i0 (.cells [inlL Z1s 1 (rdR b bad), .bool (rdB b bad)])) :=
 sm_rsmall.at_ (b, bad) [i0] s _ h0 rfl hn rfl (all1 m0) rfl rfl
end Go.Proofs.Ytegigohhnplomaa