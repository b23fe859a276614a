/- Programs: good ones. -/
import Derived.Test.YtgplkbfjlidinabGreatDoorALine
import Derived.Test.YtgplkbfjlidinabGreatDoorKit
set_option linter.unusedVariables false
set_option linter.unusedSimpArgs false
set_option linter.unnecessarySimpa false
set_option maxHeartbeats 4000000
set_option maxRecDepth 100000
namespace Go.Proofs.YtgplkbfjlidinabGreatDoor
open Go.Ai
theorem within_fn : Tryz.cfg.fn 31 = some Tryz.f31 := Z3
theorem within_sc (n : Int) (lo : Int) (hi : Int)  : SC Tryz.prog 135000004004000 31 [.int .i64 n, .int .i64 lo, .int .i64 hi] (St.empty 0) fun v s' => v = .bool (decide (lo ≤ n ∧ n ≤ hi)) ∧ s'.n ≤ 400 := by
 have hS := Z2q Tryz.cfgOk 300;refine sc_ice0 (N := 400) (v2 := .bool (decide (lo ≤ n ∧ n ≤ hi))) (Q := fun v s' => FS 0 s' v (.bool (decide (lo ≤ n ∧ n ≤ hi))) ∧ s'.n ≤ 400) ?_ (fun _ _ h => h);refine sc_body Tryz.cfgOk within_fn rfl ?_;refine Z28 ?_;refine kK Tryz.cfgOk hS ?_;refine Z28 ?_;refine Z27 Tryz.cfgOk hS ?_;refine aK 2 ?_;refine aT (fun h1 => ?_) (fun h1 => ?_)
 ·have c2e : (decide ((n : Int) ≥ lo)) = true := Eq.trans Z3 h1;clear h1;have c2 : (n : Int) ≥ lo := of_decide_eq_true c2e;clear c2e;refine aK 3 ?_;refine aT (fun h3 => ?_) (fun h3 => ?_)
  ·have c4e : (decide ((n : Int) ≤ hi)) = true := Eq.trans Z3 h3;clear h3;have c4 : (n : Int) ≤ hi := of_decide_eq_true c4e;clear c4e;refine aN ?_;refine Z2a ?_;exact ⟨[.bool true], Z3, fs_to (Z2b rfl) (congrArg Value.bool Z0r), Zle⟩
  ·have c4e : (decide ((n : Int) ≤ hi)) = false := Eq.trans Z3 h3;clear h3;have c4 : ¬ (n : Int) ≤ hi := of_decide_eq_false c4e;clear c4e;refine aN ?_;refine Z2a ?_;exact ⟨[.bool false], Z3, fs_to (Z2b rfl) (congrArg Value.bool Z0r), Zle⟩
 ·have c2e : (decide ((n : Int) ≥ lo)) = false := Eq.trans Z3 h1;clear h1;have c2 : ¬ (n : Int) ≥ lo := of_decide_eq_false c2e;clear c2e;refine aN ?_;refine Z2a ?_;exact ⟨[.bool false], Z3, fs_to (Z2b rfl) (congrArg Value.bool Z0r), Zle⟩
noncomputable def con_within : Con Tryz.prog 135000004004000 := Con.pure (α := Int × Int × Int) 31 (fun z9 => [.int .i64 z9.1, .int .i64 z9.2.1, .int .i64 z9.2.2]) (fun z9 => .bool (decide (z9.2.1 ≤ z9.1 ∧ z9.1 ≤ z9.2.2))) (fun z9 => True) (by
 rintro ⟨a0, a1, a2⟩ ⟨b0, b1, b2⟩ h
 simp only [injA] at h
 first | exact h | (simp only [Prod.ext_iff, h, and_self, and_true, true_and]; done) | simp_all [Prod.ext_iff]) (fun _ => rfl) (fun _ => rfl) 400 (by
 rintro ⟨a0, a1, a2⟩ _
 exact within_sc a0 a1 a2 )
theorem con_within_at (n : Int) (lo : Int) (hi : Int)  (s : St) : con_within.rel [.int .i64 n, .int .i64 lo, .int .i64 hi] s (.bool (decide (lo ≤ n ∧ n ≤ hi))) s := con_pure (n, lo, hi) trivial s
theorem pfield_fn : Tryz.cfg.fn 51 = some Tryz.f51 := Z3
theorem pfield_sc (x : UInt8) (r : Code)  : SC Tryz.prog 135000004004000 51 [.pointer (some ⟨0, 0, none⟩), .int .u8 ((x.toNat : Nat) : Int)] ((St.empty 0).new (.cells (Z29 r))) fun v s' => v = .pointer (some ⟨0, (offL x), none⟩) ∧ s'.n ≤ 400 ∧ ∀ a, a < 1 → s'.get a = some (objL [.cells (Z29 r)] a) := by
 have hS := Z2q Tryz.cfgOk 300;refine sc_body Tryz.cfgOk pfield_fn rfl ?_;refine Z28 ?_;refine kK Tryz.cfgOk hS ?_;refine Z28 (Z28 ?_);refine kK Tryz.cfgOk hS ?_;refine Z2s (Z28 (Z28 ?_));refine Z27 Tryz.cfgOk hS ?_;refine aT (fun h1 => ?_) (fun h1 => ?_)
 ·have c2e : ((((x.toNat : Nat) : Int) : Int) == 97) = true := Eq.trans Z3 h1;clear h1;have c2 : (((x.toNat : Nat) : Int) : Int) = 97 := eq_of_beq c2e;clear c2e;refine aN ?_;refine kT ?_;refine Z2c ?_;refine kT ?_;refine Z28 ?_;refine kK Tryz.cfgOk hS ?_;refine Z2a ?_;exact ⟨[.pointer (some ⟨0, 1, none⟩)], Z3, by refine congrArg (fun o => Value.pointer (some ⟨0, o, none⟩)) ?_; unfold offL; first | (rw [if_pos Z4]; done) | (rw [if_neg Z4, if_pos Z4]; done) | (rw [if_neg Z4, if_neg Z4, if_pos Z4]; done) | (rw [if_neg Z4, if_neg Z4, if_neg Z4, if_pos Z4]; done) | (rw [if_neg Z4, if_neg Z4, if_neg Z4, if_neg Z4]), Zle, all1 Z3⟩
 ·have c2e : ((((x.toNat : Nat) : Int) : Int) == 97) = false := Eq.trans Z3 h1;clear h1;have c2 : ¬ (((x.toNat : Nat) : Int) : Int) = 97 := ne_of_beq_false c2e;clear c2e;refine aN ?_;refine kF ?_;refine Z27 Tryz.cfgOk hS ?_;refine aT (fun h3 => ?_) (fun h3 => ?_)
  ·have c4e : ((((x.toNat : Nat) : Int) : Int) == 115) = true := Eq.trans Z3 h3;clear h3;have c4 : (((x.toNat : Nat) : Int) : Int) = 115 := eq_of_beq c4e;clear c4e;refine aN ?_;refine kT ?_;refine Z28 ?_;refine kK Tryz.cfgOk hS ?_;refine Z2a ?_;exact ⟨[.pointer (some ⟨0, 1, none⟩)], Z3, by refine congrArg (fun o => Value.pointer (some ⟨0, o, none⟩)) ?_; unfold offL; first | (rw [if_pos Z4]; done) | (rw [if_neg Z4, if_pos Z4]; done) | (rw [if_neg Z4, if_neg Z4, if_pos Z4]; done) | (rw [if_neg Z4, if_neg Z4, if_neg Z4, if_pos Z4]; done) | (rw [if_neg Z4, if_neg Z4, if_neg Z4, if_neg Z4]), Zle, all1 Z3⟩
  ·have c4e : ((((x.toNat : Nat) : Int) : Int) == 115) = false := Eq.trans Z3 h3;clear h3;have c4 : ¬ (((x.toNat : Nat) : Int) : Int) = 115 := ne_of_beq_false c4e;clear c4e;refine aN ?_;refine kF ?_;refine Z28 ?_;refine Z27 Tryz.cfgOk hS ?_;refine aT (fun h5 => ?_) (fun h5 => ?_)
   ·have c6e : ((((x.toNat : Nat) : Int) : Int) == 98) = true := Eq.trans Z3 h5;clear h5;have c6 : (((x.toNat : Nat) : Int) : Int) = 98 := eq_of_beq c6e;clear c6e;refine aN ?_;refine kT ?_;refine Z28 ?_;refine kK Tryz.cfgOk hS ?_;refine Z2a ?_;exact ⟨[.pointer (some ⟨0, 2, none⟩)], Z3, by refine congrArg (fun o => Value.pointer (some ⟨0, o, none⟩)) ?_; unfold offL; first | (rw [if_pos Z4]; done) | (rw [if_neg Z4, if_pos Z4]; done) | (rw [if_neg Z4, if_neg Z4, if_pos Z4]; done) | (rw [if_neg Z4, if_neg Z4, if_neg Z4, if_pos Z4]; done) | (rw [if_neg Z4, if_neg Z4, if_neg Z4, if_neg Z4]), Zle, all1 Z3⟩
   ·have c6e : ((((x.toNat : Nat) : Int) : Int) == 98) = false := Eq.trans Z3 h5;clear h5;have c6 : ¬ (((x.toNat : Nat) : Int) : Int) = 98 := ne_of_beq_false c6e;clear c6e;refine aN ?_;refine kF ?_;refine Z28 ?_;refine Z27 Tryz.cfgOk hS ?_;refine aT (fun h7 => ?_) (fun h7 => ?_)
    ·have c8e : ((((x.toNat : Nat) : Int) : Int) == 99) = true := Eq.trans Z3 h7;clear h7;have c8 : (((x.toNat : Nat) : Int) : Int) = 99 := eq_of_beq c8e;clear c8e;refine aN ?_;refine kT ?_;refine Z28 ?_;refine kK Tryz.cfgOk hS ?_;refine Z2a ?_;exact ⟨[.pointer (some ⟨0, 3, none⟩)], Z3, by refine congrArg (fun o => Value.pointer (some ⟨0, o, none⟩)) ?_; unfold offL; first | (rw [if_pos Z4]; done) | (rw [if_neg Z4, if_pos Z4]; done) | (rw [if_neg Z4, if_neg Z4, if_pos Z4]; done) | (rw [if_neg Z4, if_neg Z4, if_neg Z4, if_pos Z4]; done) | (rw [if_neg Z4, if_neg Z4, if_neg Z4, if_neg Z4]), Zle, all1 Z3⟩
    ·have c8e : ((((x.toNat : Nat) : Int) : Int) == 99) = false := Eq.trans Z3 h7;clear h7;have c8 : ¬ (((x.toNat : Nat) : Int) : Int) = 99 := ne_of_beq_false c8e;clear c8e;refine aN ?_;refine kF ?_;refine Z28 ?_;refine Z27 Tryz.cfgOk hS ?_;refine aT (fun h9 => ?_) (fun h9 => ?_)
     ·have c10e : ((((x.toNat : Nat) : Int) : Int) == 116) = true := Eq.trans Z3 h9;clear h9;have c10 : (((x.toNat : Nat) : Int) : Int) = 116 := eq_of_beq c10e;clear c10e;refine aN ?_;refine kT ?_;refine Z28 ?_;refine kK Tryz.cfgOk hS ?_;refine Z2a ?_;exact ⟨[.pointer (some ⟨0, 4, none⟩)], Z3, by refine congrArg (fun o => Value.pointer (some ⟨0, o, none⟩)) ?_; unfold offL; first | (rw [if_pos Z4]; done) | (rw [if_neg Z4, if_pos Z4]; done) | (rw [if_neg Z4, if_neg Z4, if_pos Z4]; done) | (rw [if_neg Z4, if_neg Z4, if_neg Z4, if_pos Z4]; done) | (rw [if_neg Z4, if_neg Z4, if_neg Z4, if_neg Z4]), Zle, all1 Z3⟩
     ·have c10e : ((((x.toNat : Nat) : Int) : Int) == 116) = false := Eq.trans Z3 h9;clear h9;have c10 : ¬ (((x.toNat : Nat) : Int) : Int) = 116 := ne_of_beq_false c10e;clear c10e;refine aN ?_;refine kF ?_;refine Z2c (Z28 ?_);refine kK Tryz.cfgOk hS ?_;refine Z2a ?_;exact ⟨[.pointer (some ⟨0, 5, none⟩)], Z3, by refine congrArg (fun o => Value.pointer (some ⟨0, o, none⟩)) ?_; unfold offL; first | (rw [if_pos Z4]; done) | (rw [if_neg Z4, if_pos Z4]; done) | (rw [if_neg Z4, if_neg Z4, if_pos Z4]; done) | (rw [if_neg Z4, if_neg Z4, if_neg Z4, if_pos Z4]; done) | (rw [if_neg Z4, if_neg Z4, if_neg Z4, if_neg Z4]), Zle, all1 Z3⟩
noncomputable def sm_pfield : Small Tryz.prog 135000004004000 51 (UInt8 × Code) where
 k := 1
 A := fun z9 ρ => [.pointer (some ⟨(ρ 0), 0, none⟩), .int .u8 ((z9.1.toNat : Nat) : Int)]
 M := fun z9 ρ => objL [.cells (Z29 z9.2)]
 M1 := fun z9 ρ => objL [.cells (Z29 z9.2)]
 V := fun z9 ρ => .pointer (some ⟨(ρ 0), (offL z9.1), none⟩)
 Pre := fun z9 => True
 ch := []
 N := 400
 s0 := fun z9 => ((St.empty 0).new (.cells (Z29 z9.2)))
 hch := by decide
 hsame := fun x ρ => all1 (fun _ => rfl)
 hG := rfl
 hn := fun x => rfl
 hwf := fun x => ((Z2d 0).new _)
 hget := fun x => all1 (by kernel_rfl)
 noloop := fun x ρ => all1 (fun h => h.elim)
 inA := fun x ρ R hR => .cons (.ptr (hR 0 _ (by decide))) (.cons (sub_clo rfl) .nil)
 inM := fun x ρ R hR => all1 (OSub.cells (subs_clo (Z2i _)))
 outM := fun x ρ R hR => all1 (OSub.cells (subs_clo (Z2i _)))
 outV := fun x ρ R hR => .ptr (hR 0 _ (by decide))
 dom := by
  intro x ρ a ha
  cases ha
 sc := by
  rintro ⟨a0, a1⟩ _
  exact pfield_sc a0 a1
 det := by
  rintro ⟨a0, a1⟩ ρ ⟨b0, b1⟩ σ s h hm hm'
  simp only [injA, injB, ccells_eq] at h
  have q0 : ρ 0 = σ 0 := by simp_all
  have e0 := (hm 0 (by decide)).symm.trans ((congrArg s.get q0).trans (hm' 0 (by decide)))
  simp only [objL, List.getD_cons_zero, List.getD_cons_succ, injA, injB, ccells_eq] at e0
  have q : ∀ a, a < 1 → ρ a = σ a := all1 q0
  clear hm hm'
  exact ⟨by first | rfl | (simp_all [Prod.ext_iff]; done) | exact e0, q⟩
 par := by
  intro x ρ σ h
  have h0 := h 0 (by decide)
  exact ⟨by first | rfl | simp only [h0], by first | exact fun _ _ => rfl | (intro a ha; simp only [h0])⟩
noncomputable def con_pfield : Con Tryz.prog 135000004004000 := sm_pfield.con
theorem con_pfield_at (x : UInt8) (r : Code) (i0 : Nat)  (s : St) (hn : nodupB [i0] = true) (m0 : s.get i0 = some (.cells (Z29 r))) : con_pfield.rel [.pointer (some ⟨i0, 0, none⟩), .int .u8 ((x.toNat : Nat) : Int)] s (.pointer (some ⟨i0, (offL x), none⟩)) s :=
 sm_pfield.at_ (x, r) [i0] s _ trivial rfl hn rfl (all1 m0) rfl rfl
theorem sound_fn : Tryz.cfg.fn 50 = some Tryz.f50 := Z3
theorem sound_sc (x : UInt8) (n : Int) (bh : Int)  : SC Tryz.prog 135000004004000 50 [.int .u8 ((x.toNat : Nat) : Int), .int .i64 n, .int .i64 bh] (St.empty 0) fun v s' => v = .bool (tf (soundP x n bh)) ∧ s'.n ≤ 400 := by
 obtain ⟨rc, hS, hC⟩ := rc_con (Z2q Tryz.cfgOk 300) [con_within] Z3;have hC31 := hC con_within (.head _);refine sc_ice0 (N := 400) (v2 := .bool (tf (soundP x n bh))) (Q := fun v s' => FS 0 s' v (.bool (tf (soundP x n bh))) ∧ s'.n ≤ 400) ?_ (fun _ _ h => h);refine sc_body Tryz.cfgOk sound_fn rfl ?_;refine Z28 ?_;refine kK Tryz.cfgOk hS ?_;refine Z28 (Z28 ?_);refine kK Tryz.cfgOk hS ?_;refine Z2s (Z28 (Z28 ?_));refine Z27 Tryz.cfgOk hS ?_;refine aT (fun h1 => ?_) (fun h1 => ?_)
 ·have c2e : ((((x.toNat : Nat) : Int) : Int) == 97) = true := Eq.trans Z3 h1;clear h1;have c2 : (((x.toNat : Nat) : Int) : Int) = 97 := eq_of_beq c2e;clear c2e;refine aN ?_;refine kT ?_;refine Z2c ?_;refine kT ?_;refine Z28 ?_;refine Z27 Tryz.cfgOk hS ?_;refine aK 1 ?_;refine aB 31 [.int .i64 n, .int .i64 0, .int .i64 7] (decide (0 ≤ n ∧ n ≤ 7)) _ rfl (hC31 _ _ _ _ (con_within_at n 0 7  _)) (fun h3 => ?_) (fun h3 => ?_)
  ·have c4 : 0 ≤ n ∧ n ≤ 7 := of_decide_eq_true h3;clear h3;refine aN ?_;refine Z2a ?_;exact ⟨[.bool true], Z3, fs_to (Z2b rfl) (congrArg Value.bool Zi), Zle⟩
  ·have c4 : ¬ (0 ≤ n ∧ n ≤ 7) := of_decide_eq_false h3;clear h3;refine aN ?_;refine Z2a ?_;exact ⟨[.bool false], Z3, fs_to (Z2b rfl) (congrArg Value.bool Zi), Zle⟩
 ·have c2e : ((((x.toNat : Nat) : Int) : Int) == 97) = false := Eq.trans Z3 h1;clear h1;have c2 : ¬ (((x.toNat : Nat) : Int) : Int) = 97 := ne_of_beq_false c2e;clear c2e;refine aN ?_;refine kF ?_;refine Z28 ?_;refine Z27 Tryz.cfgOk hS ?_;refine aT (fun h5 => ?_) (fun h5 => ?_)
  ·have c6e : ((((x.toNat : Nat) : Int) : Int) == 98) = true := Eq.trans Z3 h5;clear h5;have c6 : (((x.toNat : Nat) : Int) : Int) = 98 := eq_of_beq c6e;clear c6e;refine aN ?_;refine kT ?_;refine Z2c ?_;refine kT ?_;refine Z28 ?_;refine Z27 Tryz.cfgOk hS ?_;refine aK 1 ?_;refine aB 31 [.int .i64 n, .int .i64 0, .int .i64 7] (decide (0 ≤ n ∧ n ≤ 7)) _ rfl (hC31 _ _ _ _ (con_within_at n 0 7  _)) (fun h7 => ?_) (fun h7 => ?_)
   ·have c8 : 0 ≤ n ∧ n ≤ 7 := of_decide_eq_true h7;clear h7;refine aN ?_;refine Z2a ?_;exact ⟨[.bool true], Z3, fs_to (Z2b rfl) (congrArg Value.bool Zi), Zle⟩
   ·have c8 : ¬ (0 ≤ n ∧ n ≤ 7) := of_decide_eq_false h7;clear h7;refine aN ?_;refine Z2a ?_;exact ⟨[.bool false], Z3, fs_to (Z2b rfl) (congrArg Value.bool Zi), Zle⟩
  ·have c6e : ((((x.toNat : Nat) : Int) : Int) == 98) = false := Eq.trans Z3 h5;clear h5;have c6 : ¬ (((x.toNat : Nat) : Int) : Int) = 98 := ne_of_beq_false c6e;clear c6e;refine aN ?_;refine kF ?_;refine Z27 Tryz.cfgOk hS ?_;refine aT (fun h9 => ?_) (fun h9 => ?_)
   ·have c10e : ((((x.toNat : Nat) : Int) : Int) == 99) = true := Eq.trans Z3 h9;clear h9;have c10 : (((x.toNat : Nat) : Int) : Int) = 99 := eq_of_beq c10e;clear c10e;refine aN ?_;refine kT ?_;refine Z28 ?_;refine Z27 Tryz.cfgOk hS ?_;refine aK 1 ?_;refine aB 31 [.int .i64 n, .int .i64 0, .int .i64 7] (decide (0 ≤ n ∧ n ≤ 7)) _ rfl (hC31 _ _ _ _ (con_within_at n 0 7  _)) (fun h11 => ?_) (fun h11 => ?_)
    ·have c12 : 0 ≤ n ∧ n ≤ 7 := of_decide_eq_true h11;clear h11;refine aN ?_;refine Z2a ?_;exact ⟨[.bool true], Z3, fs_to (Z2b rfl) (congrArg Value.bool Zi), Zle⟩
    ·have c12 : ¬ (0 ≤ n ∧ n ≤ 7) := of_decide_eq_false h11;clear h11;refine aN ?_;refine Z2a ?_;exact ⟨[.bool false], Z3, fs_to (Z2b rfl) (congrArg Value.bool Zi), Zle⟩
   ·have c10e : ((((x.toNat : Nat) : Int) : Int) == 99) = false := Eq.trans Z3 h9;clear h9;have c10 : ¬ (((x.toNat : Nat) : Int) : Int) = 99 := ne_of_beq_false c10e;clear c10e;refine aN ?_;refine kF ?_;refine Z28 ?_;refine Z27 Tryz.cfgOk hS ?_;refine aT (fun h13 => ?_) (fun h13 => ?_)
    ·have c14e : ((((x.toNat : Nat) : Int) : Int) == 116) = true := Eq.trans Z3 h13;clear h13;have c14 : (((x.toNat : Nat) : Int) : Int) = 116 := eq_of_beq c14e;clear c14e;refine aN ?_;refine kT ?_;refine Z28 ?_;refine Z27 Tryz.cfgOk hS ?_;refine aK 1 ?_;refine aB 31 [.int .i64 n, .int .i64 0, .int .i64 3] (decide (0 ≤ n ∧ n ≤ 3)) _ rfl (hC31 _ _ _ _ (con_within_at n 0 3  _)) (fun h15 => ?_) (fun h15 => ?_)
     ·have c16 : 0 ≤ n ∧ n ≤ 3 := of_decide_eq_true h15;clear h15;refine aN ?_;refine Z2a ?_;exact ⟨[.bool true], Z3, fs_to (Z2b rfl) (congrArg Value.bool Zi), Zle⟩
     ·have c16 : ¬ (0 ≤ n ∧ n ≤ 3) := of_decide_eq_false h15;clear h15;refine aN ?_;refine Z2a ?_;exact ⟨[.bool false], Z3, fs_to (Z2b rfl) (congrArg Value.bool Zi), Zle⟩
    ·have c14e : ((((x.toNat : Nat) : Int) : Int) == 116) = false := Eq.trans Z3 h13;clear h13;have c14 : ¬ (((x.toNat : Nat) : Int) : Int) = 116 := ne_of_beq_false c14e;clear c14e;refine aN ?_;refine kF ?_;refine Z28 ?_;refine Z27 Tryz.cfgOk hS ?_;refine aT (fun h17 => ?_) (fun h17 => ?_)
     ·have c18e : ((((x.toNat : Nat) : Int) : Int) == 107) = true := Eq.trans Z3 h17;clear h17;have c18 : (((x.toNat : Nat) : Int) : Int) = 107 := eq_of_beq c18e;clear c18e;refine aN ?_;refine kT ?_;refine Z28 ?_;refine Z27 Tryz.cfgOk hS ?_;refine aK 1 ?_;refine aB 31 [.int .i64 n, .int .i64 1, .int .i64 64] (decide (1 ≤ n ∧ n ≤ 64)) _ rfl (hC31 _ _ _ _ (con_within_at n 1 64  _)) (fun h19 => ?_) (fun h19 => ?_)
      ·have c20 : 1 ≤ n ∧ n ≤ 64 := of_decide_eq_true h19;clear h19;refine aN ?_;refine Z2a ?_;exact ⟨[.bool true], Z3, fs_to (Z2b rfl) (congrArg Value.bool Zi), Zle⟩
      ·have c20 : ¬ (1 ≤ n ∧ n ≤ 64) := of_decide_eq_false h19;clear h19;refine aN ?_;refine Z2a ?_;exact ⟨[.bool false], Z3, fs_to (Z2b rfl) (congrArg Value.bool Zi), Zle⟩
     ·have c18e : ((((x.toNat : Nat) : Int) : Int) == 107) = false := Eq.trans Z3 h17;clear h17;have c18 : ¬ (((x.toNat : Nat) : Int) : Int) = 107 := ne_of_beq_false c18e;clear c18e;refine aN ?_;refine kF ?_;refine Z28 ?_;refine Z27 Tryz.cfgOk hS ?_;refine aT (fun h21 => ?_) (fun h21 => ?_)
      ·have c22e : ((((x.toNat : Nat) : Int) : Int) == 115) = true := Eq.trans Z3 h21;clear h21;have c22 : (((x.toNat : Nat) : Int) : Int) = 115 := eq_of_beq c22e;clear c22e;refine aN ?_;refine kT ?_;refine Z28 ?_;refine Z27 Tryz.cfgOk hS ?_;refine aK 2 ?_;refine aB 31 [.int .i64 n, .int .i64 1, .int .i64 bh] (decide (1 ≤ n ∧ n ≤ bh)) _ rfl (hC31 _ _ _ _ (con_within_at n 1 bh  _)) (fun h23 => ?_) (fun h23 => ?_)
       ·have c24 : 1 ≤ n ∧ n ≤ bh := of_decide_eq_true h23;clear h23;refine aN ?_;refine Z2a ?_;exact ⟨[.bool true], Z3, fs_to (Z2b rfl) (congrArg Value.bool Zi), Zle⟩
       ·have c24 : ¬ (1 ≤ n ∧ n ≤ bh) := of_decide_eq_false h23;clear h23;refine aN ?_;refine Z2a ?_;exact ⟨[.bool false], Z3, fs_to (Z2b rfl) (congrArg Value.bool Zi), Zle⟩
      ·have c22e : ((((x.toNat : Nat) : Int) : Int) == 115) = false := Eq.trans Z3 h21;clear h21;have c22 : ¬ (((x.toNat : Nat) : Int) : Int) = 115 := ne_of_beq_false c22e;clear c22e;refine aN ?_;refine kF ?_;refine Z28 ?_;refine Z27 Tryz.cfgOk hS ?_;refine aT (fun h25 => ?_) (fun h25 => ?_)
       ·have c26e : ((((x.toNat : Nat) : Int) : Int) == 106) = true := Eq.trans Z3 h25;clear h25;have c26 : (((x.toNat : Nat) : Int) : Int) = 106 := eq_of_beq c26e;clear c26e;refine aN ?_;refine kT ?_;refine Z28 ?_;refine Z27 Tryz.cfgOk hS ?_;refine aK 1 ?_;refine aB 31 [.int .i64 n, .int .i64 0, .int .i64 3] (decide (0 ≤ n ∧ n ≤ 3)) _ rfl (hC31 _ _ _ _ (con_within_at n 0 3  _)) (fun h27 => ?_) (fun h27 => ?_)
        ·have c28 : 0 ≤ n ∧ n ≤ 3 := of_decide_eq_true h27;clear h27;refine aN ?_;refine Z2a ?_;exact ⟨[.bool true], Z3, fs_to (Z2b rfl) (congrArg Value.bool Zi), Zle⟩
        ·have c28 : ¬ (0 ≤ n ∧ n ≤ 3) := of_decide_eq_false h27;clear h27;refine aN ?_;refine Z2a ?_;exact ⟨[.bool false], Z3, fs_to (Z2b rfl) (congrArg Value.bool Zi), Zle⟩
       ·have c26e : ((((x.toNat : Nat) : Int) : Int) == 106) = false := Eq.trans Z3 h25;clear h25;have c26 : ¬ (((x.toNat : Nat) : Int) : Int) = 106 := ne_of_beq_false c26e;clear c26e;refine aN ?_;refine kF ?_;refine Z2c (Z28 ?_);refine kK Tryz.cfgOk hS ?_;refine Z2a ?_;exact ⟨[.bool true], Z3, fs_to (Z2b rfl) (congrArg Value.bool Zi), Zle⟩
noncomputable def con_sound : Con Tryz.prog 135000004004000 := Con.pure (α := UInt8 × Int × Int) 50 (fun z9 => [.int .u8 ((z9.1.toNat : Nat) : Int), .int .i64 z9.2.1, .int .i64 z9.2.2]) (fun z9 => .bool (tf (soundP z9.1 z9.2.1 z9.2.2))) (fun z9 => True) (by
 rintro ⟨a0, a1, a2⟩ ⟨b0, b1, b2⟩ h
 simp only [injA] at h
 first | exact h | (simp only [Prod.ext_iff, h, and_self, and_true, true_and]; done) | simp_all [Prod.ext_iff]) (fun _ => rfl) (fun _ => rfl) 400 (by
 rintro ⟨a0, a1, a2⟩ _
 exact sound_sc a0 a1 a2 )
theorem con_sound_at (x : UInt8) (n : Int) (bh : Int)  (s : St) : con_sound.rel [.int .u8 ((x.toNat : Nat) : Int), .int .i64 n, .int .i64 bh] s (.bool (tf (soundP x n bh))) s := con_pure (x, n, bh) trivial s
theorem good_bad {c : Code} {bh : Int} {i : Nat} (h : ∃ x, (shp c.1)[i]? = some x ∧ ¬ soundP x (fld x c) bh) : ¬ goodC c bh := fun q => by
 obtain ⟨x, h1, h2⟩ := h;exact h2 (q.2.1 x (List.mem_of_getElem? h1))
theorem good_yes {c rest : Code} {bh : Int} {i : Nat} (h0 : 0 ≤ c.1 ∧ c.1 ≤ 15) (h1 : ∀ y ∈ (shp c.1).take i, soundP y (fld y c) bh) (h2 : rest = zer ((shp c.1).take i) c) (h3 : ¬ i < (shp c.1).length) : goodC c bh ↔ (rest.1 = c.1 ∧ rest.2.1 = 0 ∧ rest.2.2.1 = 0 ∧ rest.2.2.2.1 = 0 ∧ rest.2.2.2.2.1 = 0 ∧ rest.2.2.2.2.2 = 0) := by
 rw [List.take_of_length_le Z4] at h1 h2;unfold goodC;rw [← h2];have e := h2 ▸ zer_op (shp c.1) c;constructor
 ·intro q;have := q.2.2;simp only [Prod.ext_iff] at this;exact ⟨e, this⟩
 ·intro q;exact ⟨h0, h1, Prod.ext q.2.1 (Prod.ext q.2.2.1 (Prod.ext q.2.2.2.1 (Prod.ext q.2.2.2.2.1 q.2.2.2.2.2)))⟩
theorem shape_t {op : Int} (h : 0 ≤ op ∧ op ≤ 15) : (.tuple #[.string (bstr (shp op)), .bool (decide (0 ≤ op ∧ op ≤ 15))] : Value) = .tuple #[.string (bstr (shp op)), .bool true] := by rw [decide_eq_true h]
theorem shape_f {op : Int} (h : ¬ (0 ≤ op ∧ op ≤ 15)) : (.tuple #[.string (bstr (shp op)), .bool (decide (0 ≤ op ∧ op ≤ 15))] : Value) = .tuple #[.string (bstr (shp op)), .bool false] := by rw [decide_eq_false h]
theorem pgood_fn : Tryz.cfg.fn 33 = some Tryz.f33 := Z3
theorem pgood_sc (op : Int) (qa : Int) (qb : Int) (qc : Int) (qt : Int) (qn : Int) (bh : Int)  : SC Tryz.prog 135000004004000 33 [.agg #[.int .i64 op, .int .i64 qa, .int .i64 qb, .int .i64 qc, .int .i64 qt, .int .i64 qn], .int .i64 bh] (St.empty 0) fun v s' => v = .bool (tf (goodC (op, qa, qb, qc, qt, qn) bh)) ∧ s'.n ≤ 400 := by
 obtain ⟨rc, hS, hC⟩ := rc_con (Z2q Tryz.cfgOk 300) [con_shape, con_pfield, con_sound] Z3;have hC28 := hC con_shape (.head _);have hC51 := hC con_pfield (.tail _ (.head _));have hC50 := hC con_sound (.tail _ (.tail _ (.head _)));refine sc_ice0 (N := 400) (v2 := .bool (tf (goodC (op, qa, qb, qc, qt, qn) bh))) (Q := fun v s' => FS 0 s' v (.bool (tf (goodC (op, qa, qb, qc, qt, qn) bh))) ∧ s'.n ≤ 400) ?_ (fun _ _ h => h);refine sc_body Tryz.cfgOk pgood_fn rfl ?_;refine Z28 ?_;refine kK Tryz.cfgOk hS ?_;refine Z28 ?_;refine Z27 Tryz.cfgOk hS ?_;refine aK 2 ?_;by_cases q1 : 0 ≤ op ∧ op ≤ 15
 ·
  refine aC 28 [.int .i64 op] (.tuple #[.string (bstr (shp op)), .bool true]) _ rfl (rc_eq (hC28 _ _ _ _ (con_shape_at op  _)) (shape_t q1)) ?_;refine aN ?_;refine Z28 (Z28 ?_);refine kK Tryz.cfgOk hS ?_;refine kF ?_;refine Z2c (Z28 ?_);refine kK Tryz.cfgOk hS ?_;refine Z28 (Z28 ?_);refine kK Tryz.cfgOk hS ?_;refine Z2s ?_;refine sk_live 46 ((fun a : Nat × Code => [(1, .int .i64 bh), (2, .pointer (some ⟨0, 0, none⟩)), (5, .string (bstr (shp op))), (7, .pointer (some ⟨1, 0, none⟩)), (19, .int .i64 (((shp op).length : Nat) : Int)), (20, .int .i64 ((a.1 : Nat) : Int))]) (0, (op, qa, qb, qc, qt, qn))) Z3 ⟨Z3, Z3, Z3, Z3, Z3, Z3, trivial⟩ fun m2 => ?_
  refine sk_st ((fun a : Nat × Code => (((St.empty 0).new (.cells [.int .i64 op, .int .i64 qa, .int .i64 qb, .int .i64 qc, .int .i64 qt, .int .i64 qn])).new (.cells (Z29 a.2)))) (0, (op, qa, qb, qc, qt, qn))) Z3 ?_;refine (sk_while (k := 2) (N := 400) (live := (fun a : Nat × Code => [(1, .int .i64 bh), (2, .pointer (some ⟨0, 0, none⟩)), (5, .string (bstr (shp op))), (7, .pointer (some ⟨1, 0, none⟩)), (19, .int .i64 (((shp op).length : Nat) : Int)), (20, .int .i64 ((a.1 : Nat) : Int))])) (M := (fun a : Nat × Code => (((St.empty 0).new (.cells [.int .i64 op, .int .i64 qa, .int .i64 qb, .int .i64 qc, .int .i64 qt, .int .i64 qn])).new (.cells (Z29 a.2))))) (fun a : Nat × Code => (a.1 ≤ (shp op).length) ∧ (∀ y ∈ (shp op).take a.1, soundP y (fld y (op, qa, qb, qc, qt, qn)) bh) ∧ (a.2 = zer ((shp op).take a.1) (op, qa, qb, qc, qt, qn)) ∧ ((shp op).length ≤ 5)) (fun a : Nat × Code => (shp op).length - a.1) (fun (a : Nat × Code) (o : Out) (lv : List (Nat × Value)) (M : St) => (o = .exit 0 ∧ (¬ a.1 < (shp op).length) ∧ lv = [(1, .int .i64 bh), (2, .pointer (some ⟨0, 0, none⟩)), (5, .string (bstr (shp op))), (7, .pointer (some ⟨1, 0, none⟩)), (19, .int .i64 (((shp op).length : Nat) : Int)), (20, .int .i64 ((a.1 : Nat) : Int))] ∧ M = (((St.empty 0).new (.cells [.int .i64 op, .int .i64 qa, .int .i64 qb, .int .i64 qc, .int .i64 qt, .int .i64 qn])).new (.cells (Z29 a.2)))) ∨ (o = .ret ∧ (∃ x, (shp op)[a.1]? = some x ∧ ¬ soundP x (fld x (op, qa, qb, qc, qt, qn)) bh) ∧ lv = [(4, .bool false)] ∧ M = (((St.empty 0).new (.cells [.int .i64 op, .int .i64 qa, .int .i64 qb, .int .i64 qc, .int .i64 qt, .int .i64 qn])).new (.cells (Z29 a.2))))) (Nat.zero_le _) (fun a ha => ?_) (fun a ha => ?_) (fun a m ha => ?_) (fun a m ha => ?_) (0, (op, qa, qb, qc, qt, qn)) m2 ?_).up ?_
  ·exact ⟨Z3, (((Z2d 0).new _).new _), (selfs (all_cons (o := .cells [.int .i64 op, .int .i64 qa, .int .i64 qb, .int .i64 qc, .int .i64 qt, .int .i64 qn]) Z3 (OSub.cells (.cons (sub_clo rfl) (.cons (sub_clo rfl) (.cons (sub_clo rfl) (.cons (sub_clo rfl) (.cons (sub_clo rfl) (.cons (sub_clo rfl) .nil))))))) (all_cons (o := .cells (Z29 a.2)) Z3 (OSub.cells (subs_clo (Z2i _))) (Z2g))))⟩
  ·exact ⟨sub_clo rfl, .ptr ⟨Zj, rfl⟩, sub_clo rfl, .ptr ⟨Zj, rfl⟩, sub_clo rfl, sub_clo rfl, trivial⟩
  ·exact ⟨Z3, Z3, Z3, Z3, Z3, Z3, trivial⟩
  ·obtain ⟨i, rest⟩ := a;obtain ⟨i0, i1, i2, i3⟩ := ha;dsimp only at i0 i1 i2 i3;refine Z28 ?_;refine Z27 Tryz.cfgOk hS ?_;refine aT (fun h3 => ?_) (fun h3 => ?_)
   ·have c4e : (decide ((((i : Nat) : Int) : Int) < (((shp op).length : Nat) : Int))) = true := Eq.trans Z3 h3;clear h3;have c4 : (((i : Nat) : Int) : Int) < (((shp op).length : Nat) : Int) := of_decide_eq_true c4e;clear c4e;refine Z2f ?_;refine Z28 ?_;refine kT ?_;refine Z2c (Z28 (Z2s (Z28 ?_)));refine kK Tryz.cfgOk hS ?_;refine Z28 (Z28 ?_);have hx5l : i < (shp op).length := by omega
    refine Exists.elim (get_ex hx5l) fun x5 hx5 => ?_
    clear hx5l;refine sk_drawL Tryz.cfgOk hS ?_;refine dK 2 ?_;refine dM (indexV Tryz.cfg 9 (.string (bstr (shp op))) (.int .i64 ((i : Nat) : Int))) (.int .u8 ((x5.toNat : Nat) : Int)) (Z2k Z3 hx5) ?_;refine dK 2 ?_;refine dM (indexV Tryz.cfg 9 (.string (bstr (shp op))) (.int .i64 ((i : Nat) : Int))) (.int .u8 ((x5.toNat : Nat) : Int)) (Z2k Z3 hx5) ?_;refine dC 51 [.pointer (some ⟨0, 0, none⟩), .int .u8 ((x5.toNat : Nat) : Int)] (.pointer (some ⟨0, (offL x5), none⟩)) _ rfl (hC51 _ _ _ _ (con_pfield_at x5 (op, qa, qb, qc, qt, qn) 0  _ Z3 Z3 )) ?_;refine dK 1 ?_;refine dM (loadV Tryz.cfg (((St.empty 0).new (.cells [.int .i64 op, .int .i64 qa, .int .i64 qb, .int .i64 qc, .int .i64 qt, .int .i64 qn])).new (.cells (Z29 rest))) 3 (.pointer (some ⟨0, (offL x5), none⟩))) (.int .i64 (fld x5 (op, qa, qb, qc, qt, qn))) (load_sym Z3 (cs := Z29 (op, qa, qb, qc, qt, qn)) Z3 (fld_at x5 (op, qa, qb, qc, qt, qn))) ?_;refine dK 1 ?_;refine dB 50 [.int .u8 ((x5.toNat : Nat) : Int), .int .i64 (fld x5 (op, qa, qb, qc, qt, qn)), .int .i64 bh] (tf (soundP x5 (fld x5 (op, qa, qb, qc, qt, qn)) bh)) _ rfl (hC50 _ _ _ _ (con_sound_at x5 (fld x5 (op, qa, qb, qc, qt, qn)) bh  _)) (fun h6 => ?_) (fun h6 => ?_)
    ·have c7 : soundP x5 (fld x5 (op, qa, qb, qc, qt, qn)) bh := tf_t h6;clear h6;refine dK 1 ?_;refine ald_nil ?_;refine kF ?_;refine Z2c ?_;refine Z27 Tryz.cfgOk hS ?_;refine aK 2 ?_;refine aM (indexV Tryz.cfg 9 (.string (bstr (shp op))) (.int .i64 ((i : Nat) : Int))) (.int .u8 ((x5.toNat : Nat) : Int)) (Z2k Z3 hx5) ?_;refine aC 51 [.pointer (some ⟨1, 0, none⟩), .int .u8 ((x5.toNat : Nat) : Int)] (.pointer (some ⟨1, (offL x5), none⟩)) _ rfl (hC51 _ _ _ _ (con_pfield_at x5 rest 1  _ Z3 Z3 )) ?_;refine aK 1 ?_;refine al_opF (v := undef) (s1 := (((St.empty 0).new (.cells [.int .i64 op, .int .i64 qa, .int .i64 qb, .int .i64 qc, .int .i64 qt, .int .i64 qn])).new (.cells (Z29 rest))).set 1 (.cells (Z29 (clr x5 rest)))) Z3 Z3 (Eq.trans (b := (storeV Tryz.cfg (((St.empty 0).new (.cells [.int .i64 op, .int .i64 qa, .int .i64 qb, .int .i64 qc, .int .i64 qt, .int .i64 qn])).new (.cells (Z29 rest))) 3 (.pointer (some ⟨1, (offL x5), none⟩)) (.int .i64 0)).map fun s8 => (undef, s8)) Z3 (congrArg (Option.map fun s8 => (undef, s8)) (store_sym Z3 (cs := Z29 rest) (cs2 := Z29 (clr x5 rest)) rfl rfl Z3 (offL_lt x5) (clr_at x5 rest)))) ?_;refine Z2f ?_;refine Z27 Tryz.cfgOk hS ?_;refine aE (v := .int .i64 (IntKind.wrap .i64 (((i : Nat) : Int) + 1))) (.int .i64 ((i + 1 : Nat) : Int)) (congrArg (Value.int .i64) (Z2t Z4 Z4)) ?_;refine aN ?_;refine .inl ⟨(i + 1, (clr x5 rest)), rfl, ⟨?_, ?_, ?_, ?_⟩, ?_, ⟨Z3, ⟨Z3, Z3, Z3, Z3, Z3, Z3, trivial⟩, ⟨sub_clo rfl, .ptr ⟨Zj, rfl⟩, sub_clo rfl, .ptr ⟨Zj, rfl⟩, sub_clo rfl, sub_clo rfl, trivial⟩, Zle, ⟨Z3, (((Z2d 0).new _).new _), (selfs (all_cons (o := .cells [.int .i64 op, .int .i64 qa, .int .i64 qb, .int .i64 qc, .int .i64 qt, .int .i64 qn]) Z3 (OSub.cells (.cons (sub_clo rfl) (.cons (sub_clo rfl) (.cons (sub_clo rfl) (.cons (sub_clo rfl) (.cons (sub_clo rfl) (.cons (sub_clo rfl) .nil))))))) (all_cons (o := .cells (Z29 (clr x5 rest))) Z3 (OSub.cells (subs_clo (Z2i _))) (Z2g))))⟩, Z2n Z3⟩⟩
     ·(try dsimp only); omega
     ·(try dsimp only); exact all_succ i1 Z2 Z2
     ·(try dsimp only); rw [i2, zer_succ Z2]
     ·(try dsimp only); assumption
     ·omega
    ·have c7 : ¬ (soundP x5 (fld x5 (op, qa, qb, qc, qt, qn)) bh) := tf_f h6;clear h6;refine dK 1 ?_;refine ald_nil ?_;refine kT ?_;refine Z28 ?_;refine kK Tryz.cfgOk hS ?_;refine Z2a ?_;refine .inr ⟨_, _, (fun h => Z02), .inr ⟨rfl, ?_, rfl, rfl⟩, ⟨Z3, ⟨Z3, trivial⟩, ⟨sub_clo rfl, trivial⟩, Zle, ⟨Z3, (((Z2d 0).new _).new _), (selfs (all_cons (o := .cells [.int .i64 op, .int .i64 qa, .int .i64 qb, .int .i64 qc, .int .i64 qt, .int .i64 qn]) Z3 (OSub.cells (.cons (sub_clo rfl) (.cons (sub_clo rfl) (.cons (sub_clo rfl) (.cons (sub_clo rfl) (.cons (sub_clo rfl) (.cons (sub_clo rfl) .nil))))))) (all_cons (o := .cells (Z29 rest)) Z3 (OSub.cells (subs_clo (Z2i _))) (Z2g))))⟩, Z2n Z3⟩⟩
     ·exact ⟨_, Z2, Z2⟩
   ·have c4e : (decide ((((i : Nat) : Int) : Int) < (((shp op).length : Nat) : Int))) = false := Eq.trans Z3 h3;clear h3;have c4 : ¬ (((i : Nat) : Int) : Int) < (((shp op).length : Nat) : Int) := of_decide_eq_false c4e;clear c4e;refine Z2f ?_;refine Z28 ?_;refine kF ?_;refine sk_exit ?_;dsimp only;refine .inr ⟨_, _, (fun h => Z02), .inl ⟨rfl, ?_, rfl, rfl⟩, ⟨Z3, ⟨Z3, Z3, Z3, Z3, Z3, Z3, trivial⟩, ⟨sub_clo rfl, .ptr ⟨Zj, rfl⟩, sub_clo rfl, .ptr ⟨Zj, rfl⟩, sub_clo rfl, sub_clo rfl, trivial⟩, Zle, ⟨Z3, (((Z2d 0).new _).new _), (selfs (all_cons (o := .cells [.int .i64 op, .int .i64 qa, .int .i64 qb, .int .i64 qc, .int .i64 qt, .int .i64 qn]) Z3 (OSub.cells (.cons (sub_clo rfl) (.cons (sub_clo rfl) (.cons (sub_clo rfl) (.cons (sub_clo rfl) (.cons (sub_clo rfl) (.cons (sub_clo rfl) .nil))))))) (all_cons (o := .cells (Z29 rest)) Z3 (OSub.cells (subs_clo (Z2i _))) (Z2g))))⟩, Z2n Z3⟩⟩
    ·omega
  ·exact ⟨Zx, by ((try dsimp only); first | done | (intro y hy; cases hy)), Z04, Z16⟩
  rintro o e1 s1 ⟨a, lv1, M1, m2, ha, (⟨rfl, hx, rfl, rfl⟩ | ⟨rfl, hx, rfl, rfl⟩), rfl, rfl⟩
  ·
   obtain ⟨i, rest⟩ := a;obtain ⟨i0, i1, i2, i3⟩ := ha;dsimp only at hx i0 i1 i2 i3;dsimp only;try rw [if_pos rfl]
   refine Z28 ?_;refine Z27 Tryz.cfgOk hS ?_;refine aK 4 ?_;refine aT (fun h8 => ?_) (fun h8 => ?_)
   ·have c9e : (((rest.1 == op) && ((rest.2.1 == 0) && ((rest.2.2.1 == 0) && ((rest.2.2.2.1 == 0) && ((rest.2.2.2.2.1 == 0) && ((rest.2.2.2.2.2 == 0) && true))))))) = true := Eq.trans Z3 h8;clear h8;have c9 : rest.1 = op ∧ rest.2.1 = 0 ∧ rest.2.2.1 = 0 ∧ rest.2.2.2.1 = 0 ∧ rest.2.2.2.2.1 = 0 ∧ rest.2.2.2.2.2 = 0 := ⟨eq_of_beq (and_l c9e), eq_of_beq (and_l (and_r c9e)), eq_of_beq (and_l (and_r (and_r c9e))), eq_of_beq (and_l (and_r (and_r (and_r c9e)))), eq_of_beq (and_l (and_r (and_r (and_r (and_r c9e))))), eq_of_beq (and_l (and_r (and_r (and_r (and_r (and_r c9e))))))⟩;clear c9e;refine aN ?_;refine Z2a ?_;exact ⟨[.bool true], Z3, fs_to (Z2b rfl) (congrArg Value.bool Zq), Zle⟩
   ·have c9e : (((rest.1 == op) && ((rest.2.1 == 0) && ((rest.2.2.1 == 0) && ((rest.2.2.2.1 == 0) && ((rest.2.2.2.2.1 == 0) && ((rest.2.2.2.2.2 == 0) && true))))))) = false := Eq.trans Z3 h8;clear h8;have c9 : ¬ (rest.1 = op ∧ rest.2.1 = 0 ∧ rest.2.2.1 = 0 ∧ rest.2.2.2.1 = 0 ∧ rest.2.2.2.2.1 = 0 ∧ rest.2.2.2.2.2 = 0) := fun q => Bool.noConfusion ((c9e).symm.trans (and_i (beq_iff_eq.2 q.1) (and_i (beq_iff_eq.2 q.2.1) (and_i (beq_iff_eq.2 q.2.2.1) (and_i (beq_iff_eq.2 q.2.2.2.1) (and_i (beq_iff_eq.2 q.2.2.2.2.1) (and_i (beq_iff_eq.2 q.2.2.2.2.2) (rfl))))))))
    clear c9e;refine aN ?_;refine Z2a ?_;exact ⟨[.bool false], Z3, fs_to (Z2b rfl) (congrArg Value.bool Zq), Zle⟩
  ·
   obtain ⟨i, rest⟩ := a;obtain ⟨i0, i1, i2, i3⟩ := ha;dsimp only at hx i0 i1 i2 i3;dsimp only;exact ⟨[.bool false], Z3, fs_to (Z2b rfl) (congrArg Value.bool Zq), Zle⟩
 ·
  refine aC 28 [.int .i64 op] (.tuple #[.string (bstr (shp op)), .bool false]) _ rfl (rc_eq (hC28 _ _ _ _ (con_shape_at op  _)) (shape_f q1)) ?_;refine aN ?_;refine Z28 (Z28 ?_);refine kK Tryz.cfgOk hS ?_;refine kT ?_;refine Z28 ?_;refine kK Tryz.cfgOk hS ?_;refine Z2a ?_;exact ⟨[.bool false], Z3, fs_to (Z2b rfl) (congrArg Value.bool Zq), Zle⟩
noncomputable def con_pgood : Con Tryz.prog 135000004004000 := Con.pure (α := Int × Int × Int × Int × Int × Int × Int) 33 (fun z9 => [.agg #[.int .i64 z9.1, .int .i64 z9.2.1, .int .i64 z9.2.2.1, .int .i64 z9.2.2.2.1, .int .i64 z9.2.2.2.2.1, .int .i64 z9.2.2.2.2.2.1], .int .i64 z9.2.2.2.2.2.2]) (fun z9 => .bool (tf (goodC (z9.1, z9.2.1, z9.2.2.1, z9.2.2.2.1, z9.2.2.2.2.1, z9.2.2.2.2.2.1) z9.2.2.2.2.2.2))) (fun z9 => True) (by
 rintro ⟨a0, a1, a2, a3, a4, a5, a6⟩ ⟨b0, b1, b2, b3, b4, b5, b6⟩ h
 simp only [injA] at h
 first | exact h | (simp only [Prod.ext_iff, h, and_self, and_true, true_and]; done) | simp_all [Prod.ext_iff]) (fun _ => rfl) (fun _ => rfl) 400 (by
 rintro ⟨a0, a1, a2, a3, a4, a5, a6⟩ _
 exact pgood_sc a0 a1 a2 a3 a4 a5 a6 )
theorem con_pgood_at (op : Int) (qa : Int) (qb : Int) (qc : Int) (qt : Int) (qn : Int) (bh : Int)  (s : St) : con_pgood.rel [.agg #[.int .i64 op, .int .i64 qa, .int .i64 qb, .int .i64 qc, .int .i64 qt, .int .i64 qn], .int .i64 bh] s (.bool (tf (goodC (op, qa, qb, qc, qt, qn) bh))) s := con_pure (op, qa, qb, qc, qt, qn, bh) trivial s
end Go.Proofs.YtgplkbfjlidinabGreatDoor