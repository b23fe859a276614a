/- The document: figures. -/
import Derived.Test.YtgplkbfjlidinabGreatDoorRef
import Derived.Test.YtgplkbfjlidinabGreatDoorKit
set_option linter.unusedVariables false
set_option linter.unusedSimpArgs false
set_option linter.unnecessarySimpa false
set_option maxHeartbeats 4000000
set_option maxRecDepth 100000
namespace Go.Proofs.YtgplkbfjlidinabGreatDoor
open Go.Ai
theorem dec_le {u : Nat} (h : u < 18446744073709551616) : (Lib.decDigits u).length ≤ 20 := dec_len 19 (Nat.lt_of_lt_of_le h Zj)
theorem dec_big {u : Nat} (h : ¬ u < 10) : Lib.decDigits (u / 10) ++ Lib.decDigits (u % 10) = Lib.decDigits u := by
 rw [Lib.decDigits.eq_def u, dif_neg h, Lib.decDigits.eq_def (u % 10), dif_pos (Nat.mod_lt _ Zj)]
theorem dec_small {u : Nat} (h : u < 10) : [UInt8.ofNat (48 + u)] = Lib.decDigits u := by rw [Lib.decDigits.eq_def u, dif_pos h]
theorem dig_slice {u : Nat} (h : u < 10) : sliceV Tryz.cfg 9 (.string (bstr [48, 49, 50, 51, 52, 53, 54, 55, 56, 57])) (some (.int .u64 ((u : Nat) : Int))) (some (.int .u64 ((u + 1 : Nat) : Int))) none = some (.string (bstr [UInt8.ofNat (48 + u)])) := by
 rcases (by omega : u = 0 ∨ u = 1 ∨ u = 2 ∨ u = 3 ∨ u = 4 ∨ u = 5 ∨ u = 6 ∨ u = 7 ∨ u = 8 ∨ u = 9) with rfl | rfl | rfl | rfl | rfl | rfl | rfl | rfl | rfl | rfl <;> kernel_rfl
noncomputable def con_unsI (u : Nat) (ih : ∀ x : Nat, x < u → SC Tryz.prog 135000004004000 52 [.int .u64 ((x : Nat) : Int)] (St.empty 0) fun v s' => v = .string (bstr (Lib.decDigits x)) ∧ s'.n ≤ 400) : Con Tryz.prog 135000004004000 := Con.pure (α := Nat) 52 (fun x => [.int .u64 ((x : Nat) : Int)]) (fun x => .string (bstr (Lib.decDigits x))) (fun x => x < u) (by
 intro x y h
 simp only [List.cons.injEq, and_true, Value.int.injEq, true_and] at h
 omega) (fun _ => rfl) (fun _ => rfl) 400 (fun x hp => ih x hp)
theorem con_unsI_at (u : Nat) (ih : ∀ x : Nat, x < u → SC Tryz.prog 135000004004000 52 [.int .u64 ((x : Nat) : Int)] (St.empty 0) fun v s' => v = .string (bstr (Lib.decDigits x)) ∧ s'.n ≤ 400) (x : Nat) (hp : x < u) (s : St) : (con_unsI u ih).rel [.int .u64 ((x : Nat) : Int)] s (.string (bstr (Lib.decDigits x))) s := con_pure x hp s
theorem unsS_fn : Tryz.cfg.fn 52 = some Tryz.f52 := Z3
theorem unsS_sc (u : Nat) (h0 : u < 18446744073709551616) (h1 : ∀ x : Nat, x < u → SC Tryz.prog 135000004004000 52 [.int .u64 ((x : Nat) : Int)] (St.empty 0) fun v s' => v = .string (bstr (Lib.decDigits x)) ∧ s'.n ≤ 400) : SC Tryz.prog 135000004004000 52 [.int .u64 ((u : Nat) : Int)] (St.empty 0) fun v s' => v = .string (bstr (Lib.decDigits u)) ∧ s'.n ≤ 400 := by
 obtain ⟨rc, hS, hC⟩ := rc_con (Z2q Tryz.cfgOk 300) [(con_unsI u h1)] Z3;have hC52 := hC (con_unsI u h1) (.head _);refine sc_ice0 (N := 400) (v2 := .string (bstr (Lib.decDigits u))) (Q := fun v s' => FS 0 s' v (.string (bstr (Lib.decDigits u))) ∧ s'.n ≤ 400) ?_ (fun _ _ h => h);refine sc_body Tryz.cfgOk unsS_fn rfl ?_;refine Z28 ?_;refine kK Tryz.cfgOk hS ?_;refine Z28 (Z28 ?_);refine Z27 Tryz.cfgOk hS ?_;refine aK 1 ?_;refine aT (fun h1 => ?_) (fun h1 => ?_)
 ·have c2e : (decide ((((u : Nat) : Int) : Int) < 10)) = true := Eq.trans Z3 h1;clear h1;have c2 : (((u : Nat) : Int) : Int) < 10 := of_decide_eq_true c2e;clear c2e;refine Z2f ?_;refine kT ?_;refine Z28 ?_;refine Z27 Tryz.cfgOk hS ?_;refine aK 2 ?_;refine aE (v := .int .u64 (IntKind.wrap .u64 (((u : Nat) : Int) + 1))) (.int .u64 ((u + 1 : Nat) : Int)) (congrArg (Value.int .u64) (u64_to Z4 Z4)) ?_;refine aM (sliceV Tryz.cfg 9 (.string (bstr [48, 49, 50, 51, 52, 53, 54, 55, 56, 57])) (some (.int .u64 ((u : Nat) : Int))) (some (.int .u64 ((u + 1 : Nat) : Int))) none) (.string (bstr [UInt8.ofNat (48 + u)])) (dig_slice Z4) ?_;refine aN ?_;refine Z2a ?_;exact ⟨[.string (bstr [UInt8.ofNat (48 + u)])], Z3, fs_to (Z2b rfl) (congrArg Value.string Z12), Zle⟩
 ·have c2e : (decide ((((u : Nat) : Int) : Int) < 10)) = false := Eq.trans Z3 h1;clear h1;have c2 : ¬ (((u : Nat) : Int) : Int) < 10 := of_decide_eq_false c2e;clear c2e;refine Z2f ?_;refine kF ?_;refine Z2c (Z28 ?_);refine Z27 Tryz.cfgOk hS ?_;refine aK 1 ?_;refine aE (v := .int .u64 (IntKind.wrap .u64 (Int.tdiv ((u : Nat) : Int) 10))) (.int .u64 ((u / 10 : Nat) : Int)) (congrArg (Value.int .u64) (quo_nat (y := 10) Z4 rfl)) ?_;refine aC 52 [.int .u64 ((u / 10 : Nat) : Int)] (.string (bstr (Lib.decDigits (u / 10)))) _ rfl (hC52 _ _ _ _ (con_unsI_at u h1 (u / 10) Z4 _)) ?_;refine aK 1 ?_;refine aE (v := .int .u64 (Int.tmod ((u : Nat) : Int) 10)) (.int .u64 ((u % 10 : Nat) : Int)) (congrArg (Value.int .u64) (rem_nat (y := 10) rfl)) ?_;refine aC 52 [.int .u64 ((u % 10 : Nat) : Int)] (.string (bstr (Lib.decDigits (u % 10)))) _ rfl (hC52 _ _ _ _ (con_unsI_at u h1 (u % 10) Z4 _)) ?_;refine aM (strBin .add (bstr (Lib.decDigits (u / 10))) (bstr (Lib.decDigits (u % 10)))) (.string (bstr (Lib.decDigits (u / 10) ++ Lib.decDigits (u % 10)))) (add_bstr (by have q := dec_le (u := u / 10) Z4; have q2 := dec_le (u := u % 10) Z4; omega)) ?_;refine aN ?_;refine Z2a ?_;exact ⟨[.string (bstr (Lib.decDigits (u / 10) ++ Lib.decDigits (u % 10)))], Z3, fs_to (Z2b rfl) (congrArg Value.string Z12), Zle⟩
theorem uns_sc (u : Nat) (h0 : u < 18446744073709551616) : SC Tryz.prog 135000004004000 52 [.int .u64 ((u : Nat) : Int)] (St.empty 0) fun v s' => v = .string (bstr (Lib.decDigits u)) ∧ s'.n ≤ 400 := by
 induction u using Nat.strongRecOn with
 | ind u ih => exact unsS_sc u h0 fun x hx => ih x hx Z4
theorem fig_neg {n : Int} (h : in64 n) (hn : n < 0) : IntKind.wrap .u64 (((u64 (IntKind.wrap .i64 (0 - IntKind.wrap .i64 (n + 1))) : Nat) : Int) + 1) = ((n.natAbs : Nat) : Int) := by
 unfold in64 at h;rw [wrap64 (n := n + 1) Z4, wrap64 Z4];refine u64_to ?_ Z4;unfold u64;omega
theorem itoa_neg {n : Int} (h : n < 0) : [45] ++ Lib.decDigits n.natAbs = Lib.itoa n := by rw [Lib.itoa, if_pos h]; rfl
theorem itoa_pos {n : Int} (h0 : in64 n) (h : ¬ n < 0) : Lib.decDigits (u64 n) = Lib.itoa n := by
 unfold in64 at h0;rw [Lib.itoa, if_neg h];congr 1
 unfold u64;omega
noncomputable def con_uns : Con Tryz.prog 135000004004000 := Con.pure (α := Nat) 52 (fun z9 => [.int .u64 ((z9 : Nat) : Int)]) (fun z9 => .string (bstr (Lib.decDigits z9))) (fun z9 => (z9 < 18446744073709551616)) (by
 intro x y h
 simp only [injA] at h
 first | exact h | (simp only [Prod.ext_iff, h, and_self, and_true, true_and]; done) | simp_all [Prod.ext_iff]) (fun _ => rfl) (fun _ => rfl) 400 (by
 rintro x p0
 exact uns_sc x p0)
theorem con_uns_at (u : Nat) (h0 : u < 18446744073709551616) (s : St) : con_uns.rel [.int .u64 ((u : Nat) : Int)] s (.string (bstr (Lib.decDigits u))) s := con_pure u h0 s
theorem figures_fn : Tryz.cfg.fn 34 = some Tryz.f34 := Z3
theorem figures_sc (n : Int) (h0 : in64 n) : SC Tryz.prog 135000004004000 34 [.int .i64 n] (St.empty 0) fun v s' => v = .string (bstr (Lib.itoa n)) ∧ s'.n ≤ 400 := by
 obtain ⟨rc, hS, hC⟩ := rc_con (Z2q Tryz.cfgOk 300) [con_uns] Z3;have hC52 := hC con_uns (.head _);refine sc_ice0 (N := 400) (v2 := .string (bstr (Lib.itoa n))) (Q := fun v s' => FS 0 s' v (.string (bstr (Lib.itoa n))) ∧ s'.n ≤ 400) ?_ (fun _ _ h => h);refine sc_body Tryz.cfgOk figures_fn rfl ?_;refine Z28 ?_;refine kK Tryz.cfgOk hS ?_;refine Z28 (Z28 ?_);refine Z27 Tryz.cfgOk hS ?_;refine aK 1 ?_;refine aT (fun h1 => ?_) (fun h1 => ?_)
 ·have c2e : (decide ((n : Int) < 0)) = true := Eq.trans Z3 h1;clear h1;have c2 : (n : Int) < 0 := of_decide_eq_true c2e;clear c2e;refine Z2f ?_;refine kT ?_;refine Z28 ?_;refine Z27 Tryz.cfgOk hS ?_;refine aK 3 ?_;refine aE (v := .int .u64 (IntKind.wrap .u64 (IntKind.wrap .i64 (0 - (IntKind.wrap .i64 (n + 1)))))) (.int .u64 ((u64 (IntKind.wrap .i64 (0 - (IntKind.wrap .i64 (n + 1)))) : Nat) : Int)) (congrArg (Value.int .u64) (wrap_u64 _)) ?_;refine aE (v := .int .u64 (IntKind.wrap .u64 (((u64 (IntKind.wrap .i64 (0 - (IntKind.wrap .i64 (n + 1)))) : Nat) : Int) + 1))) (.int .u64 ((n.natAbs : Nat) : Int)) (congrArg (Value.int .u64) (fig_neg h0 Z2)) ?_;refine aC 52 [.int .u64 ((n.natAbs : Nat) : Int)] (.string (bstr (Lib.decDigits n.natAbs))) _ rfl (hC52 _ _ _ _ (con_uns_at n.natAbs Z19 _)) ?_;refine aM (strBin .add (bstr [45]) (bstr (Lib.decDigits n.natAbs))) (.string (bstr ([45] ++ Lib.decDigits n.natAbs))) (add_bstr (by have q := dec_le (u := n.natAbs) (by unfold in64 at h0; omega); simp only [List.length_cons, List.length_nil]; omega)) ?_;refine aN ?_;refine Z2a ?_;exact ⟨[.string (bstr ([45] ++ Lib.decDigits n.natAbs))], Z3, fs_to (Z2b rfl) (congrArg Value.string Z0y), Zle⟩
 ·have c2e : (decide ((n : Int) < 0)) = false := Eq.trans Z3 h1;clear h1;have c2 : ¬ (n : Int) < 0 := of_decide_eq_false c2e;clear c2e;refine Z2f ?_;refine kF ?_;refine Z2c (Z28 ?_);refine Z27 Tryz.cfgOk hS ?_;refine aK 1 ?_;refine aE (v := .int .u64 (IntKind.wrap .u64 n)) (.int .u64 ((u64 n : Nat) : Int)) (congrArg (Value.int .u64) (wrap_u64 _)) ?_;refine aC 52 [.int .u64 ((u64 n : Nat) : Int)] (.string (bstr (Lib.decDigits (u64 n)))) _ rfl (hC52 _ _ _ _ (con_uns_at (u64 n) Z19 _)) ?_;refine aN ?_;refine Z2a ?_;exact ⟨[.string (bstr (Lib.decDigits (u64 n)))], Z3, fs_to (Z2b rfl) (congrArg Value.string Z0y), Zle⟩
noncomputable def con_figures : Con Tryz.prog 135000004004000 := Con.pure (α := Int) 34 (fun z9 => [.int .i64 z9]) (fun z9 => .string (bstr (Lib.itoa z9))) (fun z9 => (in64 z9)) (by
 intro x y h
 simp only [injA] at h
 first | exact h | (simp only [Prod.ext_iff, h, and_self, and_true, true_and]; done) | simp_all [Prod.ext_iff]) (fun _ => rfl) (fun _ => rfl) 400 (by
 rintro x p0
 exact figures_sc x p0)
theorem con_figures_at (n : Int) (h0 : in64 n) (s : St) : con_figures.rel [.int .i64 n] s (.string (bstr (Lib.itoa n))) s := con_pure n h0 s
end Go.Proofs.YtgplkbfjlidinabGreatDoor