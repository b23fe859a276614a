/- The document: numbers. -/
import Derived.Test.YtgplkbfjlidinabGreatDoorPForm
import Derived.Test.YtgplkbfjlidinabGreatDoorKit
set_option linter.unusedVariables false
set_option linter.unusedSimpArgs false
set_option linter.unnecessarySimpa false
set_option maxHeartbeats 4000000
set_option maxRecDepth 100000
namespace Go.Proofs.YtgplkbfjlidinabGreatDoor
open Go.Ai
theorem w64 (n : Int) : IntKind.wrap .i64 n = (n + 9223372036854775808) % 18446744073709551616 - 9223372036854775808 := by
 unfold IntKind.wrap;simp only [IntKind.bits, IntKind.signed];simp <;> omega
theorem w64_in (n : Int) : in64 (IntKind.wrap .i64 n) := by rw [w64]; unfold in64; omega
def stp (n : Int) (x : UInt8) : Int := IntKind.wrap .i64 (IntKind.wrap .i64 (10 * n) - ((x.toNat - 48 : Nat) : Int))
def accN (l : List UInt8) : Int := l.foldl stp 0
theorem stp_in (n : Int) (x : UInt8) : in64 (stp n x) := w64_in _
theorem acc_succ {l : List UInt8} {i k : Nat} {x : UInt8} {n : Int} (hx : l[i]? = some x) (hk : k ≤ i) (e : n = accN ((l.take i).drop k)) : stp n x = accN ((l.take (i + 1)).drop k) := by
 have := (List.getElem?_eq_some_iff.1 hx).1;rw [List.take_add_one, hx, List.drop_append_of_le_length Z1c, accN, List.foldl_append, e];rfl
theorem acc_dec (u : Nat) : accN (Lib.decDigits u) = IntKind.wrap .i64 (-((u : Nat) : Int)) := by
  induction u using Nat.strongRecOn with
  | ind u ih =>
    rw [Lib.decDigits.eq_def];split
    · rename_i h
      have e : (UInt8.ofNat (48 + u)).toNat = 48 + u := Z1k
      show stp 0 (UInt8.ofNat (48 + u)) = _;rw [stp, e, w64, w64, w64];omega
    · rename_i h
      have e : (UInt8.ofNat (48 + u % 10)).toNat = 48 + u % 10 := Z1k
      have hi := ih (u / 10) Z4;rw [accN, List.foldl_append];show stp (accN (Lib.decDigits (u / 10))) (UInt8.ofNat (48 + u % 10)) = _;rw [hi, stp, e, w64, w64, w64, w64];omega
theorem itoa_len20 {n : Int} (h : in64 n) : (Lib.itoa n).length ≤ 20 := by
 unfold in64 at h;unfold Lib.itoa;split
 ·rw [List.length_cons];have := dec_len 18 (u := n.natAbs) (Nat.lt_of_lt_of_le (by omega : n.natAbs < 9223372036854775809) Zj);omega
 ·have := dec_len 18 (u := n.toNat) (Nat.lt_of_lt_of_le (by omega : n.toNat < 9223372036854775809) Zj);omega
theorem num_len {s : List UInt8} (h : numP s) : 1 ≤ s.length ∧ s.length ≤ 20 := by
 obtain ⟨n, hn, rfl⟩ := h;refine ⟨?_, itoa_len20 hn⟩;unfold Lib.itoa;split
 ·simp
 ·have := digs_ne n.toNat;cases hl : Lib.decDigits n.toNat with
  | nil => exact absurd hl this
  | cons a l => simp
theorem num_low {s : List UInt8} (h : s.length < 1) : ¬ numP s := fun q => by have := num_len q; omega
theorem num_big {s : List UInt8} (h : 20 < s.length) : ¬ numP s := fun q => by have := num_len q; omega
theorem itoa_minus {n : Int} (h : n < 0) : Lib.itoa n = 45 :: Lib.decDigits n.natAbs := by rw [Lib.itoa, if_pos h]
theorem itoa_plus {n : Int} (h : ¬ n < 0) : Lib.itoa n = Lib.decDigits n.toNat := by rw [Lib.itoa, if_neg h]
theorem num_dig0 {s : List UInt8} {x y : UInt8} {i : Nat} (h0 : s[0]? = some y) (hy : ¬ ((y.toNat : Nat) : Int) = 45) (hx : s[i]? = some x) (h : ¬ (48 ≤ x.toNat ∧ x.toNat ≤ 57)) : ¬ numP s := by
 rintro ⟨n, hn, rfl⟩;by_cases hm : n < 0
 ·rw [itoa_minus hm] at h0;obtain rfl : (45 : UInt8) = y := by simpa using h0
  exact hy rfl
 ·rw [itoa_plus hm] at hx;exact h (digs_all _ x (List.mem_of_getElem? hx))
theorem num_dig1 {s : List UInt8} {x y : UInt8} {i : Nat} (h0 : s[0]? = some y) (hy : ((y.toNat : Nat) : Int) = 45) (hi : 1 ≤ i) (hx : s[i]? = some x) (h : ¬ (48 ≤ x.toNat ∧ x.toNat ≤ 57)) : ¬ numP s := by
 rintro ⟨n, hn, rfl⟩;by_cases hm : n < 0
 ·rw [itoa_minus hm] at hx;obtain ⟨j, rfl⟩ : ∃ j, i = j + 1 := ⟨i - 1, Z4⟩;rw [List.getElem?_cons_succ] at hx;exact h (digs_all _ x (List.mem_of_getElem? hx))
 ·rw [itoa_plus hm] at h0;have := digs_all _ y (List.mem_of_getElem? h0);omega
theorem num_calc0 {s : List UInt8} {y : UInt8} {i : Nat} {n : Int} (h0 : s[0]? = some y) (hy : ¬ ((y.toNat : Nat) : Int) = 45) (hi : ¬ i < s.length) (e : n = accN ((s.take i).drop 0)) (hne : ¬ Lib.itoa (IntKind.wrap .i64 (0 - n)) = s) : ¬ numP s := by
 rintro ⟨m, hm, rfl⟩;rw [List.take_of_length_le Z4, List.drop_zero] at e;by_cases hn : m < 0
 ·rw [itoa_minus hn] at h0;obtain rfl : (45 : UInt8) = y := by simpa using h0
  exact hy rfl
 ·refine hne (congrArg Lib.itoa ?_);rw [itoa_plus hn, acc_dec] at e;unfold in64 at hm;rw [e, w64, w64];omega
theorem num_calc1 {s : List UInt8} {y : UInt8} {i : Nat} {n : Int} (h0 : s[0]? = some y) (hy : ((y.toNat : Nat) : Int) = 45) (hi : ¬ i < s.length) (e : n = accN ((s.take i).drop 1)) (hne : ¬ Lib.itoa n = s) : ¬ numP s := by
 rintro ⟨m, hm, rfl⟩;rw [List.take_of_length_le Z4] at e;by_cases hn : m < 0
 ·refine hne (congrArg Lib.itoa ?_);rw [itoa_minus hn] at e;have e : n = accN (Lib.decDigits m.natAbs) := e;rw [acc_dec] at e;unfold in64 at hm;rw [e, w64];omega
 ·rw [itoa_plus hn] at h0;have := digs_all _ y (List.mem_of_getElem? h0);omega
noncomputable def rnN (s : List UInt8) : Int := if tf (numP s) = true then atN s else 0
theorem rn_yes {s : List UInt8} {n : Int} (hn : in64 n) (h : Lib.itoa n = s) : n = rnN s := by
 rw [rnN, tf_true ⟨n, hn, h⟩, if_pos rfl, ← h, atN_itoa hn]
theorem rn_t {s : List UInt8} (h : numP s) : rnN s = atN s := by rw [rnN, tf_true h, if_pos rfl]
theorem rn_no {s : List UInt8} (h : ¬ numP s) : 0 = rnN s := by rw [rnN, tf_false h]; rfl
theorem rn_in (s : List UInt8) : in64 (rnN s) := by
 unfold rnN;split
 ·exact atN_in s
 ·exact (show (-9223372036854775808 : Int) ≤ 0 ∧ (0 : Int) < 9223372036854775808 by decide)
theorem u8_low {x : UInt8} (h : ¬ ((x.toNat : Nat) : Int) < 48) : IntKind.wrap .u8 (((x.toNat : Nat) : Int) - 48) = ((x.toNat - 48 : Nat) : Int) := by
 have := x.toNat_lt;unfold IntKind.wrap;simp only [IntKind.bits, IntKind.signed];simp <;> omega
theorem num_start (s : List UInt8) : (0 : Int) = accN ((s.take 1).drop 1) := by
 cases s with
 | nil => rfl
 | cons a l => simp [accN]
theorem rnumber_fn : Tryz.cfg.fn 16 = some Tryz.f16 := Z3
theorem rnumber_sc (tx : List UInt8)  : SC Tryz.prog 135000004004000 16 [.string (bstr tx)] (St.empty 0) fun v s' => v = .tuple #[.int .i64 (rnN tx), .bool (tf (numP tx))] ∧ s'.n ≤ 400 := by
 obtain ⟨rc, hS, hC⟩ := rc_con (Z2q Tryz.cfgOk 300) [con_figures] Z3;have hC34 := hC con_figures (.head _);refine sc_ice0 (N := 400) (v2 := .tuple #[.int .i64 (rnN tx), .bool (tf (numP tx))]) (Q := fun v s' => FS 0 s' v (.tuple #[.int .i64 (rnN tx), .bool (tf (numP tx))]) ∧ s'.n ≤ 400) ?_ (fun _ _ h => h);refine sc_body Tryz.cfgOk rnumber_fn rfl ?_;refine Z28 ?_;refine kK Tryz.cfgOk hS ?_;refine Z28 (Z28 ?_);refine Z27 Tryz.cfgOk hS ?_;refine aK 2 ?_;refine aT (fun h1 => ?_) (fun h1 => ?_)
 ·have c2e : (decide ((((tx.length : Nat) : Int) : Int) < 1)) = true := Eq.trans Z3 h1;clear h1;have c2 : (((tx.length : Nat) : Int) : Int) < 1 := of_decide_eq_true c2e;clear c2e;refine aN ?_;refine kT ?_;refine Z28 ?_;refine kK Tryz.cfgOk hS ?_;refine Z2a ?_;exact ⟨[.int .i64 0, .bool false], Z3, .tuple (.cons (fs_to (Z2b rfl) (congrArg (Value.int .i64) Z5)) (.cons (fs_to (Z2b rfl) (congrArg Value.bool Z5)) (.nil))), Zle⟩
 ·have c2e : (decide ((((tx.length : Nat) : Int) : Int) < 1)) = false := Eq.trans Z3 h1;clear h1;have c2 : ¬ (((tx.length : Nat) : Int) : Int) < 1 := of_decide_eq_false c2e;clear c2e;refine aK 3 ?_;refine aT (fun h3 => ?_) (fun h3 => ?_)
  ·have c4e : (decide ((((tx.length : Nat) : Int) : Int) > 20)) = true := Eq.trans Z3 h3;clear h3;have c4 : (((tx.length : Nat) : Int) : Int) > 20 := of_decide_eq_true c4e;clear c4e;refine aN ?_;refine kT ?_;refine Z28 ?_;refine kK Tryz.cfgOk hS ?_;refine Z2a ?_;exact ⟨[.int .i64 0, .bool false], Z3, .tuple (.cons (fs_to (Z2b rfl) (congrArg (Value.int .i64) Z5)) (.cons (fs_to (Z2b rfl) (congrArg Value.bool Z5)) (.nil))), Zle⟩
  ·have c4e : (decide ((((tx.length : Nat) : Int) : Int) > 20)) = false := Eq.trans Z3 h3;clear h3;have c4 : ¬ (((tx.length : Nat) : Int) : Int) > 20 := of_decide_eq_false c4e;clear c4e;refine aN ?_;refine kF ?_;refine Z2c (Z28 ?_);refine kK Tryz.cfgOk hS ?_;refine Z28 (Z28 ?_);have hx5l : 0 < tx.length := by omega
   refine Exists.elim (get_ex hx5l) fun x5 hx5 => ?_
   clear hx5l;refine Z27 Tryz.cfgOk hS ?_;refine aK 1 ?_;refine aM (indexV Tryz.cfg 9 (.string (bstr tx)) (.int .i64 0)) (.int .u8 ((x5.toNat : Nat) : Int)) (Z2k Z3 hx5) ?_;refine aT (fun h6 => ?_) (fun h6 => ?_)
   ·have c7e : ((((x5.toNat : Nat) : Int) : Int) == 45) = true := Eq.trans Z3 h6;clear h6;have c7 : (((x5.toNat : Nat) : Int) : Int) = 45 := eq_of_beq c7e;clear c7e;refine Z2f ?_;refine kT ?_;refine kK Tryz.cfgOk hS ?_;refine Z28 ?_;refine kK Tryz.cfgOk hS ?_;refine Z28 (Z28 ?_);refine kK Tryz.cfgOk hS ?_;refine Z2s ?_;refine sk_live 52 ((fun a : Nat × Int => [(0, .string (bstr tx)), (4, .int .i64 1), (5, .int .i64 a.2), (6, .int .i64 ((a.1 : Nat) : Int))]) (1, 0)) Z3 ⟨Z3, Z3, Z3, Z3, trivial⟩ fun m8 => ?_
    refine sk_st ((fun a : Nat × Int => (St.empty 0)) (1, 0)) Z3 ?_;refine (sk_while (k := 0) (N := 400) (live := (fun a : Nat × Int => [(0, .string (bstr tx)), (4, .int .i64 1), (5, .int .i64 a.2), (6, .int .i64 ((a.1 : Nat) : Int))])) (M := (fun a : Nat × Int => (St.empty 0))) (fun a : Nat × Int => (1 ≤ a.1) ∧ (a.1 ≤ tx.length) ∧ (in64 a.2) ∧ (a.2 = accN ((tx.take a.1).drop 1))) (fun a : Nat × Int => tx.length - a.1) (fun (a : Nat × Int) (o : Out) (lv : List (Nat × Value)) (M : St) => (o = .exit 0 ∧ (¬ a.1 < tx.length) ∧ lv = [(0, .string (bstr tx)), (4, .int .i64 1), (5, .int .i64 a.2), (6, .int .i64 ((a.1 : Nat) : Int))] ∧ M = (St.empty 0)) ∨ (o = .ret ∧ (¬ numP tx) ∧ lv = [(2, .int .i64 0), (3, .bool false)] ∧ M = (St.empty 0))) (Nat.zero_le _) (fun a ha => ?_) (fun a ha => ?_) (fun a m ha => ?_) (fun a m ha => ?_) (1, 0) m8 ?_).up ?_
    ·exact ⟨Z3, (Z2d 0), (fun i hi => absurd hi (Nat.not_lt_zero i))⟩
    ·exact ⟨sub_clo rfl, sub_clo rfl, sub_clo rfl, sub_clo rfl, trivial⟩
    ·exact ⟨Z3, Z3, Z3, Z3, trivial⟩
    ·obtain ⟨i, n⟩ := a;obtain ⟨i0, i1, i2, i3⟩ := ha;dsimp only at i0 i1 i2 i3;refine Z28 (Z28 ?_);refine Z27 Tryz.cfgOk hS ?_;refine aK 3 ?_;refine aT (fun h9 => ?_) (fun h9 => ?_)
     ·have c10e : (decide ((((i : Nat) : Int) : Int) < ((tx.length : Nat) : Int))) = true := Eq.trans Z3 h9;clear h9;have c10 : (((i : Nat) : Int) : Int) < ((tx.length : Nat) : Int) := of_decide_eq_true c10e;clear c10e;refine Z2f ?_;refine kT ?_;refine Z2c (Z28 (Z2s (Z28 (Z28 ?_))));have hx11l : i < tx.length := by omega
      refine Exists.elim (get_ex hx11l) fun x11 hx11 => ?_
      clear hx11l;refine Z27 Tryz.cfgOk hS ?_;refine aK 2 ?_;refine aM (indexV Tryz.cfg 9 (.string (bstr tx)) (.int .i64 ((i : Nat) : Int))) (.int .u8 ((x11.toNat : Nat) : Int)) (Z2k Z3 hx11) ?_;refine aT (fun h12 => ?_) (fun h12 => ?_)
      ·have c13e : (decide ((((x11.toNat : Nat) : Int) : Int) < 48)) = true := Eq.trans Z3 h12;clear h12;have c13 : (((x11.toNat : Nat) : Int) : Int) < 48 := of_decide_eq_true c13e;clear c13e;refine aN ?_;refine kT ?_;refine Z28 ?_;refine kK Tryz.cfgOk hS ?_;refine Z2a ?_;refine .inr ⟨_, _, (fun h => Z02), .inr ⟨rfl, ?_, rfl, rfl⟩, ⟨Z3, ⟨Z3, Z3, trivial⟩, ⟨sub_clo rfl, sub_clo rfl, trivial⟩, Zle, ⟨Z3, (Z2d 0), (fun i hi => absurd hi (Nat.not_lt_zero i))⟩, Z2n Z3⟩⟩
       ·exact num_dig1 Z2 Z2 Z2 Z2 Z4
      ·have c13e : (decide ((((x11.toNat : Nat) : Int) : Int) < 48)) = false := Eq.trans Z3 h12;clear h12;have c13 : ¬ (((x11.toNat : Nat) : Int) : Int) < 48 := of_decide_eq_false c13e;clear c13e;refine aK 3 ?_;refine aM (indexV Tryz.cfg 9 (.string (bstr tx)) (.int .i64 ((i : Nat) : Int))) (.int .u8 ((x11.toNat : Nat) : Int)) (Z2k Z3 hx11) ?_;refine aT (fun h14 => ?_) (fun h14 => ?_)
       ·have c15e : (decide ((((x11.toNat : Nat) : Int) : Int) > 57)) = true := Eq.trans Z3 h14;clear h14;have c15 : (((x11.toNat : Nat) : Int) : Int) > 57 := of_decide_eq_true c15e;clear c15e;refine aN ?_;refine kT ?_;refine Z28 ?_;refine kK Tryz.cfgOk hS ?_;refine Z2a ?_;refine .inr ⟨_, _, (fun h => Z02), .inr ⟨rfl, ?_, rfl, rfl⟩, ⟨Z3, ⟨Z3, Z3, trivial⟩, ⟨sub_clo rfl, sub_clo rfl, trivial⟩, Zle, ⟨Z3, (Z2d 0), (fun i hi => absurd hi (Nat.not_lt_zero i))⟩, Z2n Z3⟩⟩
        ·exact num_dig1 Z2 Z2 Z2 Z2 Z4
       ·have c15e : (decide ((((x11.toNat : Nat) : Int) : Int) > 57)) = false := Eq.trans Z3 h14;clear h14;have c15 : ¬ (((x11.toNat : Nat) : Int) : Int) > 57 := of_decide_eq_false c15e;clear c15e;refine aN ?_;refine kF ?_;refine Z2c ?_;refine Z27 Tryz.cfgOk hS ?_;refine aK 4 ?_;refine aM (indexV Tryz.cfg 9 (.string (bstr tx)) (.int .i64 ((i : Nat) : Int))) (.int .u8 ((x11.toNat : Nat) : Int)) (Z2k Z3 hx11) ?_;refine aE (v := .int .u8 (IntKind.wrap .u8 (((x11.toNat : Nat) : Int) - 48))) (.int .u8 ((x11.toNat - 48 : Nat) : Int)) (congrArg (Value.int .u8) (u8_low Z2)) ?_;refine aE (v := .int .i64 (IntKind.wrap .i64 ((x11.toNat - 48 : Nat) : Int))) (.int .i64 ((x11.toNat - 48 : Nat) : Int)) (congrArg (Value.int .i64) (wrap64 Z4)) ?_;refine aN ?_;refine Z27 Tryz.cfgOk hS ?_;refine aK 1 ?_;refine aE (v := .int .i64 (IntKind.wrap .i64 (((i : Nat) : Int) + 1))) (.int .i64 ((i + 1 : Nat) : Int)) (congrArg (Value.int .i64) (Z2t Z4 Z4)) ?_;refine aN ?_;refine .inl ⟨(i + 1, IntKind.wrap .i64 ((IntKind.wrap .i64 (10 * n)) - ((x11.toNat - 48 : Nat) : Int))), rfl, ⟨?_, ?_, ?_, ?_⟩, ?_, ⟨Z3, ⟨Z3, Z3, Z3, Z3, trivial⟩, ⟨sub_clo rfl, sub_clo rfl, sub_clo rfl, sub_clo rfl, trivial⟩, Zle, ⟨Z3, (Z2d 0), (fun i hi => absurd hi (Nat.not_lt_zero i))⟩, Z2n Z3⟩⟩
        ·(try dsimp only); omega
        ·(try dsimp only); omega
        ·(try dsimp only); exact stp_in _ _
        ·(try dsimp only); exact acc_succ Z2 Z2 Z2
        ·omega
     ·have c10e : (decide ((((i : Nat) : Int) : Int) < ((tx.length : Nat) : Int))) = false := Eq.trans Z3 h9;clear h9;have c10 : ¬ (((i : Nat) : Int) : Int) < ((tx.length : Nat) : Int) := of_decide_eq_false c10e;clear c10e;refine Z2f ?_;refine kF ?_;refine sk_exit ?_;dsimp only;refine .inr ⟨_, _, (fun h => Z02), .inl ⟨rfl, ?_, rfl, rfl⟩, ⟨Z3, ⟨Z3, Z3, Z3, Z3, trivial⟩, ⟨sub_clo rfl, sub_clo rfl, sub_clo rfl, sub_clo rfl, trivial⟩, Zle, ⟨Z3, (Z2d 0), (fun i hi => absurd hi (Nat.not_lt_zero i))⟩, Z2n Z3⟩⟩
      ·omega
    ·exact ⟨Zx, Zx, Z0t, by ((try dsimp only); first | done | (exact num_start _))⟩
    rintro o e1 s1 ⟨a, lv1, M1, m8, ha, (⟨rfl, hx, rfl, rfl⟩ | ⟨rfl, hx, rfl, rfl⟩), rfl, rfl⟩
    ·
     obtain ⟨i, n⟩ := a;obtain ⟨i0, i1, i2, i3⟩ := ha;dsimp only at hx i0 i1 i2 i3;dsimp only;try rw [if_pos rfl]
     refine Z28 (Z28 ?_);refine kK Tryz.cfgOk hS ?_;refine kF ?_;refine Z2c (Z28 (Z28 ?_));refine Z27 Tryz.cfgOk hS ?_;refine aK 1 ?_;refine aC 34 [.int .i64 n] (.string (bstr (Lib.itoa n))) _ rfl (hC34 _ _ _ _ (con_figures_at n (by first | assumption | exact w64_in _ | omega) _)) ?_;refine aK 1 ?_;refine aT (fun h16 => ?_) (fun h16 => ?_)
     ·have c17e : (!((bstr (Lib.itoa n)).toList == (bstr tx).toList)) = true := Eq.trans Z3 h16;clear h16;have c17 : ¬ Lib.itoa n = tx := bstr_f (not_t c17e);clear c17e;refine Z2f ?_;refine kT ?_;refine Z28 ?_;refine kK Tryz.cfgOk hS ?_;refine Z2a ?_;exact ⟨[.int .i64 0, .bool false], Z3, .tuple (.cons (fs_to (Z2b rfl) (congrArg (Value.int .i64) Z5)) (.cons (fs_to (Z2b rfl) (congrArg Value.bool Z5)) (.nil))), Zle⟩
     ·have c17e : (!((bstr (Lib.itoa n)).toList == (bstr tx).toList)) = false := Eq.trans Z3 h16;clear h16;have c17 : Lib.itoa n = tx := bstr_t (not_f c17e);clear c17e;refine Z2f ?_;refine kF ?_;refine Z2c (Z28 ?_);refine kK Tryz.cfgOk hS ?_;refine Z2a ?_;exact ⟨[.int .i64 n, .bool true], Z3, .tuple (.cons (fs_to (Z2b rfl) (congrArg (Value.int .i64) Z5)) (.cons (fs_to (Z2b rfl) (congrArg Value.bool Z5)) (.nil))), Zle⟩
    ·
     obtain ⟨i, n⟩ := a;obtain ⟨i0, i1, i2, i3⟩ := ha;dsimp only at hx i0 i1 i2 i3;dsimp only;exact ⟨[.int .i64 0, .bool false], Z3, .tuple (.cons (fs_to (Z2b rfl) (congrArg (Value.int .i64) Z5)) (.cons (fs_to (Z2b rfl) (congrArg Value.bool Z5)) (.nil))), Zle⟩
   ·have c7e : ((((x5.toNat : Nat) : Int) : Int) == 45) = false := Eq.trans Z3 h6;clear h6;have c7 : ¬ (((x5.toNat : Nat) : Int) : Int) = 45 := ne_of_beq_false c7e;clear c7e;refine Z2f ?_;refine kF ?_;refine Z2c (Z28 ?_);refine kK Tryz.cfgOk hS ?_;refine Z28 (Z28 ?_);refine kK Tryz.cfgOk hS ?_;refine Z2s ?_;refine sk_live 52 ((fun a : Nat × Int => [(0, .string (bstr tx)), (4, .int .i64 0), (5, .int .i64 a.2), (6, .int .i64 ((a.1 : Nat) : Int))]) (0, 0)) Z3 ⟨Z3, Z3, Z3, Z3, trivial⟩ fun m18 => ?_
    refine sk_st ((fun a : Nat × Int => (St.empty 0)) (0, 0)) Z3 ?_;refine (sk_while (k := 0) (N := 400) (live := (fun a : Nat × Int => [(0, .string (bstr tx)), (4, .int .i64 0), (5, .int .i64 a.2), (6, .int .i64 ((a.1 : Nat) : Int))])) (M := (fun a : Nat × Int => (St.empty 0))) (fun a : Nat × Int => (0 ≤ a.1) ∧ (a.1 ≤ tx.length) ∧ (in64 a.2) ∧ (a.2 = accN ((tx.take a.1).drop 0))) (fun a : Nat × Int => tx.length - a.1) (fun (a : Nat × Int) (o : Out) (lv : List (Nat × Value)) (M : St) => (o = .exit 0 ∧ (¬ a.1 < tx.length) ∧ lv = [(0, .string (bstr tx)), (4, .int .i64 0), (5, .int .i64 a.2), (6, .int .i64 ((a.1 : Nat) : Int))] ∧ M = (St.empty 0)) ∨ (o = .ret ∧ (¬ numP tx) ∧ lv = [(2, .int .i64 0), (3, .bool false)] ∧ M = (St.empty 0))) (Nat.zero_le _) (fun a ha => ?_) (fun a ha => ?_) (fun a m ha => ?_) (fun a m ha => ?_) (0, 0) m18 ?_).up ?_
    ·exact ⟨Z3, (Z2d 0), (fun i hi => absurd hi (Nat.not_lt_zero i))⟩
    ·exact ⟨sub_clo rfl, sub_clo rfl, sub_clo rfl, sub_clo rfl, trivial⟩
    ·exact ⟨Z3, Z3, Z3, Z3, trivial⟩
    ·obtain ⟨i, n⟩ := a;obtain ⟨i0, i1, i2, i3⟩ := ha;dsimp only at i0 i1 i2 i3;refine Z28 (Z28 ?_);refine Z27 Tryz.cfgOk hS ?_;refine aK 3 ?_;refine aT (fun h19 => ?_) (fun h19 => ?_)
     ·have c20e : (decide ((((i : Nat) : Int) : Int) < ((tx.length : Nat) : Int))) = true := Eq.trans Z3 h19;clear h19;have c20 : (((i : Nat) : Int) : Int) < ((tx.length : Nat) : Int) := of_decide_eq_true c20e;clear c20e;refine Z2f ?_;refine kT ?_;refine Z2c (Z28 (Z2s (Z28 (Z28 ?_))));have hx21l : i < tx.length := by omega
      refine Exists.elim (get_ex hx21l) fun x21 hx21 => ?_
      clear hx21l;refine Z27 Tryz.cfgOk hS ?_;refine aK 2 ?_;refine aM (indexV Tryz.cfg 9 (.string (bstr tx)) (.int .i64 ((i : Nat) : Int))) (.int .u8 ((x21.toNat : Nat) : Int)) (Z2k Z3 hx21) ?_;refine aT (fun h22 => ?_) (fun h22 => ?_)
      ·have c23e : (decide ((((x21.toNat : Nat) : Int) : Int) < 48)) = true := Eq.trans Z3 h22;clear h22;have c23 : (((x21.toNat : Nat) : Int) : Int) < 48 := of_decide_eq_true c23e;clear c23e;refine aN ?_;refine kT ?_;refine Z28 ?_;refine kK Tryz.cfgOk hS ?_;refine Z2a ?_;refine .inr ⟨_, _, (fun h => Z02), .inr ⟨rfl, ?_, rfl, rfl⟩, ⟨Z3, ⟨Z3, Z3, trivial⟩, ⟨sub_clo rfl, sub_clo rfl, trivial⟩, Zle, ⟨Z3, (Z2d 0), (fun i hi => absurd hi (Nat.not_lt_zero i))⟩, Z2n Z3⟩⟩
       ·exact num_dig0 Z2 Z2 Z2 Z4
      ·have c23e : (decide ((((x21.toNat : Nat) : Int) : Int) < 48)) = false := Eq.trans Z3 h22;clear h22;have c23 : ¬ (((x21.toNat : Nat) : Int) : Int) < 48 := of_decide_eq_false c23e;clear c23e;refine aK 3 ?_;refine aM (indexV Tryz.cfg 9 (.string (bstr tx)) (.int .i64 ((i : Nat) : Int))) (.int .u8 ((x21.toNat : Nat) : Int)) (Z2k Z3 hx21) ?_;refine aT (fun h24 => ?_) (fun h24 => ?_)
       ·have c25e : (decide ((((x21.toNat : Nat) : Int) : Int) > 57)) = true := Eq.trans Z3 h24;clear h24;have c25 : (((x21.toNat : Nat) : Int) : Int) > 57 := of_decide_eq_true c25e;clear c25e;refine aN ?_;refine kT ?_;refine Z28 ?_;refine kK Tryz.cfgOk hS ?_;refine Z2a ?_;refine .inr ⟨_, _, (fun h => Z02), .inr ⟨rfl, ?_, rfl, rfl⟩, ⟨Z3, ⟨Z3, Z3, trivial⟩, ⟨sub_clo rfl, sub_clo rfl, trivial⟩, Zle, ⟨Z3, (Z2d 0), (fun i hi => absurd hi (Nat.not_lt_zero i))⟩, Z2n Z3⟩⟩
        ·exact num_dig0 Z2 Z2 Z2 Z4
       ·have c25e : (decide ((((x21.toNat : Nat) : Int) : Int) > 57)) = false := Eq.trans Z3 h24;clear h24;have c25 : ¬ (((x21.toNat : Nat) : Int) : Int) > 57 := of_decide_eq_false c25e;clear c25e;refine aN ?_;refine kF ?_;refine Z2c ?_;refine Z27 Tryz.cfgOk hS ?_;refine aK 4 ?_;refine aM (indexV Tryz.cfg 9 (.string (bstr tx)) (.int .i64 ((i : Nat) : Int))) (.int .u8 ((x21.toNat : Nat) : Int)) (Z2k Z3 hx21) ?_;refine aE (v := .int .u8 (IntKind.wrap .u8 (((x21.toNat : Nat) : Int) - 48))) (.int .u8 ((x21.toNat - 48 : Nat) : Int)) (congrArg (Value.int .u8) (u8_low Z2)) ?_;refine aE (v := .int .i64 (IntKind.wrap .i64 ((x21.toNat - 48 : Nat) : Int))) (.int .i64 ((x21.toNat - 48 : Nat) : Int)) (congrArg (Value.int .i64) (wrap64 Z4)) ?_;refine aN ?_;refine Z27 Tryz.cfgOk hS ?_;refine aK 1 ?_;refine aE (v := .int .i64 (IntKind.wrap .i64 (((i : Nat) : Int) + 1))) (.int .i64 ((i + 1 : Nat) : Int)) (congrArg (Value.int .i64) (Z2t Z4 Z4)) ?_;refine aN ?_;refine .inl ⟨(i + 1, IntKind.wrap .i64 ((IntKind.wrap .i64 (10 * n)) - ((x21.toNat - 48 : Nat) : Int))), rfl, ⟨?_, ?_, ?_, ?_⟩, ?_, ⟨Z3, ⟨Z3, Z3, Z3, Z3, trivial⟩, ⟨sub_clo rfl, sub_clo rfl, sub_clo rfl, sub_clo rfl, trivial⟩, Zle, ⟨Z3, (Z2d 0), (fun i hi => absurd hi (Nat.not_lt_zero i))⟩, Z2n Z3⟩⟩
        ·(try dsimp only); omega
        ·(try dsimp only); omega
        ·(try dsimp only); exact stp_in _ _
        ·(try dsimp only); exact acc_succ Z2 Z2 Z2
        ·omega
     ·have c20e : (decide ((((i : Nat) : Int) : Int) < ((tx.length : Nat) : Int))) = false := Eq.trans Z3 h19;clear h19;have c20 : ¬ (((i : Nat) : Int) : Int) < ((tx.length : Nat) : Int) := of_decide_eq_false c20e;clear c20e;refine Z2f ?_;refine kF ?_;refine sk_exit ?_;dsimp only;refine .inr ⟨_, _, (fun h => Z02), .inl ⟨rfl, ?_, rfl, rfl⟩, ⟨Z3, ⟨Z3, Z3, Z3, Z3, trivial⟩, ⟨sub_clo rfl, sub_clo rfl, sub_clo rfl, sub_clo rfl, trivial⟩, Zle, ⟨Z3, (Z2d 0), (fun i hi => absurd hi (Nat.not_lt_zero i))⟩, Z2n Z3⟩⟩
      ·omega
    ·exact ⟨Zx, Zx, Z0t, by ((try dsimp only); first | done | (simp [accN]))⟩
    rintro o e1 s1 ⟨a, lv1, M1, m18, ha, (⟨rfl, hx, rfl, rfl⟩ | ⟨rfl, hx, rfl, rfl⟩), rfl, rfl⟩
    ·
     obtain ⟨i, n⟩ := a;obtain ⟨i0, i1, i2, i3⟩ := ha;dsimp only at hx i0 i1 i2 i3;dsimp only;try rw [if_pos rfl]
     refine Z28 (Z28 ?_);refine kK Tryz.cfgOk hS ?_;refine kT ?_;refine kK Tryz.cfgOk hS ?_;refine Z28 (Z28 ?_);refine Z27 Tryz.cfgOk hS ?_;refine aK 1 ?_;refine aC 34 [.int .i64 (IntKind.wrap .i64 (0 - n))] (.string (bstr (Lib.itoa (IntKind.wrap .i64 (0 - n))))) _ rfl (hC34 _ _ _ _ (con_figures_at (IntKind.wrap .i64 (0 - n)) (by first | assumption | exact w64_in _ | omega) _)) ?_;refine aK 1 ?_;refine aT (fun h26 => ?_) (fun h26 => ?_)
     ·have c27e : (!((bstr (Lib.itoa (IntKind.wrap .i64 (0 - n)))).toList == (bstr tx).toList)) = true := Eq.trans Z3 h26;clear h26;have c27 : ¬ Lib.itoa (IntKind.wrap .i64 (0 - n)) = tx := bstr_f (not_t c27e);clear c27e;refine Z2f ?_;refine kT ?_;refine Z28 ?_;refine kK Tryz.cfgOk hS ?_;refine Z2a ?_;exact ⟨[.int .i64 0, .bool false], Z3, .tuple (.cons (fs_to (Z2b rfl) (congrArg (Value.int .i64) Z5)) (.cons (fs_to (Z2b rfl) (congrArg Value.bool Z5)) (.nil))), Zle⟩
     ·have c27e : (!((bstr (Lib.itoa (IntKind.wrap .i64 (0 - n)))).toList == (bstr tx).toList)) = false := Eq.trans Z3 h26;clear h26;have c27 : Lib.itoa (IntKind.wrap .i64 (0 - n)) = tx := bstr_t (not_f c27e);clear c27e;refine Z2f ?_;refine kF ?_;refine Z2c (Z28 ?_);refine kK Tryz.cfgOk hS ?_;refine Z2a ?_;exact ⟨[.int .i64 (IntKind.wrap .i64 (0 - n)), .bool true], Z3, .tuple (.cons (fs_to (Z2b rfl) (congrArg (Value.int .i64) Z5)) (.cons (fs_to (Z2b rfl) (congrArg Value.bool Z5)) (.nil))), Zle⟩
    ·
     obtain ⟨i, n⟩ := a;obtain ⟨i0, i1, i2, i3⟩ := ha;dsimp only at hx i0 i1 i2 i3;dsimp only;exact ⟨[.int .i64 0, .bool false], Z3, .tuple (.cons (fs_to (Z2b rfl) (congrArg (Value.int .i64) Z5)) (.cons (fs_to (Z2b rfl) (congrArg Value.bool Z5)) (.nil))), Zle⟩
noncomputable def con_rnumber : Con Tryz.prog 135000004004000 := Con.pure (α := (List UInt8)) 16 (fun z9 => [.string (bstr z9)]) (fun z9 => .tuple #[.int .i64 (rnN z9), .bool (tf (numP z9))]) (fun z9 => True) (by
 intro x y h
 simp only [injA, bstr_iff] at h
 first | exact h | (simp only [Prod.ext_iff, h, and_self, and_true, true_and]; done) | simp_all [Prod.ext_iff]) (fun _ => rfl) (fun _ => rfl) 400 (by
 rintro x _
 exact rnumber_sc x )
theorem con_rnumber_at (tx : List UInt8)  (s : St) : con_rnumber.rel [.string (bstr tx)] s (.tuple #[.int .i64 (rnN tx), .bool (tf (numP tx))]) s := con_pure tx trivial s
theorem rnumber_t {tx : List UInt8} (h : numP tx) : (.tuple #[.int .i64 (rnN tx), .bool (tf (numP tx))] : Value) = .tuple #[.int .i64 (rnN tx), .bool true] := Z20
theorem rnumber_f {tx : List UInt8} (h : ¬ (numP tx)) : (.tuple #[.int .i64 (rnN tx), .bool (tf (numP tx))] : Value) = .tuple #[.int .i64 (rnN tx), .bool false] := Z1v
end Go.Proofs.YtgplkbfjlidinabGreatDoor