/- Words: numbers, marks, relations. -/
import Derived.Test.YtgplkbfjlidinabGreatDoorRefCheck
import Derived.Test.YtgplkbfjlidinabGreatDoorAiAtoi
import Derived.Test.YtgplkbfjlidinabGreatDoorAiCon
import Derived.Test.YtgplkbfjlidinabGreatDoorKit
set_option linter.unusedVariables false
set_option linter.unusedSimpArgs false
set_option linter.unnecessarySimpa false
set_option maxHeartbeats 4000000
set_option maxRecDepth 100000
namespace Go.Proofs.YtgplkbfjlidinabGreatDoor
open Go.Ai
theorem atoi__sc (tx : List UInt8) (h0 : tx.length ≤ 100000) : SC Tryz.prog 135000004004000 48 [.string (bstr tx)] (St.empty 0) fun v s' => v = atoiV 109 tx ∧ s'.n ≤ 400 :=
 (atoi_sc atoi_lays (f := 48) rfl Zj Zj Zj tx Z4).up fun _ _ h => ⟨h.1, by rw [h.2]; decide⟩
noncomputable def con_atoi_ : Con Tryz.prog 135000004004000 := Con.pure (α := (List UInt8)) 48 (fun z9 => [.string (bstr z9)]) (fun z9 => atoiV 109 z9) (fun z9 => (z9.length ≤ 100000)) (by
 intro x y h
 simp only [injA, bstr_iff] at h
 first | exact h | (simp only [Prod.ext_iff, h, and_self, and_true, true_and]; done) | simp_all [Prod.ext_iff]) (fun _ => rfl) (fun z9 => atoiV_clo 109 z9) 400 (by
 rintro x p0
 exact atoi__sc x p0)
theorem con_atoi__at (tx : List UInt8) (h0 : tx.length ≤ 100000) (s : St) : con_atoi_.rel [.string (bstr tx)] s (atoiV 109 tx) s := con_pure tx h0 s
theorem number_fn : Tryz.cfg.fn 26 = some Tryz.f26 := Z3
theorem number_sc (tx : List UInt8) (h0 : tx.length ≤ 100000) : SC Tryz.prog 135000004004000 26 [.string (bstr tx)] (St.empty 0) fun v s' => v = .tuple #[.int .i64 (atN tx), .bool (tf (numP tx))] ∧ s'.n ≤ 400 := by
 obtain ⟨rc, hS, hC⟩ := rc_con (Z2q Tryz.cfgOk 300) [con_atoi_, con_itoa_] Z3;have hC48 := hC con_atoi_ (.head _);have hC21 := hC con_itoa_ (.tail _ (.head _));refine sc_ice0 (N := 400) (v2 := .tuple #[.int .i64 (atN tx), .bool (tf (numP tx))]) (Q := fun v s' => FS 0 s' v (.tuple #[.int .i64 (atN tx), .bool (tf (numP tx))]) ∧ s'.n ≤ 400) ?_ (fun _ _ h => h);refine sc_body Tryz.cfgOk number_fn rfl ?_;refine Z28 ?_;refine kK Tryz.cfgOk hS ?_;refine Z28 ?_;refine Z27 Tryz.cfgOk hS ?_;refine aK 1 ?_;by_cases q1 : okA tx
 ·
  refine aC 48 [.string (bstr tx)] (.tuple #[.int .i64 (atN tx), .nilIface]) _ rfl (rc_eq (hC48 _ _ _ _ (con_atoi__at tx Z1i _)) (atoi_t q1)) ?_;refine aN ?_;refine Z28 ?_;refine Z27 Tryz.cfgOk hS ?_;refine aK 5 ?_;refine aC 21 [.int .i64 (atN tx)] (.string (bstr (Lib.itoa (atN tx)))) _ rfl (hC21 _ _ _ _ (con_itoa__at (atN tx) Z1i _)) ?_;refine aK 1 ?_;refine aT (fun h2 => ?_) (fun h2 => ?_)
  ·have c3e : (((bstr (Lib.itoa (atN tx))).toList == (bstr tx).toList)) = true := Eq.trans Z3 h2;clear h2;have c3 : Lib.itoa (atN tx) = tx := bstr_t c3e;clear c3e;refine aN ?_;refine Z2a ?_;exact ⟨[.int .i64 (atN tx), .bool true], Z3, .tuple (.cons (.same (sub_clo rfl)) (.cons (fs_to (Z2b rfl) (congrArg Value.bool Z08)) (.nil))), Zle⟩
  ·have c3e : (((bstr (Lib.itoa (atN tx))).toList == (bstr tx).toList)) = false := Eq.trans Z3 h2;clear h2;have c3 : ¬ Lib.itoa (atN tx) = tx := bstr_f c3e;clear c3e;refine aN ?_;refine Z2a ?_;exact ⟨[.int .i64 (atN tx), .bool false], Z3, .tuple (.cons (.same (sub_clo rfl)) (.cons (fs_to (Z2b rfl) (congrArg Value.bool Z08)) (.nil))), Zle⟩
 ·
  refine aC 48 [.string (bstr tx)] (.tuple #[.int .i64 (atN tx), .iface 109 (.chan (some 0))]) _ rfl (rc_eq (hC48 _ _ _ _ (con_atoi__at tx Z1i _)) (atoi_f q1)) ?_;refine aN ?_;refine Z28 ?_;refine kK Tryz.cfgOk hS ?_;refine Z2a ?_;exact ⟨[.int .i64 (atN tx), .bool false], Z3, .tuple (.cons (.same (sub_clo rfl)) (.cons (fs_to (Z2b rfl) (congrArg Value.bool Z08)) (.nil))), Zle⟩
noncomputable def con_number : Con Tryz.prog 135000004004000 := Con.pure (α := (List UInt8)) 26 (fun z9 => [.string (bstr z9)]) (fun z9 => .tuple #[.int .i64 (atN z9), .bool (tf (numP z9))]) (fun z9 => (z9.length ≤ 100000)) (by
 intro x y h
 simp only [injA, bstr_iff] at h
 first | exact h | (simp only [Prod.ext_iff, h, and_self, and_true, true_and]; done) | simp_all [Prod.ext_iff]) (fun _ => rfl) (fun _ => rfl) 400 (by
 rintro x p0
 exact number_sc x p0)
theorem con_number_at (tx : List UInt8) (h0 : tx.length ≤ 100000) (s : St) : con_number.rel [.string (bstr tx)] s (.tuple #[.int .i64 (atN tx), .bool (tf (numP tx))]) s := con_pure tx h0 s
theorem number_t {tx : List UInt8} (h : numP tx) : (.tuple #[.int .i64 (atN tx), .bool (tf (numP tx))] : Value) = .tuple #[.int .i64 (atN tx), .bool true] := Z20
theorem number_f {tx : List UInt8} (h : ¬ (numP tx)) : (.tuple #[.int .i64 (atN tx), .bool (tf (numP tx))] : Value) = .tuple #[.int .i64 (atN tx), .bool false] := Z1v
theorem pre_yes {p s : List UInt8} (h : s.take p.length = p) : p <+: s := List.prefix_iff_eq_take.2 h.symm
theorem pre_no1 {p s : List UInt8} (h : ¬ ((s.length : Nat) : Int) ≥ ((p.length : Nat) : Int)) : ¬ p <+: s := fun q => h (by have := q.length_le; omega)
theorem pre_no2 {p s : List UInt8} (h : ¬ s.take p.length = p) : ¬ p <+: s := fun q => h (List.prefix_iff_eq_take.1 q).symm
theorem cut_yes {p s : List UInt8} (h : p <+: s) : s.drop p.length = cutR p s := by rw [cutR, if_pos h]
theorem cut_no {p s : List UInt8} (h : ¬ p <+: s) : s = cutR p s := by rw [cutR, if_neg h]
theorem cut_len (p s : List UInt8) : (cutR p s).length ≤ s.length := by unfold cutR; split <;> simp
theorem hasPre_fn : Tryz.cfg.fn 63 = some Tryz.f63 := Z3
theorem hasPre_sc (tx : List UInt8) (m : List UInt8)  : SC Tryz.prog 135000004004000 63 [.string (bstr tx), .string (bstr m)] (St.empty 0) fun v s' => v = .bool (tf (m <+: tx)) ∧ s'.n ≤ 400 := by
 have hS := Z2q Tryz.cfgOk 300;refine sc_ice0 (N := 400) (v2 := .bool (tf (m <+: tx))) (Q := fun v s' => FS 0 s' v (.bool (tf (m <+: tx))) ∧ s'.n ≤ 400) ?_ (fun _ _ h => h);refine sc_body Tryz.cfgOk hasPre_fn rfl ?_;refine Z28 ?_;refine kK Tryz.cfgOk hS ?_;refine Z28 ?_;refine Z27 Tryz.cfgOk hS ?_;refine aK 4 ?_;refine aT (fun h1 => ?_) (fun h1 => ?_)
 ·have c2e : (decide ((((tx.length : Nat) : Int) : Int) ≥ ((m.length : Nat) : Int))) = true := Eq.trans Z3 h1;clear h1;have c2 : (((tx.length : Nat) : Int) : Int) ≥ ((m.length : Nat) : Int) := of_decide_eq_true c2e;clear c2e;refine aK 4 ?_;refine aM (sliceV Tryz.cfg 9 (.string (bstr tx)) none (some (.int .i64 ((m.length : Nat) : Int))) none) (.string (bstr (tx.take m.length))) (slice_strHi (m := m.length) Z3 Z4) ?_;refine aK 1 ?_;refine aT (fun h3 => ?_) (fun h3 => ?_)
  ·have c4e : (((bstr (tx.take m.length)).toList == (bstr m).toList)) = true := Eq.trans Z3 h3;clear h3;have c4 : tx.take m.length = m := bstr_t c4e;clear c4e;refine aN ?_;refine Z2a ?_;exact ⟨[.bool true], Z3, fs_to (Z2b rfl) (congrArg Value.bool Z09), Zle⟩
  ·have c4e : (((bstr (tx.take m.length)).toList == (bstr m).toList)) = false := Eq.trans Z3 h3;clear h3;have c4 : ¬ tx.take m.length = m := bstr_f c4e;clear c4e;refine aN ?_;refine Z2a ?_;exact ⟨[.bool false], Z3, fs_to (Z2b rfl) (congrArg Value.bool Z09), Zle⟩
 ·have c2e : (decide ((((tx.length : Nat) : Int) : Int) ≥ ((m.length : Nat) : Int))) = false := Eq.trans Z3 h1;clear h1;have c2 : ¬ (((tx.length : Nat) : Int) : Int) ≥ ((m.length : Nat) : Int) := of_decide_eq_false c2e;clear c2e;refine aN ?_;refine Z2a ?_;exact ⟨[.bool false], Z3, fs_to (Z2b rfl) (congrArg Value.bool Z09), Zle⟩
noncomputable def con_hasPre : Con Tryz.prog 135000004004000 := Con.pure (α := (List UInt8) × (List UInt8)) 63 (fun z9 => [.string (bstr z9.1), .string (bstr z9.2)]) (fun z9 => .bool (tf (z9.2 <+: z9.1))) (fun z9 => True) (by
 rintro ⟨a0, a1⟩ ⟨b0, b1⟩ h
 simp only [injA, bstr_iff] at h
 first | exact h | (simp only [Prod.ext_iff, h, and_self, and_true, true_and]; done) | simp_all [Prod.ext_iff]) (fun _ => rfl) (fun _ => rfl) 400 (by
 rintro ⟨a0, a1⟩ _
 exact hasPre_sc a0 a1 )
theorem con_hasPre_at (tx : List UInt8) (m : List UInt8)  (s : St) : con_hasPre.rel [.string (bstr tx), .string (bstr m)] s (.bool (tf (m <+: tx))) s := con_pure (tx, m) trivial s
theorem pre_len {p s : List UInt8} (h : p <+: s) : p.length ≤ s.length := h.length_le
theorem cutP0_fn : Tryz.cfg.fn 47 = some Tryz.f47 := Z3
theorem cutP0_sc (tx : List UInt8) (m : List UInt8)  : SC Tryz.prog 135000004004000 47 [.string (bstr tx), .string (bstr m)] (St.empty 0) fun v s' => v = .tuple #[.string (bstr (cutR m tx)), .bool (tf (m <+: tx))] ∧ s'.n ≤ 400 := by
 obtain ⟨rc, hS, hC⟩ := rc_con (Z2q Tryz.cfgOk 300) [con_hasPre] Z3;have hC63 := hC con_hasPre (.head _);refine sc_ice0 (N := 400) (v2 := .tuple #[.string (bstr (cutR m tx)), .bool (tf (m <+: tx))]) (Q := fun v s' => FS 0 s' v (.tuple #[.string (bstr (cutR m tx)), .bool (tf (m <+: tx))]) ∧ s'.n ≤ 400) ?_ (fun _ _ h => h);refine sc_body Tryz.cfgOk cutP0_fn rfl ?_;refine Z28 ?_;refine kK Tryz.cfgOk hS ?_;refine Z28 (Z28 ?_);refine Z27 Tryz.cfgOk hS ?_;refine aK 2 ?_;refine aB 63 [.string (bstr tx), .string (bstr m)] (tf (m <+: tx)) _ rfl (hC63 _ _ _ _ (con_hasPre_at tx m  _)) (fun h1 => ?_) (fun h1 => ?_)
 ·have c2 : m <+: tx := tf_t h1;clear h1;refine aN ?_;refine kF ?_;refine Z2c (Z28 ?_);refine Z27 Tryz.cfgOk hS ?_;refine aK 3 ?_;refine aM (sliceV Tryz.cfg 9 (.string (bstr tx)) (some (.int .i64 ((m.length : Nat) : Int))) none none) (.string (bstr (tx.drop m.length))) (slice_strLo (m := m.length) Z3 (by first | omega | exact pre_len Z2)) ?_;refine aN ?_;refine Z2a ?_;exact ⟨[.string (bstr (tx.drop m.length)), .bool true], Z3, .tuple (.cons (fs_to (Z2b rfl) (congrArg Value.string Z01)) (.cons (fs_to (Z2b rfl) (congrArg Value.bool Z01)) (.nil))), Zle⟩
 ·have c2 : ¬ (m <+: tx) := tf_f h1;clear h1;refine aN ?_;refine kT ?_;refine Z28 ?_;refine kK Tryz.cfgOk hS ?_;refine Z2a ?_;exact ⟨[.string (bstr tx), .bool false], Z3, .tuple (.cons (fs_to (Z2b rfl) (congrArg Value.string Z01)) (.cons (fs_to (Z2b rfl) (congrArg Value.bool Z01)) (.nil))), Zle⟩
noncomputable def con_cutP0 : Con Tryz.prog 135000004004000 := Con.pure (α := (List UInt8) × (List UInt8)) 47 (fun z9 => [.string (bstr z9.1), .string (bstr z9.2)]) (fun z9 => .tuple #[.string (bstr (cutR z9.2 z9.1)), .bool (tf (z9.2 <+: z9.1))]) (fun z9 => True) (by
 rintro ⟨a0, a1⟩ ⟨b0, b1⟩ h
 simp only [injA, bstr_iff] at h
 first | exact h | (simp only [Prod.ext_iff, h, and_self, and_true, true_and]; done) | simp_all [Prod.ext_iff]) (fun _ => rfl) (fun _ => rfl) 400 (by
 rintro ⟨a0, a1⟩ _
 exact cutP0_sc a0 a1 )
theorem con_cutP0_at (tx : List UInt8) (m : List UInt8)  (s : St) : con_cutP0.rel [.string (bstr tx), .string (bstr m)] s (.tuple #[.string (bstr (cutR m tx)), .bool (tf (m <+: tx))]) s := con_pure (tx, m) trivial s
theorem cutP_fn : Tryz.cfg.fn 25 = some Tryz.f25 := Z3
theorem cutP_sc (tx : List UInt8) (m : List UInt8)  : SC Tryz.prog 135000004004000 25 [.string (bstr tx), .string (bstr m)] (St.empty 0) fun v s' => v = .tuple #[.string (bstr (cutR m tx)), .bool (tf (m <+: tx))] ∧ s'.n ≤ 400 := by
 obtain ⟨rc, hS, hC⟩ := rc_con (Z2q Tryz.cfgOk 300) [con_cutP0] Z3;have hC47 := hC con_cutP0 (.head _);refine sc_ice0 (N := 400) (v2 := .tuple #[.string (bstr (cutR m tx)), .bool (tf (m <+: tx))]) (Q := fun v s' => FS 0 s' v (.tuple #[.string (bstr (cutR m tx)), .bool (tf (m <+: tx))]) ∧ s'.n ≤ 400) ?_ (fun _ _ h => h);refine sc_body Tryz.cfgOk cutP_fn rfl ?_;refine Z28 ?_;refine kK Tryz.cfgOk hS ?_;refine Z28 ?_;refine Z27 Tryz.cfgOk hS ?_;refine aK 2 ?_;refine aC 47 [.string (bstr tx), .string (bstr m)] (.tuple #[.string (bstr (cutR m tx)), .bool (tf (m <+: tx))]) _ rfl (hC47 _ _ _ _ (con_cutP0_at tx m  _)) ?_;refine aN ?_;refine Z2a ?_;exact ⟨[.string (bstr (cutR m tx)), .bool (tf (m <+: tx))], Z3, .tuple (.cons (.same (sub_clo rfl)) (.cons (.same (sub_clo rfl)) (.nil))), Zle⟩
noncomputable def con_cutP : Con Tryz.prog 135000004004000 := Con.pure (α := (List UInt8) × (List UInt8)) 25 (fun z9 => [.string (bstr z9.1), .string (bstr z9.2)]) (fun z9 => .tuple #[.string (bstr (cutR z9.2 z9.1)), .bool (tf (z9.2 <+: z9.1))]) (fun z9 => True) (by
 rintro ⟨a0, a1⟩ ⟨b0, b1⟩ h
 simp only [injA, bstr_iff] at h
 first | exact h | (simp only [Prod.ext_iff, h, and_self, and_true, true_and]; done) | simp_all [Prod.ext_iff]) (fun _ => rfl) (fun _ => rfl) 400 (by
 rintro ⟨a0, a1⟩ _
 exact cutP_sc a0 a1 )
theorem con_cutP_at (tx : List UInt8) (m : List UInt8)  (s : St) : con_cutP.rel [.string (bstr tx), .string (bstr m)] s (.tuple #[.string (bstr (cutR m tx)), .bool (tf (m <+: tx))]) s := con_pure (tx, m) trivial s
theorem cutP_t {tx : List UInt8} {m : List UInt8} (h : m <+: tx) : (.tuple #[.string (bstr (cutR m tx)), .bool (tf (m <+: tx))] : Value) = .tuple #[.string (bstr (cutR m tx)), .bool true] := Z20
theorem cutP_f {tx : List UInt8} {m : List UInt8} (h : ¬ (m <+: tx)) : (.tuple #[.string (bstr (cutR m tx)), .bool (tf (m <+: tx))] : Value) = .tuple #[.string (bstr (cutR m tx)), .bool false] := Z1v
def markP (m s : List UInt8) : Prop := m <+: s ∧ numP (cutR m s)
theorem marked_fn : Tryz.cfg.fn 13 = some Tryz.f13 := Z3
theorem marked_sc (tx : List UInt8) (m : List UInt8) (h0 : tx.length ≤ 100000) : SC Tryz.prog 135000004004000 13 [.string (bstr tx), .string (bstr m)] (St.empty 0) fun v s' => v = .tuple #[.int .i64 (atN (cutR m tx)), .bool (tf (markP m tx))] ∧ s'.n ≤ 400 := by
 obtain ⟨rc, hS, hC⟩ := rc_con (Z2q Tryz.cfgOk 300) [con_cutP, con_number] Z3;have hC25 := hC con_cutP (.head _);have hC26 := hC con_number (.tail _ (.head _));refine sc_ice0 (N := 400) (v2 := .tuple #[.int .i64 (atN (cutR m tx)), .bool (tf (markP m tx))]) (Q := fun v s' => FS 0 s' v (.tuple #[.int .i64 (atN (cutR m tx)), .bool (tf (markP m tx))]) ∧ s'.n ≤ 400) ?_ (fun _ _ h => h);refine sc_body Tryz.cfgOk marked_fn rfl ?_;refine Z28 ?_;refine kK Tryz.cfgOk hS ?_;refine Z28 ?_;refine Z27 Tryz.cfgOk hS ?_;refine aK 2 ?_;by_cases q1 : m <+: tx
 ·
  refine aC 25 [.string (bstr tx), .string (bstr m)] (.tuple #[.string (bstr (cutR m tx)), .bool true]) _ rfl (rc_eq (hC25 _ _ _ _ (con_cutP_at tx m  _)) (cutP_t q1)) ?_;refine aN ?_;refine Z28 ?_;refine Z27 Tryz.cfgOk hS ?_;refine aK 1 ?_;by_cases q2 : numP (cutR m tx)
  ·
   refine aC 26 [.string (bstr (cutR m tx))] (.tuple #[.int .i64 (atN (cutR m tx)), .bool true]) _ rfl (rc_eq (hC26 _ _ _ _ (con_number_at (cutR m tx) Z0s _)) (number_t q2)) ?_;refine aN ?_;refine Z28 ?_;refine kK Tryz.cfgOk hS ?_;refine Z2a ?_;exact ⟨[.int .i64 (atN (cutR m tx)), .bool true], Z3, .tuple (.cons (.same (sub_clo rfl)) (.cons (fs_to (Z2b rfl) (congrArg Value.bool Z00)) (.nil))), Zle⟩
  ·
   refine aC 26 [.string (bstr (cutR m tx))] (.tuple #[.int .i64 (atN (cutR m tx)), .bool false]) _ rfl (rc_eq (hC26 _ _ _ _ (con_number_at (cutR m tx) Z0s _)) (number_f q2)) ?_;refine aN ?_;refine Z28 ?_;refine kK Tryz.cfgOk hS ?_;refine Z2a ?_;exact ⟨[.int .i64 (atN (cutR m tx)), .bool false], Z3, .tuple (.cons (.same (sub_clo rfl)) (.cons (fs_to (Z2b rfl) (congrArg Value.bool Z00)) (.nil))), Zle⟩
 ·
  refine aC 25 [.string (bstr tx), .string (bstr m)] (.tuple #[.string (bstr (cutR m tx)), .bool false]) _ rfl (rc_eq (hC25 _ _ _ _ (con_cutP_at tx m  _)) (cutP_f q1)) ?_;refine aN ?_;refine Z28 ?_;refine Z27 Tryz.cfgOk hS ?_;refine aK 1 ?_;by_cases q3 : numP (cutR m tx)
  ·
   refine aC 26 [.string (bstr (cutR m tx))] (.tuple #[.int .i64 (atN (cutR m tx)), .bool true]) _ rfl (rc_eq (hC26 _ _ _ _ (con_number_at (cutR m tx) Z0s _)) (number_t q3)) ?_;refine aN ?_;refine Z28 ?_;refine kK Tryz.cfgOk hS ?_;refine Z2a ?_;exact ⟨[.int .i64 (atN (cutR m tx)), .bool false], Z3, .tuple (.cons (.same (sub_clo rfl)) (.cons (fs_to (Z2b rfl) (congrArg Value.bool Z00)) (.nil))), Zle⟩
  ·
   refine aC 26 [.string (bstr (cutR m tx))] (.tuple #[.int .i64 (atN (cutR m tx)), .bool false]) _ rfl (rc_eq (hC26 _ _ _ _ (con_number_at (cutR m tx) Z0s _)) (number_f q3)) ?_;refine aN ?_;refine Z28 ?_;refine kK Tryz.cfgOk hS ?_;refine Z2a ?_;exact ⟨[.int .i64 (atN (cutR m tx)), .bool false], Z3, .tuple (.cons (.same (sub_clo rfl)) (.cons (fs_to (Z2b rfl) (congrArg Value.bool Z00)) (.nil))), Zle⟩
noncomputable def con_marked : Con Tryz.prog 135000004004000 := Con.pure (α := (List UInt8) × (List UInt8)) 13 (fun z9 => [.string (bstr z9.1), .string (bstr z9.2)]) (fun z9 => .tuple #[.int .i64 (atN (cutR z9.2 z9.1)), .bool (tf (markP z9.2 z9.1))]) (fun z9 => (z9.1.length ≤ 100000)) (by
 rintro ⟨a0, a1⟩ ⟨b0, b1⟩ h
 simp only [injA, bstr_iff] at h
 first | exact h | (simp only [Prod.ext_iff, h, and_self, and_true, true_and]; done) | simp_all [Prod.ext_iff]) (fun _ => rfl) (fun _ => rfl) 400 (by
 rintro ⟨a0, a1⟩ p0
 exact marked_sc a0 a1 p0)
theorem con_marked_at (tx : List UInt8) (m : List UInt8) (h0 : tx.length ≤ 100000) (s : St) : con_marked.rel [.string (bstr tx), .string (bstr m)] s (.tuple #[.int .i64 (atN (cutR m tx)), .bool (tf (markP m tx))]) s := con_pure (tx, m) h0 s
def relN (s : List UInt8) : Int := if relB 0 = s then 0 else if relB 1 = s then 1 else if relB 2 = s then 2 else if relB 3 = s then 3 else 0
def relP (s : List UInt8) : Prop := ∃ n, 0 ≤ n ∧ n ≤ 3 ∧ relB n = s
theorem rel_none {s : List UInt8} (h0 : ¬ relB 0 = s) (h1 : ¬ relB 1 = s) (h2 : ¬ relB 2 = s) (h3 : ¬ relB 3 = s) : ¬ relP s := by
 rintro ⟨n, q1, q2, q3⟩;rcases (by omega : n = 0 ∨ n = 1 ∨ n = 2 ∨ n = 3) with rfl | rfl | rfl | rfl <;> contradiction
theorem related_fn : Tryz.cfg.fn 49 = some Tryz.f49 := Z3
theorem related_sc (tx : List UInt8)  : SC Tryz.prog 135000004004000 49 [.string (bstr tx)] (St.empty 0) fun v s' => v = .tuple #[.int .i64 (relN tx), .bool (tf (relP tx))] ∧ s'.n ≤ 400 := by
 obtain ⟨rc, hS, hC⟩ := rc_con (Z2q Tryz.cfgOk 300) [con_relation] Z3;have hC58 := hC con_relation (.head _);refine sc_ice0 (N := 400) (v2 := .tuple #[.int .i64 (relN tx), .bool (tf (relP tx))]) (Q := fun v s' => FS 0 s' v (.tuple #[.int .i64 (relN tx), .bool (tf (relP tx))]) ∧ s'.n ≤ 400) ?_ (fun _ _ h => h);refine sc_body Tryz.cfgOk related_fn rfl ?_;refine Z28 ?_;refine kK Tryz.cfgOk hS ?_;refine Z28 (Z28 ?_);refine kK Tryz.cfgOk hS ?_;refine Z2s ?_;refine sk_loop ?_;refine Z28 (Z28 ?_);refine kK Tryz.cfgOk hS ?_;refine kT ?_;refine Z2c (Z28 (Z2s (Z28 ?_)));refine Z27 Tryz.cfgOk hS ?_;refine aK 1 ?_;refine aC 58 [.int .i64 0] (.string (bstr (relB 0))) _ rfl (hC58 _ _ _ _ (con_relation_at 0  _)) ?_;refine aK 1 ?_;refine aT (fun h1 => ?_) (fun h1 => ?_)
 ·have c2e : (((bstr (relB 0)).toList == (bstr tx).toList)) = true := Eq.trans Z3 h1;clear h1;have c2 : relB 0 = tx := bstr_t c2e;clear c2e;refine Z2f ?_;refine kT ?_;refine Z28 ?_;refine kK Tryz.cfgOk hS ?_;refine Z2a ?_;exact ⟨[.int .i64 0, .bool true], Z3, .tuple (.cons (fs_to (Z2b rfl) (congrArg (Value.int .i64) Z7)) (.cons (fs_to (Z2b rfl) (congrArg Value.bool Z7)) (.nil))), Zle⟩
 ·have c2e : (((bstr (relB 0)).toList == (bstr tx).toList)) = false := Eq.trans Z3 h1;clear h1;have c2 : ¬ relB 0 = tx := bstr_f c2e;clear c2e;refine Z2f ?_;refine kF ?_;refine Z2c ?_;refine kK Tryz.cfgOk hS ?_;refine sk_loop ?_;refine Z28 (Z28 ?_);refine kK Tryz.cfgOk hS ?_;refine kT ?_;refine Z2c (Z28 (Z2s (Z28 ?_)));refine Z27 Tryz.cfgOk hS ?_;refine aK 1 ?_;refine aC 58 [.int .i64 1] (.string (bstr (relB 1))) _ rfl (hC58 _ _ _ _ (con_relation_at 1  _)) ?_;refine aK 1 ?_;refine aT (fun h3 => ?_) (fun h3 => ?_)
  ·have c4e : (((bstr (relB 1)).toList == (bstr tx).toList)) = true := Eq.trans Z3 h3;clear h3;have c4 : relB 1 = tx := bstr_t c4e;clear c4e;refine Z2f ?_;refine kT ?_;refine Z28 ?_;refine kK Tryz.cfgOk hS ?_;refine Z2a ?_;exact ⟨[.int .i64 1, .bool true], Z3, .tuple (.cons (fs_to (Z2b rfl) (congrArg (Value.int .i64) Z7)) (.cons (fs_to (Z2b rfl) (congrArg Value.bool Z7)) (.nil))), Zle⟩
  ·have c4e : (((bstr (relB 1)).toList == (bstr tx).toList)) = false := Eq.trans Z3 h3;clear h3;have c4 : ¬ relB 1 = tx := bstr_f c4e;clear c4e;refine Z2f ?_;refine kF ?_;refine Z2c ?_;refine kK Tryz.cfgOk hS ?_;refine sk_loop ?_;refine Z28 (Z28 ?_);refine kK Tryz.cfgOk hS ?_;refine kT ?_;refine Z2c (Z28 (Z2s (Z28 ?_)));refine Z27 Tryz.cfgOk hS ?_;refine aK 1 ?_;refine aC 58 [.int .i64 2] (.string (bstr (relB 2))) _ rfl (hC58 _ _ _ _ (con_relation_at 2  _)) ?_;refine aK 1 ?_;refine aT (fun h5 => ?_) (fun h5 => ?_)
   ·have c6e : (((bstr (relB 2)).toList == (bstr tx).toList)) = true := Eq.trans Z3 h5;clear h5;have c6 : relB 2 = tx := bstr_t c6e;clear c6e;refine Z2f ?_;refine kT ?_;refine Z28 ?_;refine kK Tryz.cfgOk hS ?_;refine Z2a ?_;exact ⟨[.int .i64 2, .bool true], Z3, .tuple (.cons (fs_to (Z2b rfl) (congrArg (Value.int .i64) Z7)) (.cons (fs_to (Z2b rfl) (congrArg Value.bool Z7)) (.nil))), Zle⟩
   ·have c6e : (((bstr (relB 2)).toList == (bstr tx).toList)) = false := Eq.trans Z3 h5;clear h5;have c6 : ¬ relB 2 = tx := bstr_f c6e;clear c6e;refine Z2f ?_;refine kF ?_;refine Z2c ?_;refine kK Tryz.cfgOk hS ?_;refine sk_loop ?_;refine Z28 (Z28 ?_);refine kK Tryz.cfgOk hS ?_;refine kT ?_;refine Z2c (Z28 (Z2s (Z28 ?_)));refine Z27 Tryz.cfgOk hS ?_;refine aK 1 ?_;refine aC 58 [.int .i64 3] (.string (bstr (relB 3))) _ rfl (hC58 _ _ _ _ (con_relation_at 3  _)) ?_;refine aK 1 ?_;refine aT (fun h7 => ?_) (fun h7 => ?_)
    ·have c8e : (((bstr (relB 3)).toList == (bstr tx).toList)) = true := Eq.trans Z3 h7;clear h7;have c8 : relB 3 = tx := bstr_t c8e;clear c8e;refine Z2f ?_;refine kT ?_;refine Z28 ?_;refine kK Tryz.cfgOk hS ?_;refine Z2a ?_;exact ⟨[.int .i64 3, .bool true], Z3, .tuple (.cons (fs_to (Z2b rfl) (congrArg (Value.int .i64) Z7)) (.cons (fs_to (Z2b rfl) (congrArg Value.bool Z7)) (.nil))), Zle⟩
    ·have c8e : (((bstr (relB 3)).toList == (bstr tx).toList)) = false := Eq.trans Z3 h7;clear h7;have c8 : ¬ relB 3 = tx := bstr_f c8e;clear c8e;refine Z2f ?_;refine kF ?_;refine Z2c ?_;refine kK Tryz.cfgOk hS ?_;refine sk_loop ?_;refine Z28 (Z28 ?_);refine kK Tryz.cfgOk hS ?_;refine kF ?_;refine sk_exit ?_;dsimp only;try rw [if_pos rfl]
     refine Z28 ?_;refine kK Tryz.cfgOk hS ?_;refine Z2a ?_;exact ⟨[.int .i64 0, .bool false], Z3, .tuple (.cons (fs_to (Z2b rfl) (congrArg (Value.int .i64) Z7)) (.cons (fs_to (Z2b rfl) (congrArg Value.bool Z7)) (.nil))), Zle⟩
noncomputable def con_related : Con Tryz.prog 135000004004000 := Con.pure (α := (List UInt8)) 49 (fun z9 => [.string (bstr z9)]) (fun z9 => .tuple #[.int .i64 (relN z9), .bool (tf (relP z9))]) (fun z9 => True) (by
 intro x y h
 simp only [injA, bstr_iff] at h
 first | exact h | (simp only [Prod.ext_iff, h, and_self, and_true, true_and]; done) | simp_all [Prod.ext_iff]) (fun _ => rfl) (fun _ => rfl) 400 (by
 rintro x _
 exact related_sc x )
theorem con_related_at (tx : List UInt8)  (s : St) : con_related.rel [.string (bstr tx)] s (.tuple #[.int .i64 (relN tx), .bool (tf (relP tx))]) s := con_pure tx trivial s
noncomputable def takN (x : UInt8) (s : List UInt8) : Int := if x.toNat = 97 ∨ x.toNat = 98 ∨ x.toNat = 99 then atN (cutR [114] s) else if x.toNat = 116 then atN (cutR [116] s) else if x.toNat = 106 then relN s else atN s
def takP (x : UInt8) (s : List UInt8) : Prop := if x.toNat = 97 ∨ x.toNat = 98 ∨ x.toNat = 99 then markP [114] s else if x.toNat = 116 then markP [116] s else if x.toNat = 106 then relP s else numP s
theorem taken_fn : Tryz.cfg.fn 29 = some Tryz.f29 := Z3
theorem taken_sc (tx : List UInt8) (x : UInt8) (h0 : tx.length ≤ 100000) : SC Tryz.prog 135000004004000 29 [.string (bstr tx), .int .u8 ((x.toNat : Nat) : Int)] (St.empty 0) fun v s' => v = .tuple #[.int .i64 (takN x tx), .bool (tf (takP x tx))] ∧ s'.n ≤ 400 := by
 obtain ⟨rc, hS, hC⟩ := rc_con (Z2q Tryz.cfgOk 300) [con_marked, con_related, con_number] Z3;have hC13 := hC con_marked (.head _);have hC49 := hC con_related (.tail _ (.head _));have hC26 := hC con_number (.tail _ (.tail _ (.head _)));refine sc_ice0 (N := 400) (v2 := .tuple #[.int .i64 (takN x tx), .bool (tf (takP x tx))]) (Q := fun v s' => FS 0 s' v (.tuple #[.int .i64 (takN x tx), .bool (tf (takP x tx))]) ∧ s'.n ≤ 400) ?_ (fun _ _ h => h);refine sc_body Tryz.cfgOk taken_fn rfl ?_;refine Z28 ?_;refine kK Tryz.cfgOk hS ?_;refine Z28 (Z28 ?_);refine kK Tryz.cfgOk hS ?_;refine Z2s (Z28 (Z28 ?_));refine Z27 Tryz.cfgOk hS ?_;refine aT (fun h1 => ?_) (fun h1 => ?_)
 ·have c2e : ((((x.toNat : Nat) : Int) : Int) == 97) = true := Eq.trans Z3 h1;clear h1;have c2 : (((x.toNat : Nat) : Int) : Int) = 97 := eq_of_beq c2e;clear c2e;refine aN ?_;refine kT ?_;refine Z2c ?_;refine kT ?_;refine Z28 ?_;refine Z27 Tryz.cfgOk hS ?_;refine aK 1 ?_;refine aC 13 [.string (bstr tx), .string (bstr [114])] (.tuple #[.int .i64 (atN (cutR ([114]) tx)), .bool (tf (markP ([114]) tx))]) _ rfl (hC13 _ _ _ _ (con_marked_at tx ([114]) Z1h _)) ?_;refine aN ?_;refine Z2a ?_;exact ⟨[.int .i64 (atN (cutR ([114]) tx)), .bool (tf (markP ([114]) tx))], Z3, .tuple (.cons (fs_to (Z2b rfl) (congrArg (Value.int .i64) Za)) (.cons (fs_to (Z2b rfl) (congrArg Value.bool Za)) (.nil))), Zle⟩
 ·have c2e : ((((x.toNat : Nat) : Int) : Int) == 97) = false := Eq.trans Z3 h1;clear h1;have c2 : ¬ (((x.toNat : Nat) : Int) : Int) = 97 := ne_of_beq_false c2e;clear c2e;refine aN ?_;refine kF ?_;refine Z28 ?_;refine Z27 Tryz.cfgOk hS ?_;refine aT (fun h3 => ?_) (fun h3 => ?_)
  ·have c4e : ((((x.toNat : Nat) : Int) : Int) == 98) = true := Eq.trans Z3 h3;clear h3;have c4 : (((x.toNat : Nat) : Int) : Int) = 98 := eq_of_beq c4e;clear c4e;refine aN ?_;refine kT ?_;refine Z2c ?_;refine kT ?_;refine Z28 ?_;refine Z27 Tryz.cfgOk hS ?_;refine aK 1 ?_;refine aC 13 [.string (bstr tx), .string (bstr [114])] (.tuple #[.int .i64 (atN (cutR ([114]) tx)), .bool (tf (markP ([114]) tx))]) _ rfl (hC13 _ _ _ _ (con_marked_at tx ([114]) Z1h _)) ?_;refine aN ?_;refine Z2a ?_;exact ⟨[.int .i64 (atN (cutR ([114]) tx)), .bool (tf (markP ([114]) tx))], Z3, .tuple (.cons (fs_to (Z2b rfl) (congrArg (Value.int .i64) Za)) (.cons (fs_to (Z2b rfl) (congrArg Value.bool Za)) (.nil))), Zle⟩
  ·have c4e : ((((x.toNat : Nat) : Int) : Int) == 98) = false := Eq.trans Z3 h3;clear h3;have c4 : ¬ (((x.toNat : Nat) : Int) : Int) = 98 := ne_of_beq_false c4e;clear c4e;refine aN ?_;refine kF ?_;refine Z27 Tryz.cfgOk hS ?_;refine aT (fun h5 => ?_) (fun h5 => ?_)
   ·have c6e : ((((x.toNat : Nat) : Int) : Int) == 99) = true := Eq.trans Z3 h5;clear h5;have c6 : (((x.toNat : Nat) : Int) : Int) = 99 := eq_of_beq c6e;clear c6e;refine aN ?_;refine kT ?_;refine Z28 ?_;refine Z27 Tryz.cfgOk hS ?_;refine aK 1 ?_;refine aC 13 [.string (bstr tx), .string (bstr [114])] (.tuple #[.int .i64 (atN (cutR ([114]) tx)), .bool (tf (markP ([114]) tx))]) _ rfl (hC13 _ _ _ _ (con_marked_at tx ([114]) Z1h _)) ?_;refine aN ?_;refine Z2a ?_;exact ⟨[.int .i64 (atN (cutR ([114]) tx)), .bool (tf (markP ([114]) tx))], Z3, .tuple (.cons (fs_to (Z2b rfl) (congrArg (Value.int .i64) Za)) (.cons (fs_to (Z2b rfl) (congrArg Value.bool Za)) (.nil))), Zle⟩
   ·have c6e : ((((x.toNat : Nat) : Int) : Int) == 99) = false := Eq.trans Z3 h5;clear h5;have c6 : ¬ (((x.toNat : Nat) : Int) : Int) = 99 := ne_of_beq_false c6e;clear c6e;refine aN ?_;refine kF ?_;refine Z28 ?_;refine Z27 Tryz.cfgOk hS ?_;refine aT (fun h7 => ?_) (fun h7 => ?_)
    ·have c8e : ((((x.toNat : Nat) : Int) : Int) == 116) = true := Eq.trans Z3 h7;clear h7;have c8 : (((x.toNat : Nat) : Int) : Int) = 116 := eq_of_beq c8e;clear c8e;refine aN ?_;refine kT ?_;refine Z28 ?_;refine Z27 Tryz.cfgOk hS ?_;refine aK 1 ?_;refine aC 13 [.string (bstr tx), .string (bstr [116])] (.tuple #[.int .i64 (atN (cutR ([116]) tx)), .bool (tf (markP ([116]) tx))]) _ rfl (hC13 _ _ _ _ (con_marked_at tx ([116]) Z1h _)) ?_;refine aN ?_;refine Z2a ?_;exact ⟨[.int .i64 (atN (cutR ([116]) tx)), .bool (tf (markP ([116]) tx))], Z3, .tuple (.cons (fs_to (Z2b rfl) (congrArg (Value.int .i64) Za)) (.cons (fs_to (Z2b rfl) (congrArg Value.bool Za)) (.nil))), Zle⟩
    ·have c8e : ((((x.toNat : Nat) : Int) : Int) == 116) = false := Eq.trans Z3 h7;clear h7;have c8 : ¬ (((x.toNat : Nat) : Int) : Int) = 116 := ne_of_beq_false c8e;clear c8e;refine aN ?_;refine kF ?_;refine Z28 ?_;refine Z27 Tryz.cfgOk hS ?_;refine aT (fun h9 => ?_) (fun h9 => ?_)
     ·have c10e : ((((x.toNat : Nat) : Int) : Int) == 106) = true := Eq.trans Z3 h9;clear h9;have c10 : (((x.toNat : Nat) : Int) : Int) = 106 := eq_of_beq c10e;clear c10e;refine aN ?_;refine kT ?_;refine Z28 ?_;refine Z27 Tryz.cfgOk hS ?_;refine aK 1 ?_;refine aC 49 [.string (bstr tx)] (.tuple #[.int .i64 (relN tx), .bool (tf (relP tx))]) _ rfl (hC49 _ _ _ _ (con_related_at tx  _)) ?_;refine aN ?_;refine Z2a ?_;exact ⟨[.int .i64 (relN tx), .bool (tf (relP tx))], Z3, .tuple (.cons (fs_to (Z2b rfl) (congrArg (Value.int .i64) Za)) (.cons (fs_to (Z2b rfl) (congrArg Value.bool Za)) (.nil))), Zle⟩
     ·have c10e : ((((x.toNat : Nat) : Int) : Int) == 106) = false := Eq.trans Z3 h9;clear h9;have c10 : ¬ (((x.toNat : Nat) : Int) : Int) = 106 := ne_of_beq_false c10e;clear c10e;refine aN ?_;refine kF ?_;refine Z2c (Z28 ?_);refine Z27 Tryz.cfgOk hS ?_;refine aK 1 ?_;refine aC 26 [.string (bstr tx)] (.tuple #[.int .i64 (atN tx), .bool (tf (numP tx))]) _ rfl (hC26 _ _ _ _ (con_number_at tx Z1h _)) ?_;refine aN ?_;refine Z2a ?_;exact ⟨[.int .i64 (atN tx), .bool (tf (numP tx))], Z3, .tuple (.cons (fs_to (Z2b rfl) (congrArg (Value.int .i64) Za)) (.cons (fs_to (Z2b rfl) (congrArg Value.bool Za)) (.nil))), Zle⟩
noncomputable def con_taken : Con Tryz.prog 135000004004000 := Con.pure (α := (List UInt8) × UInt8) 29 (fun z9 => [.string (bstr z9.1), .int .u8 ((z9.2.toNat : Nat) : Int)]) (fun z9 => .tuple #[.int .i64 (takN z9.2 z9.1), .bool (tf (takP z9.2 z9.1))]) (fun z9 => (z9.1.length ≤ 100000)) (by
 rintro ⟨a0, a1⟩ ⟨b0, b1⟩ h
 simp only [injA, bstr_iff] at h
 first | exact h | (simp only [Prod.ext_iff, h, and_self, and_true, true_and]; done) | simp_all [Prod.ext_iff]) (fun _ => rfl) (fun _ => rfl) 400 (by
 rintro ⟨a0, a1⟩ p0
 exact taken_sc a0 a1 p0)
theorem con_taken_at (tx : List UInt8) (x : UInt8) (h0 : tx.length ≤ 100000) (s : St) : con_taken.rel [.string (bstr tx), .int .u8 ((x.toNat : Nat) : Int)] s (.tuple #[.int .i64 (takN x tx), .bool (tf (takP x tx))]) s := con_pure (tx, x) h0 s
theorem taken_t {tx : List UInt8} {x : UInt8} (h : takP x tx) : (.tuple #[.int .i64 (takN x tx), .bool (tf (takP x tx))] : Value) = .tuple #[.int .i64 (takN x tx), .bool true] := Z20
theorem taken_f {tx : List UInt8} {x : UInt8} (h : ¬ (takP x tx)) : (.tuple #[.int .i64 (takN x tx), .bool (tf (takP x tx))] : Value) = .tuple #[.int .i64 (takN x tx), .bool false] := Z1v
theorem marked_t {tx : List UInt8} {m : List UInt8} (h : markP m tx) : (.tuple #[.int .i64 (atN (cutR m tx)), .bool (tf (markP m tx))] : Value) = .tuple #[.int .i64 (atN (cutR m tx)), .bool true] := Z20
theorem marked_f {tx : List UInt8} {m : List UInt8} (h : ¬ (markP m tx)) : (.tuple #[.int .i64 (atN (cutR m tx)), .bool (tf (markP m tx))] : Value) = .tuple #[.int .i64 (atN (cutR m tx)), .bool false] := Z1v
def opN (s : List UInt8) : Int := fidx (fun x : List UInt8 => x = s) wordsL
theorem opw_fn : Tryz.cfg.fn 27 = some Tryz.f27 := Z3
theorem opw_sc (tx : List UInt8)  : SC Tryz.prog 135000004004000 27 [.string (bstr tx)] (St.empty 0) fun v s' => v = .int .i64 (opN tx) ∧ s'.n ≤ 400 := by
 obtain ⟨rc, hS, hC⟩ := rc_con (Z2q Tryz.cfgOk 300) [con_splitw] Z3;have hC24 := hC con_splitw (.head _);refine sc_ice0 (N := 400) (v2 := .int .i64 (opN tx)) (Q := fun v s' => FS 0 s' v (.int .i64 (opN tx)) ∧ s'.n ≤ 400) ?_ (fun _ _ h => h);refine sc_body Tryz.cfgOk opw_fn rfl ?_;refine Z28 ?_;refine kK Tryz.cfgOk hS ?_;refine Z28 (Z28 ?_);refine Z27 Tryz.cfgOk hS ?_;refine aC 24 [.string (bstr [115, 101, 116, 32, 109, 111, 118, 101, 32, 97, 100, 100, 32, 115, 117, 98, 32, 109, 117, 108, 32, 100, 105, 118, 32, 109, 111, 100, 32, 103, 101, 116, 32, 104, 97, 115, 32, 112, 117, 116, 32, 100, 101, 108, 32, 115, 117, 109, 32, 99, 111, 117, 110, 116, 32, 115, 107, 105, 112, 32, 97, 98, 111, 114, 116, 32, 111, 117, 116]), .string (bstr [32])] (slL 0 1 wordsL.length) _ rfl (hC24 _ _ _ _ (con_splitw_at  0  _ Z3 Z3 )) ?_;refine aN ?_;refine Z2s ?_;refine sk_live 17 ((fun a : Nat => [(0, .string (bstr tx)), (5, slL 0 1 wordsL.length), (6, .int .i64 ((wordsL.length : Nat) : Int)), (7, .int .i64 ((a : Nat) : Int))]) 0) Z3 ⟨Z3, Z3, Z3, Z3, trivial⟩ fun m1 => ?_
 refine sk_st ((fun a : Nat => ((St.empty 0).new (rowL Z2h wordsL))) 0) Z3 ?_;refine (sk_while (k := 1) (N := 400) (live := (fun a : Nat => [(0, .string (bstr tx)), (5, slL 0 1 wordsL.length), (6, .int .i64 ((wordsL.length : Nat) : Int)), (7, .int .i64 ((a : Nat) : Int))])) (M := (fun a : Nat => ((St.empty 0).new (rowL Z2h wordsL)))) (fun a : Nat => (a ≤ wordsL.length) ∧ (NoHit (fun x : List UInt8 => x = tx) wordsL a) ∧ (wordsL.length = 16)) (fun a : Nat => wordsL.length - a) (fun (a : Nat) (o : Out) (lv : List (Nat × Value)) (M : St) => (o = .exit 0 ∧ (¬ a < wordsL.length) ∧ lv = [(0, .string (bstr tx)), (5, slL 0 1 wordsL.length), (6, .int .i64 ((wordsL.length : Nat) : Int)), (7, .int .i64 ((a : Nat) : Int))] ∧ M = ((St.empty 0).new (rowL Z2h wordsL))) ∨ (o = .ret ∧ (∃ x : List UInt8, wordsL[a]? = some x ∧ (x = tx)) ∧ lv = [(2, .int .i64 ((a : Nat) : Int))] ∧ M = ((St.empty 0).new (rowL Z2h wordsL)))) (Nat.zero_le _) (fun a ha => ?_) (fun a ha => ?_) (fun a m ha => ?_) (fun a m ha => ?_) 0 m1 ?_).up ?_
 ·exact ⟨Z3, ((Z2d 0).new _), (selfs (all_cons (o := rowL Z2h wordsL) Z3 (OSub.arr (subs_clo (Z2o tcells_clo))) (Z2g)))⟩
 ·exact ⟨sub_clo rfl, .slice ⟨Zj, rfl⟩, sub_clo rfl, sub_clo rfl, trivial⟩
 ·exact ⟨Z3, Z3, Z3, Z3, trivial⟩
 ·obtain ⟨i, ea⟩ : ∃ z, z = a := ⟨_, rfl⟩;subst ea;obtain ⟨i0, i1, i2⟩ := ha;refine Z28 ?_;refine Z27 Tryz.cfgOk hS ?_;refine aT (fun h2 => ?_) (fun h2 => ?_)
  ·have c3e : (decide ((((i : Nat) : Int) : Int) < ((wordsL.length : Nat) : Int))) = true := Eq.trans Z3 h2;clear h2;have c3 : (((i : Nat) : Int) : Int) < ((wordsL.length : Nat) : Int) := of_decide_eq_true c3e;clear c3e;refine Z2f ?_;refine Z28 ?_;refine kT ?_;refine Z2c (Z28 (Z2s (Z28 ?_)));refine Z27 Tryz.cfgOk hS ?_;refine aK 1 ?_;refine aM (indexAddrV Tryz.cfg 41 (slL 0 1 wordsL.length) (.int .i64 ((i : Nat) : Int))) (.pointer (some ⟨0, i * 1, some (wordsL.length * 1)⟩)) (idx_rowL Z3 Z4) ?_;have hx4l : i < wordsL.length := by have := wordsL_len; omega
   refine Exists.elim (get_ex hx4l) fun x4 hx4 => ?_
   clear hx4l;refine aM (loadV Tryz.cfg ((St.empty 0).new (rowL Z2h wordsL)) 9 (.pointer (some ⟨0, i * 1, some (wordsL.length * 1)⟩))) (.string (bstr x4)) (load_rowL1 (o := 0) (l := wordsL) Z3 tcells_len Z3 hx4 rfl) ?_;refine aN ?_;refine Z28 ?_;refine Z27 Tryz.cfgOk hS ?_;refine aK 2 ?_;refine aT (fun h5 => ?_) (fun h5 => ?_)
   ·have c6e : (((bstr x4).toList == (bstr tx).toList)) = true := Eq.trans Z3 h5;clear h5;have c6 : x4 = tx := bstr_t c6e;clear c6e;refine Z2f ?_;refine kT ?_;refine Z28 ?_;refine kK Tryz.cfgOk hS ?_;refine Z2a ?_;refine .inr ⟨_, _, (fun h => Z02), .inr ⟨rfl, ?_, rfl, rfl⟩, ⟨Z3, ⟨Z3, trivial⟩, ⟨sub_clo rfl, trivial⟩, Zle, ⟨Z3, ((Z2d 0).new _), (selfs (all_cons (o := rowL Z2h wordsL) Z3 (OSub.arr (subs_clo (Z2o tcells_clo))) (Z2g)))⟩, Z2n Z3⟩⟩
    ·first | exact ⟨_, Z2, by first | assumption | omega | exact Or.inl Z2 | exact Or.inr Z2 | exact fun h => h.elim Z2 Z2 | (simp_all; done)⟩ | exact ⟨_, Z2, by first | assumption | omega | exact Or.inl Z2 | exact Or.inr Z2 | exact fun h => h.elim Z2 Z2 | (simp_all; done), rfl⟩
   ·have c6e : (((bstr x4).toList == (bstr tx).toList)) = false := Eq.trans Z3 h5;clear h5;have c6 : ¬ x4 = tx := bstr_f c6e;clear c6e;refine Z2f ?_;refine kF ?_;refine Z2c ?_;refine Z27 Tryz.cfgOk hS ?_;refine aE (v := .int .i64 (IntKind.wrap .i64 (((i : Nat) : Int) + 1))) (.int .i64 ((i + 1 : Nat) : Int)) (congrArg (Value.int .i64) (Z2t Z4 Z4)) ?_;refine aN ?_;refine .inl ⟨i + 1, rfl, ⟨?_, ?_, ?_⟩, ?_, ⟨Z3, ⟨Z3, Z3, Z3, Z3, trivial⟩, ⟨sub_clo rfl, .slice ⟨Zj, rfl⟩, sub_clo rfl, sub_clo rfl, trivial⟩, Zle, ⟨Z3, ((Z2d 0).new _), (selfs (all_cons (o := rowL Z2h wordsL) Z3 (OSub.arr (subs_clo (Z2o tcells_clo))) (Z2g)))⟩, Z2n Z3⟩⟩
    ·(try dsimp only); omega
    ·(try dsimp only); exact NoHit.succ (p := (fun x : List UInt8 => x = tx)) Z2 Z2 (by first | assumption | omega | exact fun h => h.elim Z2 Z2 | (simp_all; done))
    ·(try dsimp only); exact wordsL_len
    ·omega
  ·have c3e : (decide ((((i : Nat) : Int) : Int) < ((wordsL.length : Nat) : Int))) = false := Eq.trans Z3 h2;clear h2;have c3 : ¬ (((i : Nat) : Int) : Int) < ((wordsL.length : Nat) : Int) := of_decide_eq_false c3e;clear c3e;refine Z2f ?_;refine Z28 ?_;refine kF ?_;refine sk_exit ?_;dsimp only;refine .inr ⟨_, _, (fun h => Z02), .inl ⟨rfl, ?_, rfl, rfl⟩, ⟨Z3, ⟨Z3, Z3, Z3, Z3, trivial⟩, ⟨sub_clo rfl, .slice ⟨Zj, rfl⟩, sub_clo rfl, sub_clo rfl, trivial⟩, Zle, ⟨Z3, ((Z2d 0).new _), (selfs (all_cons (o := rowL Z2h wordsL) Z3 (OSub.arr (subs_clo (Z2o tcells_clo))) (Z2g)))⟩, Z2n Z3⟩⟩
   ·omega
 ·exact ⟨Zx, Z1r, by ((try dsimp only); first | done | (exact wordsL_len))⟩
 rintro o e1 s1 ⟨a, lv1, M1, m1, ha, (⟨rfl, hx, rfl, rfl⟩ | ⟨rfl, hx, rfl, rfl⟩), rfl, rfl⟩
 ·
  obtain ⟨i, ea⟩ : ∃ z, z = a := ⟨_, rfl⟩;subst ea;obtain ⟨i0, i1, i2⟩ := ha;dsimp only;try rw [if_pos rfl]
  refine Z28 ?_;refine kK Tryz.cfgOk hS ?_;refine Z2a ?_;exact ⟨[.int .i64 (-1)], Z3, fs_to (Z2b rfl) (congrArg (Value.int .i64) Z0o), Zle⟩
 ·
  obtain ⟨i, ea⟩ : ∃ z, z = a := ⟨_, rfl⟩;subst ea;obtain ⟨i0, i1, i2⟩ := ha;dsimp only;exact ⟨[.int .i64 ((i : Nat) : Int)], Z3, fs_to (Z2b rfl) (congrArg (Value.int .i64) Z0o), Zle⟩
noncomputable def con_opw : Con Tryz.prog 135000004004000 := Con.pure (α := (List UInt8)) 27 (fun z9 => [.string (bstr z9)]) (fun z9 => .int .i64 (opN z9)) (fun z9 => True) (by
 intro x y h
 simp only [injA, bstr_iff] at h
 first | exact h | (simp only [Prod.ext_iff, h, and_self, and_true, true_and]; done) | simp_all [Prod.ext_iff]) (fun _ => rfl) (fun _ => rfl) 400 (by
 rintro x _
 exact opw_sc x )
theorem con_opw_at (tx : List UInt8)  (s : St) : con_opw.rel [.string (bstr tx)] s (.int .i64 (opN tx)) s := con_pure tx trivial s
end Go.Proofs.YtgplkbfjlidinabGreatDoor