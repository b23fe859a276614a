/- The reader of bytes. -/
import Derived.Test.YtekeepgjegkedaaRefCount
import Derived.Test.YtekeepgjegkedaaAiCon
import Derived.Test.YtekeepgjegkedaaKit
set_option linter.unusedVariables false
set_option linter.unusedSimpArgs false
set_option linter.unnecessarySimpa false
set_option maxHeartbeats 4000000
set_option maxRecDepth 100000
namespace Go.Proofs.Ytekeepgjegkedaa
open Go.Ai
def tkV (b : List UInt8) (bad : Bool) : List UInt8 := if bad then [] else b.take 1
def tkO (b : List UInt8) (bad : Bool) : Bool := !bad && !b.isEmpty
def tkR (b : List UInt8) (bad : Bool) : List UInt8 := if bad then b else b.drop 1
def tkB (b : List UInt8) (bad : Bool) : Bool := bad || b.isEmpty
theorem rfail_fn : Try.cfg.fn 90 = some Try.f90 := Z0
theorem rfail_sc (b : List UInt8) (bad : Bool)  : SC Try.prog 0 90 [.pointer (some ⟨0, 0, none⟩)] ((St.empty 0).new (.cells [inlL Z1n 1 b, .bool bad])) fun v s' => v = .tuple #[] ∧ s'.n ≤ 400 ∧ ∀ a, a < 1 → s'.get a = some (objL [.cells [.slice none 0 0, .bool true]] a) := by
 have hS := Z20 Try.cfgOk 300;refine sc_body Try.cfgOk rfail_fn rfl ?_;refine Z1q ?_;refine kK Try.cfgOk hS ?_;refine kT ?_;refine kK Try.cfgOk hS ?_;exact ⟨[], Z0, rfl, Zle, all1 Z0⟩
noncomputable def sm_rfail : Small Try.prog 0 90 ((List UInt8) × Bool) where
 k := 1
 A := fun z9 ρ => [.pointer (some ⟨(ρ 0), 0, none⟩)]
 M := fun z9 ρ => objL [.cells [inlL Z1n 1 z9.1, .bool z9.2]]
 M1 := fun z9 ρ => objL [.cells [inlL Z1n 1 ([] : List UInt8), .bool true]]
 V := fun z9 ρ => .tuple #[]
 M1s := fun z9 => objL [.cells [.slice none 0 0, .bool true]]
 Pre := fun z9 => True
 ch := [0]
 N := 400
 s0 := fun z9 => ((St.empty 0).new (.cells [inlL Z1n 1 z9.1, .bool z9.2]))
 hch := by decide
 hsame := fun x ρ => all1 (fun h => absurd (by decide) h)
 hG := rfl
 hn := fun x => rfl
 hwf := fun x => ((Z1r 0).new _)
 hget := fun x => all1 (by kernel_rfl)
 noloop := fun x ρ => all1 (fun h => h.elim)
 inA := fun x ρ R hR => .cons (.ptr (hR 0 _ (by decide))) .nil
 inM := fun x ρ R hR => all1 (OSub.cells (.cons (sub_clo rfl) (.cons (sub_clo rfl) .nil)))
 outM := fun x ρ R hR => all1 (OSub.cells (.cons (sub_nil (by decide)) (.cons (sub_clo rfl) .nil)))
 outV := fun x ρ R hR => .tuple .nil
 dom := by
  intro x ρ a ha
  obtain rfl := List.mem_singleton.1 ha
  refine .inl fun β y h => ?_
  obtain ⟨_, _, _, h, _⟩ := h.cons_inv
  exact h.dom_ptr
 sc := by
  rintro ⟨a0, a1⟩ _
  exact rfail_sc a0 a1
 det := by
  rintro ⟨a0, a1⟩ ρ ⟨b0, b1⟩ σ s h hm hm'
  simp only [injA, injB, Z26] at h
  have q0 : ρ 0 = σ 0 := by simp_all
  have e0 := (hm 0 (by decide)).symm.trans ((congrArg s.get q0).trans (hm' 0 (by decide)))
  simp only [objL, List.getD_cons_zero, List.getD_cons_succ, injA, injB, Z26] at e0
  have q : ∀ a, a < 1 → ρ a = σ a := all1 q0
  clear hm hm'
  exact ⟨by first | rfl | (simp_all [Prod.ext_iff]; done) | exact e0, q⟩
 par := by
  intro x ρ σ h
  have h0 := h 0 (by decide)
  exact ⟨by first | rfl | simp only [h0], by first | exact fun _ _ => rfl | (intro a ha; simp only [h0])⟩
noncomputable def con_rfail : Con Try.prog 0 := sm_rfail.con
theorem con_rfail_at (b : List UInt8) (bad : Bool) (i0 : Nat)  (s : St) (hn : nodupB [i0] = true) (m0 : s.get i0 = some (.cells [inlL Z1n 1 b, .bool bad])) : con_rfail.rel [.pointer (some ⟨i0, 0, none⟩)] s (.tuple #[]) (s.set i0 (.cells [inlL Z1n 1 ([] : List UInt8), .bool true])) :=
 sm_rfail.at_ (b, bad) [i0] s _ trivial rfl hn rfl (all1 m0) rfl rfl
theorem rtake_fn : Try.cfg.fn 89 = some Try.f89 := Z0
theorem rtake_sc (b : List UInt8) (bad : Bool) (h0 : b.length ≤ 1000000000) : SC Try.prog 0 89 [.pointer (some ⟨0, 0, none⟩), .int .u64 1] ((St.empty 0).new (.cells [inlL Z1n 1 b, .bool bad])) fun v s' => v = .tuple #[inlL Z1n 1 (tkV b bad), .bool (tkO b bad)] ∧ s'.n ≤ 400 ∧ ∀ a, a < 1 → s'.get a = some (objL [.cells [inlL Z1n 1 (tkR b bad), .bool (tkB b bad)]] a) := by
 obtain ⟨rc, hS, hC⟩ := rc_con (Z20 Try.cfgOk 300) [con_rfail] Z0;have hC90 := hC con_rfail (.head _);cases bad
 ·
  refine sc_iceK (k := 1) (N := 400) (v2 := .tuple #[inlL Z1n 1 (tkV b false), .bool (tkO b false)]) (Ms := objL [.cells [inlL Z1n 1 (tkR b false), .bool (tkB b false)]]) rfl ?_ (all1 (OSub.cells (.cons (sub_clo rfl) (.cons (sub_clo rfl) .nil))));refine sc_body Try.cfgOk rtake_fn rfl ?_;refine Z1q ?_;refine kK Try.cfgOk hS ?_;refine Z1q (Z1q ?_);refine kK Try.cfgOk hS ?_;refine kF ?_;refine Z21 (Z1q (Z1q ?_));refine Z1p Try.cfgOk hS ?_;refine aK 5 ?_;refine aM (lenB Try.cfg (St.empty 0) 42 (inlL Z1n 1 b)) (.int .i64 ((b.length : Nat) : Int)) (len_inl tokC Z0) ?_;refine aE (v := .int .u64 (IntKind.wrap .u64 ((b.length : Nat) : Int))) (.int .u64 ((b.length : Nat) : Int)) (congrArg (Value.int .u64) ((wrap_u64 _).trans (congrArg Nat.cast (u64_nat Z0d)))) ?_;refine aT (fun h1 => ?_) (fun h1 => ?_)
  ·have c2e : (decide ((1 : Int) > ((b.length : Nat) : Int))) = true := Eq.trans Z0 h1;clear h1;have c2 : (1 : Int) > ((b.length : Nat) : Int) := of_decide_eq_true c2e;clear c2e;refine Z24 ?_;refine kT ?_;refine Z1q ?_;refine Z1p Try.cfgOk hS ?_;refine aK 1 ?_;refine aC 90 [.pointer (some ⟨0, 0, none⟩)] (.tuple #[]) _ rfl (hC90 _ _ _ _ (con_rfail_at b false 0  _ Z0 Z0 )) ?_;refine Z24 ?_;refine Z1q ?_;refine kK Try.cfgOk hS ?_;refine Z1v ?_;exact ⟨[.slice none 0 0, .bool false], Z0, .tuple (.cons (fs_to (fs_nilL (f := Z1n) (sz := 1) Z9) (congrArg (inlL Z1n 1) Zj)) (.cons (fs_to (fs_clo rfl) (congrArg Value.bool Zj)) (.nil))), Zle, all1 (Eq.trans (b := some (.cells [inlL Z1n 1 ([] : List UInt8), .bool true])) Z0 (congrArg some (show ((.cells [inlL Z1n 1 ([] : List UInt8), .bool true]) : AObj) = .cells [inlL Z1n 1 (tkR b false), .bool (tkB b false)] by first | rfl | (have q : b = [] := List.eq_nil_of_length_eq_zero Z5; subst q; rfl) | (cases b; (simp at *; done); rfl) | (cases b with | nil => simp at * | cons c r => rfl))))⟩
  ·have c2e : (decide ((1 : Int) > ((b.length : Nat) : Int))) = false := Eq.trans Z0 h1;clear h1;have c2 : ¬ (1 : Int) > ((b.length : Nat) : Int) := of_decide_eq_false c2e;clear c2e;refine Z24 ?_;refine kF ?_;refine Z21 (Z1q ?_);refine Z1p Try.cfgOk hS ?_;refine aK 6 ?_;refine aM (sliceV Try.cfg 42 (inlL Z1n 1 b) none (some (.int .u64 1)) (some (.int .u64 1))) (inlL Z1n 1 (b.take 1)) (cut_hi3 tokC Z0 Z1z (h := 1) Z5 Z5) ?_;refine aN ?_;refine Z1q ?_;refine Z1p Try.cfgOk hS ?_;refine aK 6 ?_;refine aM (sliceV Try.cfg 42 (inlL Z1n 1 b) (some (.int .u64 1)) none none) (inlL Z1n 1 (b.drop 1)) (cut_lo (m := 1) tokC Z0 Z1z Z5) ?_;refine aN ?_;refine Z1q ?_;refine kK Try.cfgOk hS ?_;refine Z1v ?_;exact ⟨[inlL Z1n 1 (b.take 1), .bool true], Z0, .tuple (.cons (fs_to (fs_clo rfl) (congrArg (inlL Z1n 1) Zj)) (.cons (fs_to (fs_clo rfl) (congrArg Value.bool Zj)) (.nil))), Zle, all1 (Eq.trans (b := some (.cells [inlL Z1n 1 (b.drop 1), .bool false])) Z0 (congrArg some (show ((.cells [inlL Z1n 1 (b.drop 1), .bool false]) : AObj) = .cells [inlL Z1n 1 (tkR b false), .bool (tkB b false)] by first | rfl | (have q : b = [] := List.eq_nil_of_length_eq_zero Z5; subst q; rfl) | (cases b; (simp at *; done); rfl) | (cases b with | nil => simp at * | cons c r => rfl))))⟩
 ·
  refine sc_iceK (k := 1) (N := 400) (v2 := .tuple #[inlL Z1n 1 (tkV b true), .bool (tkO b true)]) (Ms := objL [.cells [inlL Z1n 1 (tkR b true), .bool (tkB b true)]]) rfl ?_ (all1 (OSub.cells (.cons (sub_clo rfl) (.cons (sub_clo rfl) .nil))));refine sc_body Try.cfgOk rtake_fn rfl ?_;refine Z1q ?_;refine kK Try.cfgOk hS ?_;refine Z1q (Z1q ?_);refine kK Try.cfgOk hS ?_;refine kT ?_;refine Z1q ?_;refine kK Try.cfgOk hS ?_;refine Z1v ?_;exact ⟨[.slice none 0 0, .bool false], Z0, .tuple (.cons (fs_to (fs_nilL (f := Z1n) (sz := 1) Z9) (congrArg (inlL Z1n 1) Zj)) (.cons (fs_to (fs_clo rfl) (congrArg Value.bool Zj)) (.nil))), Zle, all1 (Eq.trans (b := some (.cells [inlL Z1n 1 b, .bool true])) Z0 (congrArg some (show ((.cells [inlL Z1n 1 b, .bool true]) : AObj) = .cells [inlL Z1n 1 (tkR b true), .bool (tkB b true)] by first | rfl | (have q : b = [] := List.eq_nil_of_length_eq_zero Z5; subst q; rfl) | (cases b; (simp at *; done); rfl) | (cases b with | nil => simp at * | cons c r => rfl))))⟩
noncomputable def sm_rtake : Small Try.prog 0 89 ((List UInt8) × Bool) where
 k := 1
 A := fun z9 ρ => [.pointer (some ⟨(ρ 0), 0, none⟩), .int .u64 1]
 M := fun z9 ρ => objL [.cells [inlL Z1n 1 z9.1, .bool z9.2]]
 M1 := fun z9 ρ => objL [.cells [inlL Z1n 1 (tkR z9.1 z9.2), .bool (tkB z9.1 z9.2)]]
 V := fun z9 ρ => .tuple #[inlL Z1n 1 (tkV z9.1 z9.2), .bool (tkO z9.1 z9.2)]
 Pre := fun z9 => (z9.1.length ≤ 1000000000)
 ch := [0]
 N := 400
 s0 := fun z9 => ((St.empty 0).new (.cells [inlL Z1n 1 z9.1, .bool z9.2]))
 hch := by decide
 hsame := fun x ρ => all1 (fun h => absurd (by decide) h)
 hG := rfl
 hn := fun x => rfl
 hwf := fun x => ((Z1r 0).new _)
 hget := fun x => all1 (by kernel_rfl)
 noloop := fun x ρ => all1 (fun h => h.elim)
 inA := fun x ρ R hR => .cons (.ptr (hR 0 _ (by decide))) (.cons (sub_clo rfl) .nil)
 inM := fun x ρ R hR => all1 (OSub.cells (.cons (sub_clo rfl) (.cons (sub_clo rfl) .nil)))
 outM := fun x ρ R hR => all1 (OSub.cells (.cons (sub_clo rfl) (.cons (sub_clo rfl) .nil)))
 outV := fun x ρ R hR => .tuple (.cons (sub_clo rfl) (.cons (sub_clo rfl) .nil))
 dom := by
  intro x ρ a ha
  obtain rfl := List.mem_singleton.1 ha
  refine .inl fun β y h => ?_
  obtain ⟨_, _, _, h, _⟩ := h.cons_inv
  exact h.dom_ptr
 sc := by
  rintro ⟨a0, a1⟩ p0
  exact rtake_sc a0 a1 p0
 det := by
  rintro ⟨a0, a1⟩ ρ ⟨b0, b1⟩ σ s h hm hm'
  simp only [injA, injB, Z26] at h
  have q0 : ρ 0 = σ 0 := by simp_all
  have e0 := (hm 0 (by decide)).symm.trans ((congrArg s.get q0).trans (hm' 0 (by decide)))
  simp only [objL, List.getD_cons_zero, List.getD_cons_succ, injA, injB, Z26] at e0
  have q : ∀ a, a < 1 → ρ a = σ a := all1 q0
  clear hm hm'
  exact ⟨by first | rfl | (simp_all [Prod.ext_iff]; done) | exact e0, q⟩
 par := by
  intro x ρ σ h
  have h0 := h 0 (by decide)
  exact ⟨by first | rfl | simp only [h0], by first | exact fun _ _ => rfl | (intro a ha; simp only [h0])⟩
noncomputable def con_rtake : Con Try.prog 0 := sm_rtake.con
theorem con_rtake_at (b : List UInt8) (bad : Bool) (i0 : Nat) (h0 : b.length ≤ 1000000000) (s : St) (hn : nodupB [i0] = true) (m0 : s.get i0 = some (.cells [inlL Z1n 1 b, .bool bad])) : con_rtake.rel [.pointer (some ⟨i0, 0, none⟩), .int .u64 1] s (.tuple #[inlL Z1n 1 (tkV b bad), .bool (tkO b bad)]) (s.set i0 (.cells [inlL Z1n 1 (tkR b bad), .bool (tkB b bad)])) :=
 sm_rtake.at_ (b, bad) [i0] s _ h0 rfl hn rfl (all1 m0) rfl rfl
theorem rdcount_fn : Try.cfg.fn 81 = some Try.f81 := Z0
theorem rdcount_sc (b : List UInt8) (bad : Bool) (h0 : b.length ≤ 1000000000) : SC Try.prog 0 81 [.pointer (some ⟨0, 0, none⟩)] ((St.empty 0).new (.cells [inlL Z1n 1 b, .bool bad])) fun v s' => v = .int .u64 (((rdV b bad) : Nat) : Int) ∧ s'.n ≤ 400 ∧ ∀ a, a < 1 → s'.get a = some (objL [.cells [inlL Z1n 1 (rdR b bad), .bool (rdB b bad)]] a) := by
 obtain ⟨rc, hS, hC⟩ := rc_con (Z20 Try.cfgOk 300) [con_rtake, con_rfail] Z0;have hC89 := hC con_rtake (.head _);have hC90 := hC con_rfail (.tail _ (.head _));cases bad
 ·
  refine sc_body Try.cfgOk rdcount_fn rfl ?_;refine Z1q ?_;refine kK Try.cfgOk hS ?_;refine Z1q ?_;refine kK Try.cfgOk hS ?_;refine Z1q (Z1q ?_);refine kK Try.cfgOk hS ?_;refine Z27 ?_;refine sk_live 49 ((fun a : Nat × Nat × (List UInt8) => [(0, .pointer (some ⟨0, 0, none⟩)), (3, .int .u64 ((a.2.1 : Nat) : Int)), (8, .int .i64 ((a.1 : Nat) : Int))]) (0, 0, b)) Z0 ⟨Z0, Z0, Z0, trivial⟩ fun m1 => ?_
  refine sk_st ((fun a : Nat × Nat × (List UInt8) => ((St.empty 0).new (.cells [inlL Z1n 1 a.2.2, .bool false]))) (0, 0, b)) Z0 ?_;refine (sk_while (k := 1) (N := 400) (live := (fun a : Nat × Nat × (List UInt8) => [(0, .pointer (some ⟨0, 0, none⟩)), (3, .int .u64 ((a.2.1 : Nat) : Int)), (8, .int .i64 ((a.1 : Nat) : Int))])) (M := (fun a : Nat × Nat × (List UInt8) => ((St.empty 0).new (.cells [inlL Z1n 1 a.2.2, .bool false])))) (fun a : Nat × Nat × (List UInt8) => (a.1 ≤ 10) ∧ (Rdg b a.1 a.2.1 a.2.2) ∧ (a.2.2.length ≤ 1000000000)) (fun a : Nat × Nat × (List UInt8) => 10 - a.1) (fun (a : Nat × Nat × (List UInt8)) (o : Out) (lv : List (Nat × Value)) (M : St) => (o = .exit 0 ∧ ∃ e : List UInt8, (rd b = none) ∧ lv = [(0, .pointer (some ⟨0, 0, none⟩)), (3, .int .u64 ((a.2.1 : Nat) : Int)), (8, .int .i64 ((a.1 : Nat) : Int))] ∧ M = ((St.empty 0).new (.cells [inlL Z1n 1 e, .bool false]))) ∨ (o = .ret ∧ ∃ v : Nat, ∃ rr : List UInt8, ∃ bb : Bool, (v = rdV b false ∧ rr = rdR b false ∧ bb = rdB b false) ∧ lv = [(2, .int .u64 ((v : Nat) : Int))] ∧ M = ((St.empty 0).new (.cells [inlL Z1n 1 rr, .bool bb])))) (Nat.zero_le _) (fun a ha => ?_) (fun a ha => ?_) (fun a m ha => ?_) (fun a m ha => ?_) (0, 0, b) m1 ?_).up ?_
  ·exact ⟨Z0, ((Z1r 0).new _), (selfs (all_cons (o := .cells [inlL Z1n 1 a.2.2, .bool false]) Z0 (OSub.cells (.cons (sub_clo rfl) (.cons (sub_clo rfl) .nil))) (Z1u)))⟩
  ·exact ⟨.ptr ⟨Z9, rfl⟩, sub_clo rfl, sub_clo rfl, trivial⟩
  ·exact ⟨Z0, Z0, Z0, trivial⟩
  ·obtain ⟨i, x, cur⟩ := a;obtain ⟨i0, i1, i2⟩ := ha;dsimp only at i0 i1 i2;rcases cur with _ | ⟨c_, r_⟩
   ·
    refine Z1q ?_;refine Z1p Try.cfgOk hS ?_;refine aT (fun h2 => ?_) (fun h2 => ?_)
    ·have c3e : (decide ((((i : Nat) : Int) : Int) < 10)) = true := Eq.trans Z0 h2;clear h2;have c3 : (((i : Nat) : Int) : Int) < 10 := of_decide_eq_true c3e;clear c3e;refine Z24 ?_;refine Z1q ?_;refine kT ?_;refine Z21 (Z1q (Z27 (Z1q ?_)));refine kK Try.cfgOk hS ?_;refine Z1q ?_;refine Z1p Try.cfgOk hS ?_;refine aK 1 ?_;refine aC 89 [.pointer (some ⟨0, 0, none⟩), .int .u64 1] (.tuple #[inlL Z1n 1 ([] : List UInt8), .bool false]) _ rfl (hC89 _ _ _ _ (con_rtake_at ([] : List UInt8) false 0 Zk _ Z0 Z0 )) ?_;refine aN ?_;refine Z1q (Z1q ?_);refine kK Try.cfgOk hS ?_;refine kT ?_;refine Z1q ?_;refine kK Try.cfgOk hS ?_;refine Z1v ?_;refine .inr ⟨_, _, (fun h => Zo), .inr ⟨rfl, 0, ([] : List UInt8), true, ?_, rfl, rfl⟩, ⟨Z0, ⟨Z0, trivial⟩, ⟨sub_clo rfl, trivial⟩, Zle, ⟨Z0, ((Z1r 0).new _), (selfs (all_cons (o := .cells [inlL Z1n 1 ([] : List UInt8), .bool true]) Z0 (OSub.cells (.cons (sub_clo rfl) (.cons (sub_clo rfl) .nil))) (Z1u)))⟩, Z1w Z0⟩⟩
     ·first | (have q := rdg_nil i1; simp [rdV, rdR, rdB, q]; done) | (have q := rdg_end i1 Z5 Z5 Z5 Z5; have e : c_.toNat % 128 = c_.toNat := Nat.mod_eq_of_lt Z5; simp [rdV, rdR, rdB, q, e]; done)
    ·have c3e : (decide ((((i : Nat) : Int) : Int) < 10)) = false := Eq.trans Z0 h2;clear h2;have c3 : ¬ (((i : Nat) : Int) : Int) < 10 := of_decide_eq_false c3e;clear c3e;refine Z24 ?_;refine Z1q ?_;refine kF ?_;refine sk_exit ?_;dsimp only;refine .inr ⟨_, _, (fun h => Zo), .inl ⟨rfl, ([] : List UInt8), ?_, rfl, rfl⟩, ⟨Z0, ⟨Z0, Z0, Z0, trivial⟩, ⟨.ptr ⟨Z9, rfl⟩, sub_clo rfl, sub_clo rfl, trivial⟩, Zle, ⟨Z0, ((Z1r 0).new _), (selfs (all_cons (o := .cells [inlL Z1n 1 ([] : List UInt8), .bool false]) Z0 (OSub.cells (.cons (sub_clo rfl) (.cons (sub_clo rfl) .nil))) (Z1u)))⟩, Z1w Z0⟩⟩
     ·first | exact rdg_zeroes i1 Z5 Z5 | (have e : i = 9 := Z5; subst e; exact rdg_long i1 Z5) | (have e : i = 10 := Z5; subst e; exact rdg_ten i1)
   ·
    refine Z1q ?_;refine Z1p Try.cfgOk hS ?_;refine aT (fun h4 => ?_) (fun h4 => ?_)
    ·have c5e : (decide ((((i : Nat) : Int) : Int) < 10)) = true := Eq.trans Z0 h4;clear h4;have c5 : (((i : Nat) : Int) : Int) < 10 := of_decide_eq_true c5e;clear c5e;refine Z24 ?_;refine Z1q ?_;refine kT ?_;refine Z21 (Z1q (Z27 (Z1q ?_)));refine kK Try.cfgOk hS ?_;refine Z1q ?_;refine Z1p Try.cfgOk hS ?_;refine aK 1 ?_;refine aC 89 [.pointer (some ⟨0, 0, none⟩), .int .u64 1] (.tuple #[inlL Z1n 1 ([c_]), .bool true]) _ rfl (hC89 _ _ _ _ (con_rtake_at (c_ :: r_) false 0 Zk _ Z0 Z0 )) ?_;refine aN ?_;refine Z1q (Z1q ?_);refine kK Try.cfgOk hS ?_;refine kF ?_;refine Z21 (Z1q ?_);refine Z1p Try.cfgOk hS ?_;refine aK 1 ?_;refine aM (Z23 Try.cfg 42 (inlL Z1n 1 ([c_])) (.int .i64 0)) (elt (flatL Z1n ([c_])) (0 * 1)) (idx_inlL tokC Z0 Zu) ?_;refine aM (loadV Try.cfg (St.empty 0) 5 (elt (flatL Z1n ([c_])) (0 * 1))) (.int .u8 ((c_.toNat : Nat) : Int)) (load_el1 (o := 0) tokC Z0 Z1z (show [c_][0]? = some c_ from rfl) rfl) ?_;refine aN ?_;refine Z1q (Z1q ?_);refine Z1p Try.cfgOk hS ?_;refine aK 1 ?_;refine aT (fun h6 => ?_) (fun h6 => ?_)
     ·have c7e : ((((i : Nat) : Int) : Int) == 9) = true := Eq.trans Z0 h6;clear h6;have c7 : (((i : Nat) : Int) : Int) = 9 := eq_of_beq c7e;clear c7e;refine aK 2 ?_;refine aT (fun h8 => ?_) (fun h8 => ?_)
      ·have c9e : (decide ((((c_.toNat : Nat) : Int) : Int) > 1)) = true := Eq.trans Z0 h8;clear h8;have c9 : (((c_.toNat : Nat) : Int) : Int) > 1 := of_decide_eq_true c9e;clear c9e;refine aN ?_;refine kT ?_;refine sk_exit ?_;dsimp only;refine .inr ⟨_, _, (fun h => Zo), .inl ⟨rfl, r_, ?_, rfl, rfl⟩, ⟨Z0, ⟨Z0, Z0, Z0, trivial⟩, ⟨.ptr ⟨Z9, rfl⟩, sub_clo rfl, sub_clo rfl, trivial⟩, Zle, ⟨Z0, ((Z1r 0).new _), (selfs (all_cons (o := .cells [inlL Z1n 1 r_, .bool false]) Z0 (OSub.cells (.cons (sub_clo rfl) (.cons (sub_clo rfl) .nil))) (Z1u)))⟩, Z1w Z0⟩⟩
       ·first | exact rdg_zeroes i1 Z5 Z5 | (have e : i = 9 := Z5; subst e; exact rdg_long i1 Z5) | (have e : i = 10 := Z5; subst e; exact rdg_ten i1)
      ·have c9e : (decide ((((c_.toNat : Nat) : Int) : Int) > 1)) = false := Eq.trans Z0 h8;clear h8;have c9 : ¬ (((c_.toNat : Nat) : Int) : Int) > 1 := of_decide_eq_false c9e;clear c9e;refine aK 3 ?_;refine aT (fun h10 => ?_) (fun h10 => ?_)
       ·have c11e : (decide ((((i : Nat) : Int) : Int) > 0)) = true := Eq.trans Z0 h10;clear h10;have c11 : (((i : Nat) : Int) : Int) > 0 := of_decide_eq_true c11e;clear c11e;refine aK 2 ?_;refine aT (fun h12 => ?_) (fun h12 => ?_)
        ·have c13e : ((((c_.toNat : Nat) : Int) : Int) == 0) = true := Eq.trans Z0 h12;clear h12;have c13 : (((c_.toNat : Nat) : Int) : Int) = 0 := eq_of_beq c13e;clear c13e;refine aN ?_;refine kT ?_;refine sk_exit ?_;dsimp only;refine .inr ⟨_, _, (fun h => Zo), .inl ⟨rfl, r_, ?_, rfl, rfl⟩, ⟨Z0, ⟨Z0, Z0, Z0, trivial⟩, ⟨.ptr ⟨Z9, rfl⟩, sub_clo rfl, sub_clo rfl, trivial⟩, Zle, ⟨Z0, ((Z1r 0).new _), (selfs (all_cons (o := .cells [inlL Z1n 1 r_, .bool false]) Z0 (OSub.cells (.cons (sub_clo rfl) (.cons (sub_clo rfl) .nil))) (Z1u)))⟩, Z1w Z0⟩⟩
         ·first | exact rdg_zeroes i1 Z5 Z5 | (have e : i = 9 := Z5; subst e; exact rdg_long i1 Z5) | (have e : i = 10 := Z5; subst e; exact rdg_ten i1)
        ·have c13e : ((((c_.toNat : Nat) : Int) : Int) == 0) = false := Eq.trans Z0 h12;clear h12;have c13 : ¬ (((c_.toNat : Nat) : Int) : Int) = 0 := ne_of_beq_false c13e;clear c13e;refine aN ?_;refine kF ?_;refine Z21 (Z1q ?_);refine Z1p Try.cfgOk hS ?_;refine aK 2 ?_;refine aE (v := .int .u8 (IntKind.wrap .u8 (((BitVec.ofInt (IntKind.bits .u8) ((c_.toNat : Nat) : Int) &&& BitVec.ofInt (IntKind.bits .u8) 127).toNat : Nat) : Int))) (.int .u8 ((c_.toNat % 128 : Nat) : Int)) (congrArg (Value.int .u8) (and127 c_)) ?_;refine aE (v := .int .u64 (IntKind.wrap .u64 ((c_.toNat % 128 : Nat) : Int))) (.int .u64 ((c_.toNat % 128 : Nat) : Int)) (congrArg (Value.int .u64) ((wrap_u64 _).trans (congrArg Nat.cast (u64_nat Z0d)))) ?_;refine aK 1 ?_;refine aE (v := .int .i64 (IntKind.wrap .i64 (7 * ((i : Nat) : Int)))) (.int .i64 ((7 * i : Nat) : Int)) (congrArg (Value.int .i64) (wrap_to Z5 Z5)) ?_;refine aE (v := .int .u64 (IntKind.wrap .u64 (((c_.toNat % 128 : Nat) : Int) * 2 ^ (min (Int.toNat ((7 * i : Nat) : Int)) (IntKind.bits .u64))))) (.int .u64 (((c_.toNat % 128) * 128 ^ i : Nat) : Int)) (congrArg (Value.int .u64) (shl7 Z5 Z5 Z5)) ?_;refine aE (v := .int .u64 (IntKind.wrap .u64 (((BitVec.ofInt (IntKind.bits .u64) ((x : Nat) : Int) ||| BitVec.ofInt (IntKind.bits .u64) (((c_.toNat % 128) * 128 ^ i : Nat) : Int)).toNat : Nat) : Int))) (.int .u64 ((x + 128 ^ i * (c_.toNat % 128) : Nat) : Int)) (congrArg (Value.int .u64) (or7 (z := c_.toNat % 128) Z5 (i1.1) Z5 Z5)) ?_;refine aN ?_;refine Z1q ?_;refine Z1p Try.cfgOk hS ?_;refine aK 1 ?_;refine aT (fun h14 => ?_) (fun h14 => ?_)
         ·have c15e : (decide ((((c_.toNat : Nat) : Int) : Int) < 128)) = true := Eq.trans Z0 h14;clear h14;have c15 : (((c_.toNat : Nat) : Int) : Int) < 128 := of_decide_eq_true c15e;clear c15e;refine Z24 ?_;refine kT ?_;refine Z1q ?_;refine kK Try.cfgOk hS ?_;refine Z1v ?_;refine .inr ⟨_, _, (fun h => Zo), .inr ⟨rfl, (x + 128 ^ i * (c_.toNat % 128)), r_, false, ?_, rfl, rfl⟩, ⟨Z0, ⟨Z0, trivial⟩, ⟨sub_clo rfl, trivial⟩, Zle, ⟨Z0, ((Z1r 0).new _), (selfs (all_cons (o := .cells [inlL Z1n 1 r_, .bool false]) Z0 (OSub.cells (.cons (sub_clo rfl) (.cons (sub_clo rfl) .nil))) (Z1u)))⟩, Z1w Z0⟩⟩
          ·first | (have q := rdg_nil i1; simp [rdV, rdR, rdB, q]; done) | (have q := rdg_end i1 Z5 Z5 Z5 Z5; have e : c_.toNat % 128 = c_.toNat := Nat.mod_eq_of_lt Z5; simp [rdV, rdR, rdB, q, e]; done)
         ·have c15e : (decide ((((c_.toNat : Nat) : Int) : Int) < 128)) = false := Eq.trans Z0 h14;clear h14;have c15 : ¬ (((c_.toNat : Nat) : Int) : Int) < 128 := of_decide_eq_false c15e;clear c15e;refine Z24 ?_;refine kF ?_;refine Z21 ?_;refine Z1p Try.cfgOk hS ?_;refine aE (v := .int .i64 (IntKind.wrap .i64 (((i : Nat) : Int) + 1))) (.int .i64 ((i + 1 : Nat) : Int)) (congrArg (Value.int .i64) (wrap_to Z5 Z5)) ?_;refine aN ?_;refine .inl ⟨(i + 1, x + 128 ^ i * (c_.toNat % 128), r_), rfl, ⟨?_, ?_, ?_⟩, ?_, ⟨Z0, ⟨Z0, Z0, Z0, trivial⟩, ⟨.ptr ⟨Z9, rfl⟩, sub_clo rfl, sub_clo rfl, trivial⟩, Zle, ⟨Z0, ((Z1r 0).new _), (selfs (all_cons (o := .cells [inlL Z1n 1 r_, .bool false]) Z0 (OSub.cells (.cons (sub_clo rfl) (.cons (sub_clo rfl) .nil))) (Z1u)))⟩, Z1w Z0⟩⟩
          ·(try dsimp only); omega
          ·(try dsimp only); first | exact rdg_step i1 Z5 | (have q := rdg_step i1 Z5; simpa using q)
          ·(try dsimp only); simp only [List.length_cons] at i2; omega
          ·omega
       ·have c11e : (decide ((((i : Nat) : Int) : Int) > 0)) = false := Eq.trans Z0 h10;clear h10;have c11 : ¬ (((i : Nat) : Int) : Int) > 0 := of_decide_eq_false c11e;clear c11e;refine aN ?_;refine kF ?_;refine Z21 (Z1q ?_);refine Z1p Try.cfgOk hS ?_;refine aK 2 ?_;refine aE (v := .int .u8 (IntKind.wrap .u8 (((BitVec.ofInt (IntKind.bits .u8) ((c_.toNat : Nat) : Int) &&& BitVec.ofInt (IntKind.bits .u8) 127).toNat : Nat) : Int))) (.int .u8 ((c_.toNat % 128 : Nat) : Int)) (congrArg (Value.int .u8) (and127 c_)) ?_;refine aE (v := .int .u64 (IntKind.wrap .u64 ((c_.toNat % 128 : Nat) : Int))) (.int .u64 ((c_.toNat % 128 : Nat) : Int)) (congrArg (Value.int .u64) ((wrap_u64 _).trans (congrArg Nat.cast (u64_nat Z0d)))) ?_;refine aK 1 ?_;refine aE (v := .int .i64 (IntKind.wrap .i64 (7 * ((i : Nat) : Int)))) (.int .i64 ((7 * i : Nat) : Int)) (congrArg (Value.int .i64) (wrap_to Z5 Z5)) ?_;refine aE (v := .int .u64 (IntKind.wrap .u64 (((c_.toNat % 128 : Nat) : Int) * 2 ^ (min (Int.toNat ((7 * i : Nat) : Int)) (IntKind.bits .u64))))) (.int .u64 (((c_.toNat % 128) * 128 ^ i : Nat) : Int)) (congrArg (Value.int .u64) (shl7 Z5 Z5 Z5)) ?_;refine aE (v := .int .u64 (IntKind.wrap .u64 (((BitVec.ofInt (IntKind.bits .u64) ((x : Nat) : Int) ||| BitVec.ofInt (IntKind.bits .u64) (((c_.toNat % 128) * 128 ^ i : Nat) : Int)).toNat : Nat) : Int))) (.int .u64 ((x + 128 ^ i * (c_.toNat % 128) : Nat) : Int)) (congrArg (Value.int .u64) (or7 (z := c_.toNat % 128) Z5 (i1.1) Z5 Z5)) ?_;refine aN ?_;refine Z1q ?_;refine Z1p Try.cfgOk hS ?_;refine aK 1 ?_;refine aT (fun h16 => ?_) (fun h16 => ?_)
        ·have c17e : (decide ((((c_.toNat : Nat) : Int) : Int) < 128)) = true := Eq.trans Z0 h16;clear h16;have c17 : (((c_.toNat : Nat) : Int) : Int) < 128 := of_decide_eq_true c17e;clear c17e;refine Z24 ?_;refine kT ?_;refine Z1q ?_;refine kK Try.cfgOk hS ?_;refine Z1v ?_;refine .inr ⟨_, _, (fun h => Zo), .inr ⟨rfl, (x + 128 ^ i * (c_.toNat % 128)), r_, false, ?_, rfl, rfl⟩, ⟨Z0, ⟨Z0, trivial⟩, ⟨sub_clo rfl, trivial⟩, Zle, ⟨Z0, ((Z1r 0).new _), (selfs (all_cons (o := .cells [inlL Z1n 1 r_, .bool false]) Z0 (OSub.cells (.cons (sub_clo rfl) (.cons (sub_clo rfl) .nil))) (Z1u)))⟩, Z1w Z0⟩⟩
         ·first | (have q := rdg_nil i1; simp [rdV, rdR, rdB, q]; done) | (have q := rdg_end i1 Z5 Z5 Z5 Z5; have e : c_.toNat % 128 = c_.toNat := Nat.mod_eq_of_lt Z5; simp [rdV, rdR, rdB, q, e]; done)
        ·have c17e : (decide ((((c_.toNat : Nat) : Int) : Int) < 128)) = false := Eq.trans Z0 h16;clear h16;have c17 : ¬ (((c_.toNat : Nat) : Int) : Int) < 128 := of_decide_eq_false c17e;clear c17e;refine Z24 ?_;refine kF ?_;refine Z21 ?_;refine Z1p Try.cfgOk hS ?_;refine aE (v := .int .i64 (IntKind.wrap .i64 (((i : Nat) : Int) + 1))) (.int .i64 ((i + 1 : Nat) : Int)) (congrArg (Value.int .i64) (wrap_to Z5 Z5)) ?_;refine aN ?_;refine .inl ⟨(i + 1, x + 128 ^ i * (c_.toNat % 128), r_), rfl, ⟨?_, ?_, ?_⟩, ?_, ⟨Z0, ⟨Z0, Z0, Z0, trivial⟩, ⟨.ptr ⟨Z9, rfl⟩, sub_clo rfl, sub_clo rfl, trivial⟩, Zle, ⟨Z0, ((Z1r 0).new _), (selfs (all_cons (o := .cells [inlL Z1n 1 r_, .bool false]) Z0 (OSub.cells (.cons (sub_clo rfl) (.cons (sub_clo rfl) .nil))) (Z1u)))⟩, Z1w Z0⟩⟩
         ·(try dsimp only); omega
         ·(try dsimp only); first | exact rdg_step i1 Z5 | (have q := rdg_step i1 Z5; simpa using q)
         ·(try dsimp only); simp only [List.length_cons] at i2; omega
         ·omega
     ·have c7e : ((((i : Nat) : Int) : Int) == 9) = false := Eq.trans Z0 h6;clear h6;have c7 : ¬ (((i : Nat) : Int) : Int) = 9 := ne_of_beq_false c7e;clear c7e;refine aK 6 ?_;refine aT (fun h18 => ?_) (fun h18 => ?_)
      ·have c19e : (decide ((((i : Nat) : Int) : Int) > 0)) = true := Eq.trans Z0 h18;clear h18;have c19 : (((i : Nat) : Int) : Int) > 0 := of_decide_eq_true c19e;clear c19e;refine aK 2 ?_;refine aT (fun h20 => ?_) (fun h20 => ?_)
       ·have c21e : ((((c_.toNat : Nat) : Int) : Int) == 0) = true := Eq.trans Z0 h20;clear h20;have c21 : (((c_.toNat : Nat) : Int) : Int) = 0 := eq_of_beq c21e;clear c21e;refine aN ?_;refine kT ?_;refine sk_exit ?_;dsimp only;refine .inr ⟨_, _, (fun h => Zo), .inl ⟨rfl, r_, ?_, rfl, rfl⟩, ⟨Z0, ⟨Z0, Z0, Z0, trivial⟩, ⟨.ptr ⟨Z9, rfl⟩, sub_clo rfl, sub_clo rfl, trivial⟩, Zle, ⟨Z0, ((Z1r 0).new _), (selfs (all_cons (o := .cells [inlL Z1n 1 r_, .bool false]) Z0 (OSub.cells (.cons (sub_clo rfl) (.cons (sub_clo rfl) .nil))) (Z1u)))⟩, Z1w Z0⟩⟩
        ·first | exact rdg_zeroes i1 Z5 Z5 | (have e : i = 9 := Z5; subst e; exact rdg_long i1 Z5) | (have e : i = 10 := Z5; subst e; exact rdg_ten i1)
       ·have c21e : ((((c_.toNat : Nat) : Int) : Int) == 0) = false := Eq.trans Z0 h20;clear h20;have c21 : ¬ (((c_.toNat : Nat) : Int) : Int) = 0 := ne_of_beq_false c21e;clear c21e;refine aN ?_;refine kF ?_;refine Z21 (Z1q ?_);refine Z1p Try.cfgOk hS ?_;refine aK 2 ?_;refine aE (v := .int .u8 (IntKind.wrap .u8 (((BitVec.ofInt (IntKind.bits .u8) ((c_.toNat : Nat) : Int) &&& BitVec.ofInt (IntKind.bits .u8) 127).toNat : Nat) : Int))) (.int .u8 ((c_.toNat % 128 : Nat) : Int)) (congrArg (Value.int .u8) (and127 c_)) ?_;refine aE (v := .int .u64 (IntKind.wrap .u64 ((c_.toNat % 128 : Nat) : Int))) (.int .u64 ((c_.toNat % 128 : Nat) : Int)) (congrArg (Value.int .u64) ((wrap_u64 _).trans (congrArg Nat.cast (u64_nat Z0d)))) ?_;refine aK 1 ?_;refine aE (v := .int .i64 (IntKind.wrap .i64 (7 * ((i : Nat) : Int)))) (.int .i64 ((7 * i : Nat) : Int)) (congrArg (Value.int .i64) (wrap_to Z5 Z5)) ?_;refine aE (v := .int .u64 (IntKind.wrap .u64 (((c_.toNat % 128 : Nat) : Int) * 2 ^ (min (Int.toNat ((7 * i : Nat) : Int)) (IntKind.bits .u64))))) (.int .u64 (((c_.toNat % 128) * 128 ^ i : Nat) : Int)) (congrArg (Value.int .u64) (shl7 Z5 Z5 Z5)) ?_;refine aE (v := .int .u64 (IntKind.wrap .u64 (((BitVec.ofInt (IntKind.bits .u64) ((x : Nat) : Int) ||| BitVec.ofInt (IntKind.bits .u64) (((c_.toNat % 128) * 128 ^ i : Nat) : Int)).toNat : Nat) : Int))) (.int .u64 ((x + 128 ^ i * (c_.toNat % 128) : Nat) : Int)) (congrArg (Value.int .u64) (or7 (z := c_.toNat % 128) Z5 (i1.1) Z5 Z5)) ?_;refine aN ?_;refine Z1q ?_;refine Z1p Try.cfgOk hS ?_;refine aK 1 ?_;refine aT (fun h22 => ?_) (fun h22 => ?_)
        ·have c23e : (decide ((((c_.toNat : Nat) : Int) : Int) < 128)) = true := Eq.trans Z0 h22;clear h22;have c23 : (((c_.toNat : Nat) : Int) : Int) < 128 := of_decide_eq_true c23e;clear c23e;refine Z24 ?_;refine kT ?_;refine Z1q ?_;refine kK Try.cfgOk hS ?_;refine Z1v ?_;refine .inr ⟨_, _, (fun h => Zo), .inr ⟨rfl, (x + 128 ^ i * (c_.toNat % 128)), r_, false, ?_, rfl, rfl⟩, ⟨Z0, ⟨Z0, trivial⟩, ⟨sub_clo rfl, trivial⟩, Zle, ⟨Z0, ((Z1r 0).new _), (selfs (all_cons (o := .cells [inlL Z1n 1 r_, .bool false]) Z0 (OSub.cells (.cons (sub_clo rfl) (.cons (sub_clo rfl) .nil))) (Z1u)))⟩, Z1w Z0⟩⟩
         ·first | (have q := rdg_nil i1; simp [rdV, rdR, rdB, q]; done) | (have q := rdg_end i1 Z5 Z5 Z5 Z5; have e : c_.toNat % 128 = c_.toNat := Nat.mod_eq_of_lt Z5; simp [rdV, rdR, rdB, q, e]; done)
        ·have c23e : (decide ((((c_.toNat : Nat) : Int) : Int) < 128)) = false := Eq.trans Z0 h22;clear h22;have c23 : ¬ (((c_.toNat : Nat) : Int) : Int) < 128 := of_decide_eq_false c23e;clear c23e;refine Z24 ?_;refine kF ?_;refine Z21 ?_;refine Z1p Try.cfgOk hS ?_;refine aE (v := .int .i64 (IntKind.wrap .i64 (((i : Nat) : Int) + 1))) (.int .i64 ((i + 1 : Nat) : Int)) (congrArg (Value.int .i64) (wrap_to Z5 Z5)) ?_;refine aN ?_;refine .inl ⟨(i + 1, x + 128 ^ i * (c_.toNat % 128), r_), rfl, ⟨?_, ?_, ?_⟩, ?_, ⟨Z0, ⟨Z0, Z0, Z0, trivial⟩, ⟨.ptr ⟨Z9, rfl⟩, sub_clo rfl, sub_clo rfl, trivial⟩, Zle, ⟨Z0, ((Z1r 0).new _), (selfs (all_cons (o := .cells [inlL Z1n 1 r_, .bool false]) Z0 (OSub.cells (.cons (sub_clo rfl) (.cons (sub_clo rfl) .nil))) (Z1u)))⟩, Z1w Z0⟩⟩
         ·(try dsimp only); omega
         ·(try dsimp only); first | exact rdg_step i1 Z5 | (have q := rdg_step i1 Z5; simpa using q)
         ·(try dsimp only); simp only [List.length_cons] at i2; omega
         ·omega
      ·have c19e : (decide ((((i : Nat) : Int) : Int) > 0)) = false := Eq.trans Z0 h18;clear h18;have c19 : ¬ (((i : Nat) : Int) : Int) > 0 := of_decide_eq_false c19e;clear c19e;refine aN ?_;refine kF ?_;refine Z21 (Z1q ?_);refine Z1p Try.cfgOk hS ?_;refine aK 2 ?_;refine aE (v := .int .u8 (IntKind.wrap .u8 (((BitVec.ofInt (IntKind.bits .u8) ((c_.toNat : Nat) : Int) &&& BitVec.ofInt (IntKind.bits .u8) 127).toNat : Nat) : Int))) (.int .u8 ((c_.toNat % 128 : Nat) : Int)) (congrArg (Value.int .u8) (and127 c_)) ?_;refine aE (v := .int .u64 (IntKind.wrap .u64 ((c_.toNat % 128 : Nat) : Int))) (.int .u64 ((c_.toNat % 128 : Nat) : Int)) (congrArg (Value.int .u64) ((wrap_u64 _).trans (congrArg Nat.cast (u64_nat Z0d)))) ?_;refine aK 1 ?_;refine aE (v := .int .i64 (IntKind.wrap .i64 (7 * ((i : Nat) : Int)))) (.int .i64 ((7 * i : Nat) : Int)) (congrArg (Value.int .i64) (wrap_to Z5 Z5)) ?_;refine aE (v := .int .u64 (IntKind.wrap .u64 (((c_.toNat % 128 : Nat) : Int) * 2 ^ (min (Int.toNat ((7 * i : Nat) : Int)) (IntKind.bits .u64))))) (.int .u64 (((c_.toNat % 128) * 128 ^ i : Nat) : Int)) (congrArg (Value.int .u64) (shl7 Z5 Z5 Z5)) ?_;refine aE (v := .int .u64 (IntKind.wrap .u64 (((BitVec.ofInt (IntKind.bits .u64) ((x : Nat) : Int) ||| BitVec.ofInt (IntKind.bits .u64) (((c_.toNat % 128) * 128 ^ i : Nat) : Int)).toNat : Nat) : Int))) (.int .u64 ((x + 128 ^ i * (c_.toNat % 128) : Nat) : Int)) (congrArg (Value.int .u64) (or7 (z := c_.toNat % 128) Z5 (i1.1) Z5 Z5)) ?_;refine aN ?_;refine Z1q ?_;refine Z1p Try.cfgOk hS ?_;refine aK 1 ?_;refine aT (fun h24 => ?_) (fun h24 => ?_)
       ·have c25e : (decide ((((c_.toNat : Nat) : Int) : Int) < 128)) = true := Eq.trans Z0 h24;clear h24;have c25 : (((c_.toNat : Nat) : Int) : Int) < 128 := of_decide_eq_true c25e;clear c25e;refine Z24 ?_;refine kT ?_;refine Z1q ?_;refine kK Try.cfgOk hS ?_;refine Z1v ?_;refine .inr ⟨_, _, (fun h => Zo), .inr ⟨rfl, (x + 128 ^ i * (c_.toNat % 128)), r_, false, ?_, rfl, rfl⟩, ⟨Z0, ⟨Z0, trivial⟩, ⟨sub_clo rfl, trivial⟩, Zle, ⟨Z0, ((Z1r 0).new _), (selfs (all_cons (o := .cells [inlL Z1n 1 r_, .bool false]) Z0 (OSub.cells (.cons (sub_clo rfl) (.cons (sub_clo rfl) .nil))) (Z1u)))⟩, Z1w Z0⟩⟩
        ·first | (have q := rdg_nil i1; simp [rdV, rdR, rdB, q]; done) | (have q := rdg_end i1 Z5 Z5 Z5 Z5; have e : c_.toNat % 128 = c_.toNat := Nat.mod_eq_of_lt Z5; simp [rdV, rdR, rdB, q, e]; done)
       ·have c25e : (decide ((((c_.toNat : Nat) : Int) : Int) < 128)) = false := Eq.trans Z0 h24;clear h24;have c25 : ¬ (((c_.toNat : Nat) : Int) : Int) < 128 := of_decide_eq_false c25e;clear c25e;refine Z24 ?_;refine kF ?_;refine Z21 ?_;refine Z1p Try.cfgOk hS ?_;refine aE (v := .int .i64 (IntKind.wrap .i64 (((i : Nat) : Int) + 1))) (.int .i64 ((i + 1 : Nat) : Int)) (congrArg (Value.int .i64) (wrap_to Z5 Z5)) ?_;refine aN ?_;refine .inl ⟨(i + 1, x + 128 ^ i * (c_.toNat % 128), r_), rfl, ⟨?_, ?_, ?_⟩, ?_, ⟨Z0, ⟨Z0, Z0, Z0, trivial⟩, ⟨.ptr ⟨Z9, rfl⟩, sub_clo rfl, sub_clo rfl, trivial⟩, Zle, ⟨Z0, ((Z1r 0).new _), (selfs (all_cons (o := .cells [inlL Z1n 1 r_, .bool false]) Z0 (OSub.cells (.cons (sub_clo rfl) (.cons (sub_clo rfl) .nil))) (Z1u)))⟩, Z1w Z0⟩⟩
        ·(try dsimp only); omega
        ·(try dsimp only); first | exact rdg_step i1 Z5 | (have q := rdg_step i1 Z5; simpa using q)
        ·(try dsimp only); simp only [List.length_cons] at i2; omega
        ·omega
    ·have c5e : (decide ((((i : Nat) : Int) : Int) < 10)) = false := Eq.trans Z0 h4;clear h4;have c5 : ¬ (((i : Nat) : Int) : Int) < 10 := of_decide_eq_false c5e;clear c5e;refine Z24 ?_;refine Z1q ?_;refine kF ?_;refine sk_exit ?_;dsimp only;refine .inr ⟨_, _, (fun h => Zo), .inl ⟨rfl, (c_ :: r_), ?_, rfl, rfl⟩, ⟨Z0, ⟨Z0, Z0, Z0, trivial⟩, ⟨.ptr ⟨Z9, rfl⟩, sub_clo rfl, sub_clo rfl, trivial⟩, Zle, ⟨Z0, ((Z1r 0).new _), (selfs (all_cons (o := .cells [inlL Z1n 1 (c_ :: r_), .bool false]) Z0 (OSub.cells (.cons (sub_clo rfl) (.cons (sub_clo rfl) .nil))) (Z1u)))⟩, Z1w Z0⟩⟩
     ·first | exact rdg_zeroes i1 Z5 Z5 | (have e : i = 9 := Z5; subst e; exact rdg_long i1 Z5) | (have e : i = 10 := Z5; subst e; exact rdg_ten i1)
  ·exact ⟨Zi, by ((try dsimp only); first | done | (exact rdg_zero b)), Z0u⟩
  rintro o e1 s1 ⟨a, lv1, M1, m1, ha, (⟨rfl, e, hx, rfl, rfl⟩ | ⟨rfl, v, rr, bb, hx, rfl, rfl⟩), rfl, rfl⟩
  ·
   obtain ⟨i, x, cur⟩ := a;obtain ⟨i0, i1, i2⟩ := ha;dsimp only at hx i0 i1 i2;dsimp only;try rw [if_pos rfl]
   refine Z1q ?_;refine Z1p Try.cfgOk hS ?_;refine aK 1 ?_;refine aC 90 [.pointer (some ⟨0, 0, none⟩)] (.tuple #[]) _ rfl (hC90 _ _ _ _ (con_rfail_at e false 0  _ Z0 Z0 )) ?_;refine Z24 ?_;refine Z1q ?_;refine kK Try.cfgOk hS ?_;refine Z1v ?_;exact ⟨[.int .u64 0], Z0, congrArg (Value.int .u64) Z04, Zle, all1 (Eq.trans (b := some (.cells [inlL Z1n 1 ([] : List UInt8), .bool true])) Z0 (congrArg some (show ((.cells [inlL Z1n 1 ([] : List UInt8), .bool true]) : AObj) = .cells [inlL Z1n 1 (rdR b false), .bool (rdB b false)] by first | rfl | exact hx.1 | (simp [rdV, rdR, rdB, hx]; done) | (obtain ⟨rfl, rfl, rfl⟩ := hx; rfl))))⟩
  ·
   obtain ⟨i, x, cur⟩ := a;obtain ⟨i0, i1, i2⟩ := ha;dsimp only at hx i0 i1 i2;dsimp only;exact ⟨[.int .u64 ((v : Nat) : Int)], Z0, congrArg (Value.int .u64) Z04, Zle, all1 (Eq.trans (b := some (.cells [inlL Z1n 1 rr, .bool bb])) Z0 (congrArg some (show ((.cells [inlL Z1n 1 rr, .bool bb]) : AObj) = .cells [inlL Z1n 1 (rdR b false), .bool (rdB b false)] by first | rfl | exact hx.1 | (simp [rdV, rdR, rdB, hx]; done) | (obtain ⟨rfl, rfl, rfl⟩ := hx; rfl))))⟩
 ·
  refine sc_body Try.cfgOk rdcount_fn rfl ?_;refine Z1q ?_;refine kK Try.cfgOk hS ?_;refine Z1q ?_;refine kK Try.cfgOk hS ?_;refine Z1q (Z1q ?_);refine kK Try.cfgOk hS ?_;refine Z27 ?_;refine sk_loop ?_;refine Z1q ?_;refine kK Try.cfgOk hS ?_;refine Z1q ?_;refine kT ?_;refine Z21 (Z1q (Z27 (Z1q ?_)));refine kK Try.cfgOk hS ?_;refine Z1q ?_;refine Z1p Try.cfgOk hS ?_;refine aK 1 ?_;refine aC 89 [.pointer (some ⟨0, 0, none⟩), .int .u64 1] (.tuple #[inlL Z1n 1 ([] : List UInt8), .bool false]) _ rfl (hC89 _ _ _ _ (con_rtake_at b true 0 Zk _ Z0 Z0 )) ?_;refine aN ?_;refine Z1q (Z1q ?_);refine kK Try.cfgOk hS ?_;refine kT ?_;refine Z1q ?_;refine kK Try.cfgOk hS ?_;refine Z1v ?_;exact ⟨[.int .u64 0], Z0, congrArg (Value.int .u64) Z04, Zle, all1 (Eq.trans (b := some (.cells [inlL Z1n 1 b, .bool true])) Z0 (congrArg some (show ((.cells [inlL Z1n 1 b, .bool true]) : AObj) = .cells [inlL Z1n 1 (rdR b true), .bool (rdB b true)] by first | rfl | exact hx.1 | (simp [rdV, rdR, rdB, hx]; done) | (obtain ⟨rfl, rfl, rfl⟩ := hx; rfl))))⟩
noncomputable def sm_rdcount : Small Try.prog 0 81 ((List UInt8) × Bool) where
 k := 1
 A := fun z9 ρ => [.pointer (some ⟨(ρ 0), 0, none⟩)]
 M := fun z9 ρ => objL [.cells [inlL Z1n 1 z9.1, .bool z9.2]]
 M1 := fun z9 ρ => objL [.cells [inlL Z1n 1 (rdR z9.1 z9.2), .bool (rdB z9.1 z9.2)]]
 V := fun z9 ρ => .int .u64 (((rdV z9.1 z9.2) : Nat) : Int)
 Pre := fun z9 => (z9.1.length ≤ 1000000000)
 ch := [0]
 N := 400
 s0 := fun z9 => ((St.empty 0).new (.cells [inlL Z1n 1 z9.1, .bool z9.2]))
 hch := by decide
 hsame := fun x ρ => all1 (fun h => absurd (by decide) h)
 hG := rfl
 hn := fun x => rfl
 hwf := fun x => ((Z1r 0).new _)
 hget := fun x => all1 (by kernel_rfl)
 noloop := fun x ρ => all1 (fun h => h.elim)
 inA := fun x ρ R hR => .cons (.ptr (hR 0 _ (by decide))) .nil
 inM := fun x ρ R hR => all1 (OSub.cells (.cons (sub_clo rfl) (.cons (sub_clo rfl) .nil)))
 outM := fun x ρ R hR => all1 (OSub.cells (.cons (sub_clo rfl) (.cons (sub_clo rfl) .nil)))
 outV := fun x ρ R hR => sub_clo rfl
 dom := by
  intro x ρ a ha
  obtain rfl := List.mem_singleton.1 ha
  refine .inl fun β y h => ?_
  obtain ⟨_, _, _, h, _⟩ := h.cons_inv
  exact h.dom_ptr
 sc := by
  rintro ⟨a0, a1⟩ p0
  exact rdcount_sc a0 a1 p0
 det := by
  rintro ⟨a0, a1⟩ ρ ⟨b0, b1⟩ σ s h hm hm'
  simp only [injA, injB, Z26] at h
  have q0 : ρ 0 = σ 0 := by simp_all
  have e0 := (hm 0 (by decide)).symm.trans ((congrArg s.get q0).trans (hm' 0 (by decide)))
  simp only [objL, List.getD_cons_zero, List.getD_cons_succ, injA, injB, Z26] at e0
  have q : ∀ a, a < 1 → ρ a = σ a := all1 q0
  clear hm hm'
  exact ⟨by first | rfl | (simp_all [Prod.ext_iff]; done) | exact e0, q⟩
 par := by
  intro x ρ σ h
  have h0 := h 0 (by decide)
  exact ⟨by first | rfl | simp only [h0], by first | exact fun _ _ => rfl | (intro a ha; simp only [h0])⟩
noncomputable def con_rdcount : Con Try.prog 0 := sm_rdcount.con
theorem con_rdcount_at (b : List UInt8) (bad : Bool) (i0 : Nat) (h0 : b.length ≤ 1000000000) (s : St) (hn : nodupB [i0] = true) (m0 : s.get i0 = some (.cells [inlL Z1n 1 b, .bool bad])) : con_rdcount.rel [.pointer (some ⟨i0, 0, none⟩)] s (.int .u64 (((rdV b bad) : Nat) : Int)) (s.set i0 (.cells [inlL Z1n 1 (rdR b bad), .bool (rdB b bad)])) :=
 sm_rdcount.at_ (b, bad) [i0] s _ h0 rfl hn rfl (all1 m0) rfl rfl
theorem wcloneT_fn : Try.cfg.fn 80 = some Try.f80 := Z0
theorem wcloneT_sc (l : List UInt8) (h0 : l.length ≤ 1000000000) : SC Try.prog 0 80 [inlL Z1n 1 l] (St.empty 0) fun v s' => v = inlL Z1n 1 l ∧ s'.n ≤ 400 := by
 have hS := Z20 Try.cfgOk 300;refine sc_ice0 (N := 400) (v2 := inlL Z1n 1 l) (Q := fun v s' => FS 0 s' v (inlL Z1n 1 l) ∧ s'.n ≤ 400) ?_ (fun _ _ h => h);refine sc_body Try.cfgOk wcloneT_fn rfl ?_;refine Z1q ?_;refine kK Try.cfgOk hS ?_;refine Z1q (Z1q ?_);refine Z1p Try.cfgOk hS ?_;refine aK 1 ?_;refine al_nilT (l.length) true rfl Z0 rfl Z0 (Eq.trans (b := nilN Try.cfg (inlL Z1n 1 l) (.slice none 0 0)) Z0 (nilN_inl tokC)) (fun h1 => ?_) ?_
 ·have c2 : l = [] := List.eq_nil_of_length_eq_zero h1;clear h1;refine Z24 ?_;refine kT ?_;refine Z1q ?_;refine kK Try.cfgOk hS ?_;refine Z1v ?_;exact ⟨[.slice none 0 0], Z0, fs_to (fs_nilL (f := Z1n) (sz := 1) Z9) (congrArg (inlL Z1n 1) Z08), Zle⟩
 ·
  refine Z24 ?_;refine kF ?_;refine Z21 (Z1q ?_);refine Z1p Try.cfgOk hS ?_;refine aK 2 ?_;refine al_opF (v := slL 0 1 (([] : List UInt8) ++ l).length) (s1 := ((St.empty 0).new (rowL Z1n ([] : List UInt8))).set 0 (rowL Z1n (([] : List UInt8) ++ l))) Z0 Z0 (Eq.trans (b := appendV Try.cfg ((St.empty 0).new (rowL Z1n ([] : List UInt8))) 42 (slL 0 1 (([] : List UInt8).length)) (inlL Z1n 1 l)) Z0 (app_rowL (l := ([] : List UInt8)) (l2 := l) (bytes := 1) tokC Z0 Z1z bcells_one Z0 (lenV_inl tokC) (firstV_inlL tokC Z1z) Zn)) ?_;refine aN ?_;refine Z1v ?_;exact ⟨[slL 0 1 ((([] : List UInt8) ++ l).length)], Z0, fs_to (fs_rowL Z9 Z1z Z1x bcells_one Zle Z0) (congrArg (inlL Z1n 1) Z08), Zle⟩
noncomputable def con_wcloneT : Con Try.prog 0 := Con.pure (α := (List UInt8)) 80 (fun z9 => [inlL Z1n 1 z9]) (fun z9 => inlL Z1n 1 z9) (fun z9 => (z9.length ≤ 1000000000)) (by
 intro x y h
 simp only [injA, Z26] at h
 first | exact h | (simp only [Prod.ext_iff, h, and_self, and_true, true_and]; done) | simp_all [Prod.ext_iff]) (fun _ => rfl) (fun _ => rfl) 400 (by
 rintro x p0
 exact wcloneT_sc x p0)
theorem con_wcloneT_at (l : List UInt8) (h0 : l.length ≤ 1000000000) (s : St) : con_wcloneT.rel [inlL Z1n 1 l] s (inlL Z1n 1 l) s := con_pure l h0 s
theorem rleft_fn : Try.cfg.fn 57 = some Try.f57 := Z0
theorem rleft_sc (b : List UInt8) (bad : Bool)  : SC Try.prog 0 57 [.pointer (some ⟨0, 0, none⟩)] ((St.empty 0).new (.cells [inlL Z1n 1 b, .bool bad])) fun v s' => v = .int .i64 ((b.length : Nat) : Int) ∧ s'.n ≤ 400 ∧ ∀ a, a < 1 → s'.get a = some (objL [.cells [inlL Z1n 1 b, .bool bad]] a) := by
 have hS := Z20 Try.cfgOk 300;refine sc_body Try.cfgOk rleft_fn rfl ?_;refine Z1q ?_;refine kK Try.cfgOk hS ?_;refine Z1q (Z1q ?_);refine kK Try.cfgOk hS ?_;refine kF ?_;refine Z21 (Z1q ?_);refine Z1p Try.cfgOk hS ?_;refine aK 4 ?_;refine aM (lenB Try.cfg (St.empty 0) 42 (inlL Z1n 1 b)) (.int .i64 ((b.length : Nat) : Int)) (len_inl tokC Z0) ?_;refine aN ?_;refine Z1v ?_;exact ⟨[.int .i64 ((b.length : Nat) : Int)], Z0, rfl, Zle, all1 Z0⟩
noncomputable def sm_rleft : Small Try.prog 0 57 ((List UInt8) × Bool) where
 k := 1
 A := fun z9 ρ => [.pointer (some ⟨(ρ 0), 0, none⟩)]
 M := fun z9 ρ => objL [.cells [inlL Z1n 1 z9.1, .bool z9.2]]
 M1 := fun z9 ρ => objL [.cells [inlL Z1n 1 z9.1, .bool z9.2]]
 V := fun z9 ρ => .int .i64 ((z9.1.length : Nat) : Int)
 Pre := fun z9 => True
 ch := []
 N := 400
 s0 := fun z9 => ((St.empty 0).new (.cells [inlL Z1n 1 z9.1, .bool z9.2]))
 hch := by decide
 hsame := fun x ρ => all1 (fun _ => rfl)
 hG := rfl
 hn := fun x => rfl
 hwf := fun x => ((Z1r 0).new _)
 hget := fun x => all1 (by kernel_rfl)
 noloop := fun x ρ => all1 (fun h => h.elim)
 inA := fun x ρ R hR => .cons (.ptr (hR 0 _ (by decide))) .nil
 inM := fun x ρ R hR => all1 (OSub.cells (.cons (sub_clo rfl) (.cons (sub_clo rfl) .nil)))
 outM := fun x ρ R hR => all1 (OSub.cells (.cons (sub_clo rfl) (.cons (sub_clo rfl) .nil)))
 outV := fun x ρ R hR => sub_clo rfl
 dom := by
  intro x ρ a ha
  cases ha
 sc := by
  rintro ⟨a0, a1⟩ _
  exact rleft_sc a0 a1
 det := by
  rintro ⟨a0, a1⟩ ρ ⟨b0, b1⟩ σ s h hm hm'
  simp only [injA, injB, Z26] at h
  have q0 : ρ 0 = σ 0 := by simp_all
  have e0 := (hm 0 (by decide)).symm.trans ((congrArg s.get q0).trans (hm' 0 (by decide)))
  simp only [objL, List.getD_cons_zero, List.getD_cons_succ, injA, injB, Z26] at e0
  have q : ∀ a, a < 1 → ρ a = σ a := all1 q0
  clear hm hm'
  exact ⟨by first | rfl | (simp_all [Prod.ext_iff]; done) | exact e0, q⟩
 par := by
  intro x ρ σ h
  have h0 := h 0 (by decide)
  exact ⟨by first | rfl | simp only [h0], by first | exact fun _ _ => rfl | (intro a ha; simp only [h0])⟩
noncomputable def con_rleft : Con Try.prog 0 := sm_rleft.con
theorem con_rleft_at (b : List UInt8) (bad : Bool) (i0 : Nat)  (s : St) (hn : nodupB [i0] = true) (m0 : s.get i0 = some (.cells [inlL Z1n 1 b, .bool bad])) : con_rleft.rel [.pointer (some ⟨i0, 0, none⟩)] s (.int .i64 ((b.length : Nat) : Int)) s :=
 sm_rleft.at_ (b, bad) [i0] s _ trivial rfl hn rfl (all1 m0) rfl rfl
theorem newReader_fn : Try.cfg.fn 54 = some Try.f54 := Z0
theorem newReader_sc (l : List UInt8) (h0 : l.length ≤ 1000000000) : SC Try.prog 0 54 [inlL Z1n 1 l] (St.empty 0) fun v s' => ∃ σ : Nat → Nat, (∀ a, a < 0 → σ a = a) ∧ (∀ a, 0 ≤ a → a < 0 + 1 → 0 ≤ σ a ∧ σ a < s'.n) ∧ (∀ a b, a < 0 + 1 → b < 0 + 1 → σ a = σ b → a = b) ∧ v = .pointer (some ⟨(σ 0), 0, none⟩) ∧ s'.n ≤ 400 ∧ ∀ a, a < 0 + 1 → s'.get (σ a) = some (objL [.cells [inlL Z1n 1 l, .bool false]] a) := by
 obtain ⟨rc, hS, hC⟩ := rc_con (Z20 Try.cfgOk 300) [con_wcloneT] Z0;have hC80 := hC con_wcloneT (.head _);refine sc_body Try.cfgOk newReader_fn rfl ?_;refine Z1q ?_;refine kK Try.cfgOk hS ?_;refine Z1q ?_;refine Z1p Try.cfgOk hS ?_;refine aK 1 ?_;refine aC 80 [inlL Z1n 1 l] (inlL Z1n 1 l) _ rfl (hC80 _ _ _ _ (con_wcloneT_at l Zk _)) ?_;refine aN ?_;refine Z1v ?_;exact ⟨[.pointer (some ⟨0, 0, none⟩)], Z0, rhoL [0], all0 , new_rho rfl Z0, nodup_rho (ids := [0]) rfl, rfl, Zle, all1 Z0⟩
noncomputable def sm_newReader : SmallN Try.prog 0 54 ((List UInt8)) where
 k := 0
 m := 1
 A := fun z9 ρ => [inlL Z1n 1 z9]
 M := fun z9 ρ => objL []
 M1 := fun z9 ρ => objL [.cells [inlL Z1n 1 z9, .bool false]]
 V := fun z9 ρ => .pointer (some ⟨(ρ 0), 0, none⟩)
 Pre := fun z9 => (z9.length ≤ 1000000000)
 ch := []
 N := 400
 s0 := fun z9 => (St.empty 0)
 hch := by decide
 hsame := fun x ρ => all0
 hG := rfl
 hn := fun x => rfl
 hwf := fun x => (Z1r 0)
 hget := fun x => all0
 noloop := fun x ρ => all0
 inA := fun x ρ R hR => .cons (sub_clo rfl) .nil
 inM := fun x ρ R hR => all0
 outM := fun x σ ρ R hR => all1 (OSub.cells (.cons (sub_clo rfl) (.cons (sub_clo rfl) .nil)))
 outV := fun x σ ρ R hR => .ptr (hR 0 _ (by decide))
 dom := by
  intro x ρ a ha
  cases ha
 sc := by
  rintro x p0
  exact newReader_sc x p0
 det := by
  rintro x ρ y σ s h hm hm'
  simp only [injA, injB, Z26] at h
  have q : ∀ a, a < 0 → ρ a = σ a := all0
  clear hm hm'
  exact ⟨by first | rfl | exact h | (simp_all [Prod.ext_iff]; done) | exact e0, q⟩
 par := by
  intro x ρ σ h
  have h0 := h 0 (by decide)
  exact ⟨by first | rfl | simp only [h0], by first | exact fun _ _ => rfl | (intro a ha; simp only [h0])⟩
noncomputable def con_newReader : Con Try.prog 0 := sm_newReader.con
theorem con_newReader_at (l : List UInt8) (i0 : Nat) (h0 : l.length ≤ 1000000000) (s : St) (hn : nodupB [] = true)  (n0 : i0 = s.n + 0) : con_newReader.rel [inlL Z1n 1 l] s (.pointer (some ⟨i0, 0, none⟩)) (s.new (.cells [inlL Z1n 1 l, .bool false])) :=
 sm_newReader.at_ l [i0] s _ h0 rfl hn rfl (all0 ) (new_all (p := fun a b => rhoL [i0] a = s.n + b) (all1 n0)) rfl rfl
theorem rdnum_fn : Try.cfg.fn 58 = some Try.f58 := Z0
theorem rdnum_sc (b : List UInt8) (bad : Bool) (h0 : b.length ≤ 1000000000) : SC Try.prog 0 58 [.pointer (some ⟨0, 0, none⟩)] ((St.empty 0).new (.cells [inlL Z1n 1 b, .bool bad])) fun v s' => v = .int .i64 (unf (rdV b bad)) ∧ s'.n ≤ 400 ∧ ∀ a, a < 1 → s'.get a = some (objL [.cells [inlL Z1n 1 (rdR b bad), .bool (rdB b bad)]] a) := by
 obtain ⟨rc, hS, hC⟩ := rc_con (Z20 Try.cfgOk 300) [con_rdcount] Z0;have hC81 := hC con_rdcount (.head _);refine sc_body Try.cfgOk rdnum_fn rfl ?_;refine Z1q ?_;refine kK Try.cfgOk hS ?_;refine Z1q ?_;refine Z1p Try.cfgOk hS ?_;refine aK 1 ?_;refine aC 81 [.pointer (some ⟨0, 0, none⟩)] (.int .u64 (((rdV b bad) : Nat) : Int)) _ rfl (hC81 _ _ _ _ (con_rdcount_at b bad 0 Zk _ Z0 Z0 )) ?_;refine aN ?_;refine Z1q ?_;refine Z1p Try.cfgOk hS ?_;refine aK 1 ?_;refine aE (v := .int .u64 (Int.fdiv (((rdV b bad) : Nat) : Int) (2 ^ (min (Int.toNat 1) (IntKind.bits .u64))))) (.int .u64 (((rdV b bad) / 2 : Nat) : Int)) (congrArg (Value.int .u64) (shr_nat (rdV b bad) 1 (y := 2) Z9 rfl)) ?_;refine aE (v := .int .i64 (IntKind.wrap .i64 (((rdV b bad) / 2 : Nat) : Int))) (.int .i64 (((rdV b bad) / 2 : Nat) : Int)) (congrArg (Value.int .i64) (wrap64 Z0c)) ?_;refine aK 1 ?_;refine aE (v := .int .u64 (IntKind.wrap .u64 (((BitVec.ofInt (IntKind.bits .u64) (((rdV b bad) : Nat) : Int) &&& BitVec.ofInt (IntKind.bits .u64) 1).toNat : Nat) : Int))) (.int .u64 (((rdV b bad) % 2 : Nat) : Int)) (congrArg (Value.int .u64) (and1 (rdV b bad))) ?_;refine aE (v := .int .i64 (IntKind.wrap .i64 (((rdV b bad) % 2 : Nat) : Int))) (.int .i64 (((rdV b bad) % 2 : Nat) : Int)) (congrArg (Value.int .i64) (wrap64 Z0c)) ?_;refine aK 1 ?_;refine aE (v := .int .i64 (IntKind.wrap .i64 (((BitVec.ofInt (IntKind.bits .i64) (((rdV b bad) / 2 : Nat) : Int) ^^^ BitVec.ofInt (IntKind.bits .i64) (IntKind.wrap .i64 (0 - (((rdV b bad) % 2 : Nat) : Int)))).toNat : Nat) : Int))) (.int .i64 (unf (rdV b bad))) (congrArg (Value.int .i64) (unf_xor (x := (rdV b bad)) (rdV_lt b bad))) ?_;refine aN ?_;refine Z1v ?_;exact ⟨[.int .i64 (unf (rdV b bad))], Z0, rfl, Zle, all1 Z0⟩
noncomputable def sm_rdnum : Small Try.prog 0 58 ((List UInt8) × Bool) where
 k := 1
 A := fun z9 ρ => [.pointer (some ⟨(ρ 0), 0, none⟩)]
 M := fun z9 ρ => objL [.cells [inlL Z1n 1 z9.1, .bool z9.2]]
 M1 := fun z9 ρ => objL [.cells [inlL Z1n 1 (rdR z9.1 z9.2), .bool (rdB z9.1 z9.2)]]
 V := fun z9 ρ => .int .i64 (unf (rdV z9.1 z9.2))
 Pre := fun z9 => (z9.1.length ≤ 1000000000)
 ch := [0]
 N := 400
 s0 := fun z9 => ((St.empty 0).new (.cells [inlL Z1n 1 z9.1, .bool z9.2]))
 hch := by decide
 hsame := fun x ρ => all1 (fun h => absurd (by decide) h)
 hG := rfl
 hn := fun x => rfl
 hwf := fun x => ((Z1r 0).new _)
 hget := fun x => all1 (by kernel_rfl)
 noloop := fun x ρ => all1 (fun h => h.elim)
 inA := fun x ρ R hR => .cons (.ptr (hR 0 _ (by decide))) .nil
 inM := fun x ρ R hR => all1 (OSub.cells (.cons (sub_clo rfl) (.cons (sub_clo rfl) .nil)))
 outM := fun x ρ R hR => all1 (OSub.cells (.cons (sub_clo rfl) (.cons (sub_clo rfl) .nil)))
 outV := fun x ρ R hR => sub_clo rfl
 dom := by
  intro x ρ a ha
  obtain rfl := List.mem_singleton.1 ha
  refine .inl fun β y h => ?_
  obtain ⟨_, _, _, h, _⟩ := h.cons_inv
  exact h.dom_ptr
 sc := by
  rintro ⟨a0, a1⟩ p0
  exact rdnum_sc a0 a1 p0
 det := by
  rintro ⟨a0, a1⟩ ρ ⟨b0, b1⟩ σ s h hm hm'
  simp only [injA, injB, Z26] at h
  have q0 : ρ 0 = σ 0 := by simp_all
  have e0 := (hm 0 (by decide)).symm.trans ((congrArg s.get q0).trans (hm' 0 (by decide)))
  simp only [objL, List.getD_cons_zero, List.getD_cons_succ, injA, injB, Z26] at e0
  have q : ∀ a, a < 1 → ρ a = σ a := all1 q0
  clear hm hm'
  exact ⟨by first | rfl | (simp_all [Prod.ext_iff]; done) | exact e0, q⟩
 par := by
  intro x ρ σ h
  have h0 := h 0 (by decide)
  exact ⟨by first | rfl | simp only [h0], by first | exact fun _ _ => rfl | (intro a ha; simp only [h0])⟩
noncomputable def con_rdnum : Con Try.prog 0 := sm_rdnum.con
theorem con_rdnum_at (b : List UInt8) (bad : Bool) (i0 : Nat) (h0 : b.length ≤ 1000000000) (s : St) (hn : nodupB [i0] = true) (m0 : s.get i0 = some (.cells [inlL Z1n 1 b, .bool bad])) : con_rdnum.rel [.pointer (some ⟨i0, 0, none⟩)] s (.int .i64 (unf (rdV b bad))) (s.set i0 (.cells [inlL Z1n 1 (rdR b bad), .bool (rdB b bad)])) :=
 sm_rdnum.at_ (b, bad) [i0] s _ h0 rfl hn rfl (all1 m0) rfl rfl
theorem fsmall_fn : Try.cfg.fn 56 = some Try.f56 := Z0
theorem fsmall_sc (b : List UInt8) (bad : Bool) (h0 : b.length ≤ 1000000000) : SC Try.prog 0 56 [.pointer (some ⟨0, 0, none⟩)] ((St.empty 0).new (.cells [inlL Z1n 1 b, .bool bad])) fun v s' => v = .int .i64 ((min (rdV b bad) 4294967295 : Nat) : Int) ∧ s'.n ≤ 400 ∧ ∀ a, a < 1 → s'.get a = some (objL [.cells [inlL Z1n 1 (rdR b bad), .bool (rdB b bad)]] a) := by
 obtain ⟨rc, hS, hC⟩ := rc_con (Z20 Try.cfgOk 300) [con_rdcount] Z0;have hC81 := hC con_rdcount (.head _);refine sc_body Try.cfgOk fsmall_fn rfl ?_;refine Z1q ?_;refine kK Try.cfgOk hS ?_;refine Z1q ?_;refine Z1p Try.cfgOk hS ?_;refine aK 1 ?_;refine aC 81 [.pointer (some ⟨0, 0, none⟩)] (.int .u64 (((rdV b bad) : Nat) : Int)) _ rfl (hC81 _ _ _ _ (con_rdcount_at b bad 0 Zk _ Z0 Z0 )) ?_;refine aE (v := .int .u64 (if 4294967295 < (((rdV b bad) : Nat) : Int) then (4294967295 : Int) else (((rdV b bad) : Nat) : Int))) (.int .u64 ((min (rdV b bad) 4294967295 : Nat) : Int)) (congrArg (Value.int .u64) (min_nat (rdV b bad) 4294967295)) ?_;refine aE (v := .int .i64 (IntKind.wrap .i64 ((min (rdV b bad) 4294967295 : Nat) : Int))) (.int .i64 ((min (rdV b bad) 4294967295 : Nat) : Int)) (congrArg (Value.int .i64) (wrap64 Z5)) ?_;refine aN ?_;refine Z1v ?_;exact ⟨[.int .i64 ((min (rdV b bad) 4294967295 : Nat) : Int)], Z0, rfl, Zle, all1 Z0⟩
noncomputable def sm_fsmall : Small Try.prog 0 56 ((List UInt8) × Bool) where
 k := 1
 A := fun z9 ρ => [.pointer (some ⟨(ρ 0), 0, none⟩)]
 M := fun z9 ρ => objL [.cells [inlL Z1n 1 z9.1, .bool z9.2]]
 M1 := fun z9 ρ => objL [.cells [inlL Z1n 1 (rdR z9.1 z9.2), .bool (rdB z9.1 z9.2)]]
 V := fun z9 ρ => .int .i64 ((min (rdV z9.1 z9.2) 4294967295 : Nat) : Int)
 Pre := fun z9 => (z9.1.length ≤ 1000000000)
 ch := [0]
 N := 400
 s0 := fun z9 => ((St.empty 0).new (.cells [inlL Z1n 1 z9.1, .bool z9.2]))
 hch := by decide
 hsame := fun x ρ => all1 (fun h => absurd (by decide) h)
 hG := rfl
 hn := fun x => rfl
 hwf := fun x => ((Z1r 0).new _)
 hget := fun x => all1 (by kernel_rfl)
 noloop := fun x ρ => all1 (fun h => h.elim)
 inA := fun x ρ R hR => .cons (.ptr (hR 0 _ (by decide))) .nil
 inM := fun x ρ R hR => all1 (OSub.cells (.cons (sub_clo rfl) (.cons (sub_clo rfl) .nil)))
 outM := fun x ρ R hR => all1 (OSub.cells (.cons (sub_clo rfl) (.cons (sub_clo rfl) .nil)))
 outV := fun x ρ R hR => sub_clo rfl
 dom := by
  intro x ρ a ha
  obtain rfl := List.mem_singleton.1 ha
  refine .inl fun β y h => ?_
  obtain ⟨_, _, _, h, _⟩ := h.cons_inv
  exact h.dom_ptr
 sc := by
  rintro ⟨a0, a1⟩ p0
  exact fsmall_sc a0 a1 p0
 det := by
  rintro ⟨a0, a1⟩ ρ ⟨b0, b1⟩ σ s h hm hm'
  simp only [injA, injB, Z26] at h
  have q0 : ρ 0 = σ 0 := by simp_all
  have e0 := (hm 0 (by decide)).symm.trans ((congrArg s.get q0).trans (hm' 0 (by decide)))
  simp only [objL, List.getD_cons_zero, List.getD_cons_succ, injA, injB, Z26] at e0
  have q : ∀ a, a < 1 → ρ a = σ a := all1 q0
  clear hm hm'
  exact ⟨by first | rfl | (simp_all [Prod.ext_iff]; done) | exact e0, q⟩
 par := by
  intro x ρ σ h
  have h0 := h 0 (by decide)
  exact ⟨by first | rfl | simp only [h0], by first | exact fun _ _ => rfl | (intro a ha; simp only [h0])⟩
noncomputable def con_fsmall : Con Try.prog 0 := sm_fsmall.con
theorem con_fsmall_at (b : List UInt8) (bad : Bool) (i0 : Nat) (h0 : b.length ≤ 1000000000) (s : St) (hn : nodupB [i0] = true) (m0 : s.get i0 = some (.cells [inlL Z1n 1 b, .bool bad])) : con_fsmall.rel [.pointer (some ⟨i0, 0, none⟩)] s (.int .i64 ((min (rdV b bad) 4294967295 : Nat) : Int)) (s.set i0 (.cells [inlL Z1n 1 (rdR b bad), .bool (rdB b bad)])) :=
 sm_fsmall.at_ (b, bad) [i0] s _ h0 rfl hn rfl (all1 m0) rfl rfl
end Go.Proofs.Ytekeepgjegkedaa