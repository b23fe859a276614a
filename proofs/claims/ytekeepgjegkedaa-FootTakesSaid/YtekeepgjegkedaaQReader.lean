/- The reader of bytes, of the document. -/
import Derived.Test.YtekeepgjegkedaaQRead
import Derived.Test.YtekeepgjegkedaaRefCount
import Derived.Test.YtekeepgjegkedaaAiComp
import Derived.Test.YtekeepgjegkedaaKit
set_option linter.unusedVariables false
set_option linter.unusedSimpArgs false
set_option linter.unnecessarySimpa false
set_option maxHeartbeats 4000000
set_option maxRecDepth 100000
namespace Go.Proofs.Ytekeepgjegkedaa
open Go.Ai
theorem qfail_fn : Try.cfg.fn 91 = some Try.f91 := Z0
theorem qfail_sc (b : List UInt8) (bad : Bool)  : SC Try.prog 0 91 [.pointer (some ⟨0, 0, none⟩)] ((St.empty 0).new (.cells [inlL Z1n 1 b, .bool bad])) fun v s' => v = .tuple #[] ∧ s'.n ≤ 400 ∧ ∀ a, a < 1 → s'.get a = some (objL [.cells [.slice none 0 0, .bool true]] a) := by
 have hS := Z20 Try.cfgOk 300;refine sc_body Try.cfgOk qfail_fn rfl ?_;refine Z1q ?_;refine kK Try.cfgOk hS ?_;refine kK Try.cfgOk hS ?_;exact ⟨[], Z0, rfl, Zle, all1 Z0⟩
noncomputable def sm_qfail : Small Try.prog 0 91 ((List UInt8) × Bool) where
 k := 1
 A := fun z9 ρ => [.pointer (some ⟨(ρ 0), 0, none⟩)]
 M := fun z9 ρ => objL [.cells [inlL Z1n 1 z9.1, .bool z9.2]]
 M1 := fun z9 ρ => objL [.cells [inlL Z1n 1 ([] : List UInt8), .bool true]]
 V := fun z9 ρ => .tuple #[]
 M1s := fun z9 => objL [.cells [.slice none 0 0, .bool true]]
 Pre := fun z9 => True
 ch := [0]
 N := 400
 s0 := fun z9 => ((St.empty 0).new (.cells [inlL Z1n 1 z9.1, .bool z9.2]))
 hch := by decide
 hsame := fun x ρ => all1 (fun h => absurd (by decide) h)
 hG := rfl
 hn := fun x => rfl
 hwf := fun x => ((Z1r 0).new _)
 hget := fun x => all1 (by kernel_rfl)
 noloop := fun x ρ => all1 (fun h => h.elim)
 inA := fun x ρ R hR => .cons (.ptr (hR 0 _ (by decide))) .nil
 inM := fun x ρ R hR => all1 (OSub.cells (.cons (sub_clo rfl) (.cons (sub_clo rfl) .nil)))
 outM := fun x ρ R hR => all1 (OSub.cells (.cons (sub_nil (by decide)) (.cons (sub_clo rfl) .nil)))
 outV := fun x ρ R hR => .tuple .nil
 dom := by
  intro x ρ a ha
  obtain rfl := List.mem_singleton.1 ha
  refine .inl fun β y h => ?_
  obtain ⟨_, _, _, h, _⟩ := h.cons_inv
  exact h.dom_ptr
 sc := by
  rintro ⟨a0, a1⟩ _
  exact qfail_sc a0 a1
 det := by
  rintro ⟨a0, a1⟩ ρ ⟨b0, b1⟩ σ s h hm hm'
  simp only [injA, injB, Z26] at h
  have q0 : ρ 0 = σ 0 := by simp_all
  have e0 := (hm 0 (by decide)).symm.trans ((congrArg s.get q0).trans (hm' 0 (by decide)))
  simp only [objL, List.getD_cons_zero, List.getD_cons_succ, injA, injB, Z26] at e0
  have q : ∀ a, a < 1 → ρ a = σ a := all1 q0
  clear hm hm'
  exact ⟨by first | rfl | (simp_all [Prod.ext_iff]; done) | exact e0, q⟩
 par := by
  intro x ρ σ h
  have h0 := h 0 (by decide)
  exact ⟨by first | rfl | simp only [h0], by first | exact fun _ _ => rfl | (intro a ha; simp only [h0])⟩
noncomputable def con_qfail : Con Try.prog 0 := sm_qfail.con
theorem con_qfail_at (b : List UInt8) (bad : Bool) (i0 : Nat)  (s : St) (hn : nodupB [i0] = true) (m0 : s.get i0 = some (.cells [inlL Z1n 1 b, .bool bad])) : con_qfail.rel [.pointer (some ⟨i0, 0, none⟩)] s (.tuple #[]) (s.set i0 (.cells [inlL Z1n 1 ([] : List UInt8), .bool true])) :=
 sm_qfail.at_ (b, bad) [i0] s _ trivial rfl hn rfl (all1 m0) rfl rfl
theorem qcount_fn : Try.cfg.fn 83 = some Try.f83 := Z0
theorem qcount_sc (b : List UInt8) (bad : Bool) (h0 : b.length ≤ 1000000000) (h1 : RdI b bad) : SC Try.prog 0 83 [.pointer (some ⟨0, 0, none⟩)] ((St.empty 0).new (.cells [inlL Z1n 1 b, .bool bad])) fun v s' => v = .int .u64 (((rdV b bad) : Nat) : Int) ∧ s'.n ≤ 400 ∧ ∀ a, a < 1 → s'.get a = some (objL [.cells [inlL Z1n 1 (rdR b bad), .bool (rdB b bad)]] a) := by
 obtain ⟨rc, hS, hC⟩ := rc_con (Z20 Try.cfgOk 300) [con_qfail, con_rcount] Z0;have hC91 := hC con_qfail (.head _);have hC62 := hC con_rcount (.tail _ (.head _));cases bad
 ·
  refine sc_body Try.cfgOk qcount_fn rfl ?_;refine Z1q ?_;refine kK Try.cfgOk hS ?_;refine Z1q ?_;refine kK Try.cfgOk hS ?_;refine Z1q (Z27 ?_);refine sk_live 92 ((fun a : Nat => [(0, .pointer (some ⟨0, 0, none⟩)), (3, .int .i64 ((a : Nat) : Int))]) 0) Z0 ⟨Z0, Z0, trivial⟩ fun m1 => ?_
  refine sk_st ((fun a : Nat => ((St.empty 0).new (.cells [inlL Z1n 1 b, .bool false]))) 0) Z0 ?_;refine (sk_while (k := 1) (N := 400) (live := (fun a : Nat => [(0, .pointer (some ⟨0, 0, none⟩)), (3, .int .i64 ((a : Nat) : Int))])) (M := (fun a : Nat => ((St.empty 0).new (.cells [inlL Z1n 1 b, .bool false])))) (fun a : Nat => (a ≤ 10) ∧ (a ≤ b.length) ∧ (Big b a)) (fun a : Nat => 10 - a) (fun (a : Nat) (o : Out) (lv : List (Nat × Value)) (M : St) => (o = .exit 0 ∧ (Stops b a) ∧ lv = [(0, .pointer (some ⟨0, 0, none⟩)), (3, .int .i64 ((a : Nat) : Int))] ∧ M = ((St.empty 0).new (.cells [inlL Z1n 1 b, .bool false])))) (Nat.zero_le _) (fun a ha => ?_) (fun a ha => ?_) (fun a m ha => ?_) (fun a m ha => ?_) 0 m1 ?_).up ?_
  ·exact ⟨Z0, ((Z1r 0).new _), (selfs (all_cons (o := .cells [inlL Z1n 1 b, .bool false]) Z0 (OSub.cells (.cons (sub_clo rfl) (.cons (sub_clo rfl) .nil))) (Z1u)))⟩
  ·exact ⟨.ptr ⟨Z9, rfl⟩, sub_clo rfl, trivial⟩
  ·exact ⟨Z0, Z0, trivial⟩
  ·obtain ⟨n, ea⟩ : ∃ z, z = a := ⟨_, rfl⟩;subst ea;obtain ⟨i0, i1, i2⟩ := ha;refine Z1q (Z1q ?_);refine Z1p Try.cfgOk hS ?_;refine aK 5 ?_;refine aM (lenB Try.cfg (St.empty 0) 42 (inlL Z1n 1 b)) (.int .i64 ((b.length : Nat) : Int)) (len_inl tokC Z0) ?_;refine aT (fun h2 => ?_) (fun h2 => ?_)
   ·have c3e : (decide ((((n : Nat) : Int) : Int) < ((b.length : Nat) : Int))) = true := Eq.trans Z0 h2;clear h2;have c3 : (((n : Nat) : Int) : Int) < ((b.length : Nat) : Int) := of_decide_eq_true c3e;clear c3e;refine aK 2 ?_;refine aT (fun h4 => ?_) (fun h4 => ?_)
    ·have c5e : (decide ((((n : Nat) : Int) : Int) < 10)) = true := Eq.trans Z0 h4;clear h4;have c5 : (((n : Nat) : Int) : Int) < 10 := of_decide_eq_true c5e;clear c5e;refine aK 7 ?_;refine aM (Z23 Try.cfg 42 (inlL Z1n 1 b) (.int .i64 ((n : Nat) : Int))) (elt (flatL Z1n b) (n * 1)) (idx_inlL tokC Z0 Zu) ?_;have hx6l : n < b.length := by omega
     refine Exists.elim (get_ex hx6l) fun x6 hx6 => ?_
     clear hx6l;refine aM (loadV Try.cfg (St.empty 0) 5 (elt (flatL Z1n b) (n * 1))) (.int .u8 ((x6.toNat : Nat) : Int)) (load_el1 (o := 0) tokC Z0 Z1z hx6 rfl) ?_;refine aT (fun h7 => ?_) (fun h7 => ?_)
     ·have c8e : (decide ((((x6.toNat : Nat) : Int) : Int) ≥ 128)) = true := Eq.trans Z0 h7;clear h7;have c8 : (((x6.toNat : Nat) : Int) : Int) ≥ 128 := of_decide_eq_true c8e;clear c8e;refine aN ?_;refine kT ?_;refine Z21 (Z27 ?_);refine Z1p Try.cfgOk hS ?_;refine aK 1 ?_;refine aE (v := .int .i64 (IntKind.wrap .i64 (((n : Nat) : Int) + 1))) (.int .i64 ((n + 1 : Nat) : Int)) (congrArg (Value.int .i64) (wrap_to Z5 Z5)) ?_;refine aN ?_;refine .inl ⟨n + 1, rfl, ⟨?_, ?_, ?_⟩, ?_, ⟨Z0, ⟨Z0, Z0, trivial⟩, ⟨.ptr ⟨Z9, rfl⟩, sub_clo rfl, trivial⟩, Zle, ⟨Z0, ((Z1r 0).new _), (selfs (all_cons (o := .cells [inlL Z1n 1 b, .bool false]) Z0 (OSub.cells (.cons (sub_clo rfl) (.cons (sub_clo rfl) .nil))) (Z1u)))⟩, Z1w Z0⟩⟩
      ·(try dsimp only); omega
      ·(try dsimp only); omega
      ·(try dsimp only); exact big_succ i2 Z4 Z5
      ·omega
     ·have c8e : (decide ((((x6.toNat : Nat) : Int) : Int) ≥ 128)) = false := Eq.trans Z0 h7;clear h7;have c8 : ¬ (((x6.toNat : Nat) : Int) : Int) ≥ 128 := of_decide_eq_false c8e;clear c8e;refine aN ?_;refine kF ?_;refine sk_exit ?_;dsimp only;refine .inr ⟨_, _, (fun h => Zo), ⟨rfl, ?_, rfl, rfl⟩, ⟨Z0, ⟨Z0, Z0, trivial⟩, ⟨.ptr ⟨Z9, rfl⟩, sub_clo rfl, trivial⟩, Zle, ⟨Z0, ((Z1r 0).new _), (selfs (all_cons (o := .cells [inlL Z1n 1 b, .bool false]) Z0 (OSub.cells (.cons (sub_clo rfl) (.cons (sub_clo rfl) .nil))) (Z1u)))⟩, Z1w Z0⟩⟩
      ·first | exact stops_end Z5 | exact stops_ten Z5 | exact stops_at Z4 Z5
    ·have c5e : (decide ((((n : Nat) : Int) : Int) < 10)) = false := Eq.trans Z0 h4;clear h4;have c5 : ¬ (((n : Nat) : Int) : Int) < 10 := of_decide_eq_false c5e;clear c5e;refine aN ?_;refine kF ?_;refine sk_exit ?_;dsimp only;refine .inr ⟨_, _, (fun h => Zo), ⟨rfl, ?_, rfl, rfl⟩, ⟨Z0, ⟨Z0, Z0, trivial⟩, ⟨.ptr ⟨Z9, rfl⟩, sub_clo rfl, trivial⟩, Zle, ⟨Z0, ((Z1r 0).new _), (selfs (all_cons (o := .cells [inlL Z1n 1 b, .bool false]) Z0 (OSub.cells (.cons (sub_clo rfl) (.cons (sub_clo rfl) .nil))) (Z1u)))⟩, Z1w Z0⟩⟩
     ·first | exact stops_end Z5 | exact stops_ten Z5 | exact stops_at Z4 Z5
   ·have c3e : (decide ((((n : Nat) : Int) : Int) < ((b.length : Nat) : Int))) = false := Eq.trans Z0 h2;clear h2;have c3 : ¬ (((n : Nat) : Int) : Int) < ((b.length : Nat) : Int) := of_decide_eq_false c3e;clear c3e;refine aN ?_;refine kF ?_;refine sk_exit ?_;dsimp only;refine .inr ⟨_, _, (fun h => Zo), ⟨rfl, ?_, rfl, rfl⟩, ⟨Z0, ⟨Z0, Z0, trivial⟩, ⟨.ptr ⟨Z9, rfl⟩, sub_clo rfl, trivial⟩, Zle, ⟨Z0, ((Z1r 0).new _), (selfs (all_cons (o := .cells [inlL Z1n 1 b, .bool false]) Z0 (OSub.cells (.cons (sub_clo rfl) (.cons (sub_clo rfl) .nil))) (Z1u)))⟩, Z1w Z0⟩⟩
    ·first | exact stops_end Z5 | exact stops_ten Z5 | exact stops_at Z4 Z5
  ·exact ⟨Zi, Zi, Z0n⟩
  rintro o e1 s1 ⟨a, lv1, M1, m1, ha, ⟨rfl, hx, rfl, rfl⟩, rfl, rfl⟩;obtain ⟨n, ea⟩ : ∃ z, z = a := ⟨_, rfl⟩;subst ea;obtain ⟨i0, i1, i2⟩ := ha;dsimp only;try rw [if_pos rfl]
  refine Z1q (Z1q ?_);refine Z1p Try.cfgOk hS ?_;refine aK 10 ?_;refine aM (lenB Try.cfg (St.empty 0) 42 (inlL Z1n 1 b)) (.int .i64 ((b.length : Nat) : Int)) (len_inl tokC Z0) ?_;refine aT (fun h9 => ?_) (fun h9 => ?_)
  ·have c10e : (decide ((((n : Nat) : Int) : Int) ≥ ((b.length : Nat) : Int))) = true := Eq.trans Z0 h9;clear h9;have c10 : (((n : Nat) : Int) : Int) ≥ ((b.length : Nat) : Int) := of_decide_eq_true c10e;clear c10e;refine aN ?_;refine kT ?_;refine Z1q ?_;refine Z1p Try.cfgOk hS ?_;refine aK 1 ?_;refine aC 91 [.pointer (some ⟨0, 0, none⟩)] (.tuple #[]) _ rfl (hC91 _ _ _ _ (con_qfail_at b false 0  _ Z0 Z0 )) ?_;refine Z24 ?_;refine Z1q ?_;refine kK Try.cfgOk hS ?_;refine Z1v ?_;exact ⟨[.int .u64 0], Z0, congrArg (Value.int .u64) Z7, Zle, all1 (Eq.trans (b := some (.cells [inlL Z1n 1 ([] : List UInt8), .bool true])) Z0 (congrArg some (show ((.cells [inlL Z1n 1 ([] : List UInt8), .bool true]) : AObj) = .cells [inlL Z1n 1 (rdR b false), .bool (rdB b false)] by first | rw [(res_bad rfl h1).2.1, (res_bad rfl h1).2.2] | rw [(res_none rfl (rd_stop i2 hx Z5)).2.1, (res_none rfl (rd_stop i2 hx Z5)).2.2] | rw [(res_none rfl (rd_bad i2 Z4 hx Z4)).2.1, (res_none rfl (rd_bad i2 Z4 hx Z4)).2.2] | rw [(res_some rfl (rd_good (n := n) (u := u) Z5 Z4)).2.1, (res_some rfl (rd_good (n := n) (u := u) Z5 Z4)).2.2])))⟩
  ·have c10e : (decide ((((n : Nat) : Int) : Int) ≥ ((b.length : Nat) : Int))) = false := Eq.trans Z0 h9;clear h9;have c10 : ¬ (((n : Nat) : Int) : Int) ≥ ((b.length : Nat) : Int) := of_decide_eq_false c10e;clear c10e;refine aK 3 ?_;refine aT (fun h11 => ?_) (fun h11 => ?_)
   ·have c12e : (decide ((((n : Nat) : Int) : Int) ≥ 10)) = true := Eq.trans Z0 h11;clear h11;have c12 : (((n : Nat) : Int) : Int) ≥ 10 := of_decide_eq_true c12e;clear c12e;refine aN ?_;refine kT ?_;refine Z1q ?_;refine Z1p Try.cfgOk hS ?_;refine aK 1 ?_;refine aC 91 [.pointer (some ⟨0, 0, none⟩)] (.tuple #[]) _ rfl (hC91 _ _ _ _ (con_qfail_at b false 0  _ Z0 Z0 )) ?_;refine Z24 ?_;refine Z1q ?_;refine kK Try.cfgOk hS ?_;refine Z1v ?_;exact ⟨[.int .u64 0], Z0, congrArg (Value.int .u64) Z7, Zle, all1 (Eq.trans (b := some (.cells [inlL Z1n 1 ([] : List UInt8), .bool true])) Z0 (congrArg some (show ((.cells [inlL Z1n 1 ([] : List UInt8), .bool true]) : AObj) = .cells [inlL Z1n 1 (rdR b false), .bool (rdB b false)] by first | rw [(res_bad rfl h1).2.1, (res_bad rfl h1).2.2] | rw [(res_none rfl (rd_stop i2 hx Z5)).2.1, (res_none rfl (rd_stop i2 hx Z5)).2.2] | rw [(res_none rfl (rd_bad i2 Z4 hx Z4)).2.1, (res_none rfl (rd_bad i2 Z4 hx Z4)).2.2] | rw [(res_some rfl (rd_good (n := n) (u := u) Z5 Z4)).2.1, (res_some rfl (rd_good (n := n) (u := u) Z5 Z4)).2.2])))⟩
   ·have c12e : (decide ((((n : Nat) : Int) : Int) ≥ 10)) = false := Eq.trans Z0 h11;clear h11;have c12 : ¬ (((n : Nat) : Int) : Int) ≥ 10 := of_decide_eq_false c12e;clear c12e;refine aN ?_;refine kF ?_;refine Z21 (Z1q ?_);refine kK Try.cfgOk hS ?_;refine Z1q (Z1q ?_);refine kK Try.cfgOk hS ?_;refine Z27 ?_;refine sk_live 92 ((fun a : Int × Nat => [(0, .pointer (some ⟨0, 0, none⟩)), (3, .int .i64 ((n : Nat) : Int)), (4, .int .u64 ((a.2 : Nat) : Int)), (5, .int .i64 a.1)]) (((n : Nat) : Int), 0)) Z0 ⟨Z0, Z0, Z0, Z0, trivial⟩ fun m13 => ?_
    refine sk_st ((fun a : Int × Nat => ((St.empty 0).new (.cells [inlL Z1n 1 b, .bool false]))) (((n : Nat) : Int), 0)) Z0 ?_;refine (sk_while (k := 1) (N := 400) (live := (fun a : Int × Nat => [(0, .pointer (some ⟨0, 0, none⟩)), (3, .int .i64 ((n : Nat) : Int)), (4, .int .u64 ((a.2 : Nat) : Int)), (5, .int .i64 a.1)])) (M := (fun a : Int × Nat => ((St.empty 0).new (.cells [inlL Z1n 1 b, .bool false])))) (fun a : Int × Nat => (-1 ≤ a.1) ∧ (a.1 ≤ (n : Int)) ∧ (a.2 = vl ((b.take (n + 1)).drop (a.1 + 1).toNat) % 18446744073709551616) ∧ (n < b.length) ∧ (n < 10)) (fun a : Int × Nat => (a.1 + 1).toNat) (fun (a : Int × Nat) (o : Out) (lv : List (Nat × Value)) (M : St) => (o = .exit 2 ∧ (a.2 = vl (b.take (n + 1)) % 18446744073709551616) ∧ lv = [(0, .pointer (some ⟨0, 0, none⟩)), (3, .int .i64 ((n : Nat) : Int)), (4, .int .u64 ((a.2 : Nat) : Int)), (5, .int .i64 a.1)] ∧ M = ((St.empty 0).new (.cells [inlL Z1n 1 b, .bool false])))) (Nat.zero_le _) (fun a ha => ?_) (fun a ha => ?_) (fun a m ha => ?_) (fun a m ha => ?_) (((n : Nat) : Int), 0) m13 ?_).up ?_
    ·exact ⟨Z0, ((Z1r 0).new _), (selfs (all_cons (o := .cells [inlL Z1n 1 b, .bool false]) Z0 (OSub.cells (.cons (sub_clo rfl) (.cons (sub_clo rfl) .nil))) (Z1u)))⟩
    ·exact ⟨.ptr ⟨Z9, rfl⟩, sub_clo rfl, sub_clo rfl, sub_clo rfl, trivial⟩
    ·exact ⟨Z0, Z0, Z0, Z0, trivial⟩
    ·obtain ⟨i, u⟩ := a;obtain ⟨g0, g1, g2, g3, g4⟩ := ha;dsimp only at g0 g1 g2 g3 g4;refine Z1q (Z1q ?_);refine Z1p Try.cfgOk hS ?_;refine aK 1 ?_;refine aT (fun h14 => ?_) (fun h14 => ?_)
     ·have c15e : (decide ((i : Int) ≥ 0)) = true := Eq.trans Z0 h14;clear h14;have c15 : (i : Int) ≥ 0 := of_decide_eq_true c15e;clear c15e;refine Z24 ?_;refine kT ?_;refine Z21 (Z1q (Z27 ?_));refine Z1p Try.cfgOk hS ?_;refine aK 1 ?_;refine aE (v := .int .u64 (IntKind.wrap .u64 (128 * ((u : Nat) : Int)))) (.int .u64 ((128 * u % 18446744073709551616 : Nat) : Int)) (congrArg (Value.int .u64) (mul_u64 rfl)) ?_;refine aK 5 ?_;refine aM (Z23 Try.cfg 42 (inlL Z1n 1 b) (.int .i64 i)) (elt (flatL Z1n b) (i.toNat * 1)) (idx_inlI tokC Z0 Z5 Z5) ?_;have hx16l : i.toNat < b.length := by omega
      refine Exists.elim (get_ex hx16l) fun x16 hx16 => ?_
      clear hx16l;refine aM (loadV Try.cfg (St.empty 0) 5 (elt (flatL Z1n b) (i.toNat * 1))) (.int .u8 ((x16.toNat : Nat) : Int)) (load_el1 (o := 0) tokC Z0 Z1z hx16 rfl) ?_;refine aE (v := .int .u8 (Int.tmod ((x16.toNat : Nat) : Int) 128)) (.int .u8 ((x16.toNat % 128 : Nat) : Int)) (congrArg (Value.int .u8) (rem_nat (y := 128) rfl)) ?_;refine aE (v := .int .u64 (IntKind.wrap .u64 ((x16.toNat % 128 : Nat) : Int))) (.int .u64 ((x16.toNat % 128 : Nat) : Int)) (congrArg (Value.int .u64) ((wrap_u64 _).trans (congrArg Nat.cast (u64_nat Z5)))) ?_;refine aE (v := .int .u64 (IntKind.wrap .u64 (((128 * u % 18446744073709551616 : Nat) : Int) + ((x16.toNat % 128 : Nat) : Int)))) (.int .u64 (((128 * u % 18446744073709551616 + x16.toNat % 128) % 18446744073709551616 : Nat) : Int)) (congrArg (Value.int .u64) (add_u64)) ?_;refine aN ?_;refine Z1p Try.cfgOk hS ?_;refine aK 1 ?_;refine aE (v := .int .i64 (IntKind.wrap .i64 (i - 1))) (.int .i64 (i - 1)) (congrArg (Value.int .i64) (wrap64 Z5)) ?_;refine aN ?_;refine .inl ⟨((i - 1), (128 * u % 18446744073709551616 + x16.toNat % 128) % 18446744073709551616), rfl, ⟨?_, ?_, ?_, ?_, ?_⟩, ?_, ⟨Z0, ⟨Z0, Z0, Z0, Z0, trivial⟩, ⟨.ptr ⟨Z9, rfl⟩, sub_clo rfl, sub_clo rfl, sub_clo rfl, trivial⟩, Zle, ⟨Z0, ((Z1r 0).new _), (selfs (all_cons (o := .cells [inlL Z1n 1 b, .bool false]) Z0 (OSub.cells (.cons (sub_clo rfl) (.cons (sub_clo rfl) .nil))) (Z1u)))⟩, Z1w Z0⟩⟩
      ·(try dsimp only); omega
      ·(try dsimp only); omega
      ·(try dsimp only); rw [show ((i - 1) + 1).toNat = i.toNat from Z5]; exact vl_step Z5 Z4 (by rw [g2, show (i + 1).toNat = i.toNat + 1 from Z5])
      ·(try dsimp only); assumption
      ·(try dsimp only); assumption
      ·dsimp only; omega
     ·have c15e : (decide ((i : Int) ≥ 0)) = false := Eq.trans Z0 h14;clear h14;have c15 : ¬ (i : Int) ≥ 0 := of_decide_eq_false c15e;clear c15e;refine Z24 ?_;refine kF ?_;refine sk_exit ?_;dsimp only;refine .inr ⟨_, _, (fun h => Zo), ⟨rfl, ?_, rfl, rfl⟩, ⟨Z0, ⟨Z0, Z0, Z0, Z0, trivial⟩, ⟨.ptr ⟨Z9, rfl⟩, sub_clo rfl, sub_clo rfl, sub_clo rfl, trivial⟩, Zle, ⟨Z0, ((Z1r 0).new _), (selfs (all_cons (o := .cells [inlL Z1n 1 b, .bool false]) Z0 (OSub.cells (.cons (sub_clo rfl) (.cons (sub_clo rfl) .nil))) (Z1u)))⟩, Z1w Z0⟩⟩
      ·exact vl_done g2 Z5
    ·exact ⟨Zi, Zi, by ((try dsimp only); first | done | (rw [show (((n : Nat) : Int) + 1).toNat = n + 1 from Z5]; exact vl_start)), Zi, Zi⟩
    rintro o e1 s1 ⟨a, lv1, M1, m13, ha, ⟨rfl, hx, rfl, rfl⟩, rfl, rfl⟩;obtain ⟨i, u⟩ := a;obtain ⟨g0, g1, g2, g3, g4⟩ := ha;dsimp only at hx g0 g1 g2 g3 g4;dsimp only;try rw [if_pos rfl]
    refine Z1q (Z1q ?_);refine Z1p Try.cfgOk hS ?_;refine aK 1 ?_;refine aC 62 [.int .u64 ((u : Nat) : Int)] (slL 1 1 ((uv u).length)) _ rfl (hC62 _ _ _ _ (con_rcount_at u 1 Z0y _ Z0 Z0 )) ?_;refine aN ?_;refine Z1q ?_;refine sk_drawL Try.cfgOk hS ?_;refine dK 1 ?_;refine ald_opF (v := .string (bstr (uv u))) (s1 := (((St.empty 0).new (.cells [inlL Z1n 1 b, .bool false])).new (rowL Z1n (uv u)))) Z0 Z0 (Eq.trans (b := convS Try.cfg (((St.empty 0).new (.cells [inlL Z1n 1 b, .bool false])).new (rowL Z1n (uv u))) 42 9 (slL 1 1 ((uv u).length))) Z0 (conv_rowB Z0 Z0)) Z0 ?_;refine dK 5 ?_;refine dE (v := .int .i64 (IntKind.wrap .i64 (((n : Nat) : Int) + 1))) (.int .i64 ((n + 1 : Nat) : Int)) (congrArg (Value.int .i64) (wrap_to Z5 Z5)) ?_;refine dM (sliceV Try.cfg 42 (inlL Z1n 1 b) none (some (.int .i64 ((n + 1 : Nat) : Int))) none) (inlL Z1n 1 (b.take (n + 1))) (cut_hi (m := n + 1) tokC Z0 Z1z Z5) ?_;refine ald_opF (v := .string (bstr (b.take (n + 1)))) (s1 := (((St.empty 0).new (.cells [inlL Z1n 1 b, .bool false])).new (rowL Z1n (uv u)))) Z0 Z0 (Eq.trans (b := convS Try.cfg (((St.empty 0).new (.cells [inlL Z1n 1 b, .bool false])).new (rowL Z1n (uv u))) 42 9 (inlL Z1n 1 (b.take (n + 1)))) Z0 (conv_inlB tokC Z0)) Z0 ?_;refine dT (fun h17 => ?_) (fun h17 => ?_)
    ·have c18e : (!((bstr (uv u)).toList == (bstr (b.take (n + 1))).toList)) = true := Eq.trans Z0 h17;clear h17;have c18 : ¬ uv u = b.take (n + 1) := bstr_f (not_t c18e);clear c18e;refine ald_nil ?_;refine kT ?_;refine Z1q ?_;refine Z1p Try.cfgOk hS ?_;refine aK 1 ?_;refine aC 91 [.pointer (some ⟨0, 0, none⟩)] (.tuple #[]) _ rfl (hC91 _ _ _ _ (con_qfail_at b false 0  _ Z0 Z0 )) ?_;refine Z24 ?_;refine Z1q ?_;refine kK Try.cfgOk hS ?_;refine Z1v ?_;exact ⟨[.int .u64 0], Z0, congrArg (Value.int .u64) Z7, Zle, all1 (Eq.trans (b := some (.cells [inlL Z1n 1 ([] : List UInt8), .bool true])) Z0 (congrArg some (show ((.cells [inlL Z1n 1 ([] : List UInt8), .bool true]) : AObj) = .cells [inlL Z1n 1 (rdR b false), .bool (rdB b false)] by first | rw [(res_bad rfl h1).2.1, (res_bad rfl h1).2.2] | rw [(res_none rfl (rd_stop i2 hx Z5)).2.1, (res_none rfl (rd_stop i2 hx Z5)).2.2] | rw [(res_none rfl (rd_bad i2 Z4 hx Z4)).2.1, (res_none rfl (rd_bad i2 Z4 hx Z4)).2.2] | rw [(res_some rfl (rd_good (n := n) (u := u) Z5 Z4)).2.1, (res_some rfl (rd_good (n := n) (u := u) Z5 Z4)).2.2])))⟩
    ·have c18e : (!((bstr (uv u)).toList == (bstr (b.take (n + 1))).toList)) = false := Eq.trans Z0 h17;clear h17;have c18 : uv u = b.take (n + 1) := bstr_t (not_f c18e);clear c18e;refine ald_nil ?_;refine kF ?_;refine Z21 (Z1q ?_);refine Z1p Try.cfgOk hS ?_;refine aK 6 ?_;refine aE (v := .int .i64 (IntKind.wrap .i64 (((n : Nat) : Int) + 1))) (.int .i64 ((n + 1 : Nat) : Int)) (congrArg (Value.int .i64) (wrap_to Z5 Z5)) ?_;refine aM (sliceV Try.cfg 42 (inlL Z1n 1 b) (some (.int .i64 ((n + 1 : Nat) : Int))) none none) (inlL Z1n 1 (b.drop (n + 1))) (cut_lo (m := n + 1) tokC Z0 Z1z Z5) ?_;refine aN ?_;refine Z1q ?_;refine kK Try.cfgOk hS ?_;refine Z1v ?_;exact ⟨[.int .u64 ((u : Nat) : Int)], Z0, congrArg (Value.int .u64) Z7, Zle, all1 (Eq.trans (b := some (.cells [inlL Z1n 1 (b.drop (n + 1)), .bool false])) Z0 (congrArg some (show ((.cells [inlL Z1n 1 (b.drop (n + 1)), .bool false]) : AObj) = .cells [inlL Z1n 1 (rdR b false), .bool (rdB b false)] by first | rw [(res_bad rfl h1).2.1, (res_bad rfl h1).2.2] | rw [(res_none rfl (rd_stop i2 hx Z5)).2.1, (res_none rfl (rd_stop i2 hx Z5)).2.2] | rw [(res_none rfl (rd_bad i2 Z4 hx Z4)).2.1, (res_none rfl (rd_bad i2 Z4 hx Z4)).2.2] | rw [(res_some rfl (rd_good (n := n) (u := u) Z5 Z4)).2.1, (res_some rfl (rd_good (n := n) (u := u) Z5 Z4)).2.2])))⟩
 ·
  refine sc_body Try.cfgOk qcount_fn rfl ?_;refine Z1q ?_;refine kK Try.cfgOk hS ?_;refine Z1q ?_;refine kK Try.cfgOk hS ?_;refine Z1q (Z27 ?_);refine sk_live 92 ((fun a : Nat => [(0, .pointer (some ⟨0, 0, none⟩)), (3, .int .i64 ((a : Nat) : Int))]) 0) Z0 ⟨Z0, Z0, trivial⟩ fun m19 => ?_
  refine sk_st ((fun a : Nat => ((St.empty 0).new (.cells [inlL Z1n 1 b, .bool true]))) 0) Z0 ?_;refine (sk_while (k := 1) (N := 400) (live := (fun a : Nat => [(0, .pointer (some ⟨0, 0, none⟩)), (3, .int .i64 ((a : Nat) : Int))])) (M := (fun a : Nat => ((St.empty 0).new (.cells [inlL Z1n 1 b, .bool true])))) (fun a : Nat => (a ≤ 10) ∧ (a ≤ b.length) ∧ (Big b a)) (fun a : Nat => 10 - a) (fun (a : Nat) (o : Out) (lv : List (Nat × Value)) (M : St) => (o = .exit 0 ∧ (Stops b a) ∧ lv = [(0, .pointer (some ⟨0, 0, none⟩)), (3, .int .i64 ((a : Nat) : Int))] ∧ M = ((St.empty 0).new (.cells [inlL Z1n 1 b, .bool true])))) (Nat.zero_le _) (fun a ha => ?_) (fun a ha => ?_) (fun a m ha => ?_) (fun a m ha => ?_) 0 m19 ?_).up ?_
  ·exact ⟨Z0, ((Z1r 0).new _), (selfs (all_cons (o := .cells [inlL Z1n 1 b, .bool true]) Z0 (OSub.cells (.cons (sub_clo rfl) (.cons (sub_clo rfl) .nil))) (Z1u)))⟩
  ·exact ⟨.ptr ⟨Z9, rfl⟩, sub_clo rfl, trivial⟩
  ·exact ⟨Z0, Z0, trivial⟩
  ·obtain ⟨n, ea⟩ : ∃ z, z = a := ⟨_, rfl⟩;subst ea;obtain ⟨i0, i1, i2⟩ := ha;refine Z1q (Z1q ?_);refine Z1p Try.cfgOk hS ?_;refine aK 5 ?_;refine aM (lenB Try.cfg (St.empty 0) 42 (inlL Z1n 1 b)) (.int .i64 ((b.length : Nat) : Int)) (len_inl tokC Z0) ?_;refine aT (fun h20 => ?_) (fun h20 => ?_)
   ·have c21e : (decide ((((n : Nat) : Int) : Int) < ((b.length : Nat) : Int))) = true := Eq.trans Z0 h20;clear h20;have c21 : (((n : Nat) : Int) : Int) < ((b.length : Nat) : Int) := of_decide_eq_true c21e;clear c21e;refine aK 2 ?_;refine aT (fun h22 => ?_) (fun h22 => ?_)
    ·have c23e : (decide ((((n : Nat) : Int) : Int) < 10)) = true := Eq.trans Z0 h22;clear h22;have c23 : (((n : Nat) : Int) : Int) < 10 := of_decide_eq_true c23e;clear c23e;refine aK 7 ?_;refine aM (Z23 Try.cfg 42 (inlL Z1n 1 b) (.int .i64 ((n : Nat) : Int))) (elt (flatL Z1n b) (n * 1)) (idx_inlL tokC Z0 Zu) ?_;have hx24l : n < b.length := by omega
     refine Exists.elim (get_ex hx24l) fun x24 hx24 => ?_
     clear hx24l;refine aM (loadV Try.cfg (St.empty 0) 5 (elt (flatL Z1n b) (n * 1))) (.int .u8 ((x24.toNat : Nat) : Int)) (load_el1 (o := 0) tokC Z0 Z1z hx24 rfl) ?_;refine aT (fun h25 => ?_) (fun h25 => ?_)
     ·have c26e : (decide ((((x24.toNat : Nat) : Int) : Int) ≥ 128)) = true := Eq.trans Z0 h25;clear h25;have c26 : (((x24.toNat : Nat) : Int) : Int) ≥ 128 := of_decide_eq_true c26e;clear c26e;refine aN ?_;refine kT ?_;refine Z21 (Z27 ?_);refine Z1p Try.cfgOk hS ?_;refine aK 1 ?_;refine aE (v := .int .i64 (IntKind.wrap .i64 (((n : Nat) : Int) + 1))) (.int .i64 ((n + 1 : Nat) : Int)) (congrArg (Value.int .i64) (wrap_to Z5 Z5)) ?_;refine aN ?_;refine .inl ⟨n + 1, rfl, ⟨?_, ?_, ?_⟩, ?_, ⟨Z0, ⟨Z0, Z0, trivial⟩, ⟨.ptr ⟨Z9, rfl⟩, sub_clo rfl, trivial⟩, Zle, ⟨Z0, ((Z1r 0).new _), (selfs (all_cons (o := .cells [inlL Z1n 1 b, .bool true]) Z0 (OSub.cells (.cons (sub_clo rfl) (.cons (sub_clo rfl) .nil))) (Z1u)))⟩, Z1w Z0⟩⟩
      ·(try dsimp only); omega
      ·(try dsimp only); omega
      ·(try dsimp only); exact big_succ i2 Z4 Z5
      ·omega
     ·have c26e : (decide ((((x24.toNat : Nat) : Int) : Int) ≥ 128)) = false := Eq.trans Z0 h25;clear h25;have c26 : ¬ (((x24.toNat : Nat) : Int) : Int) ≥ 128 := of_decide_eq_false c26e;clear c26e;refine aN ?_;refine kF ?_;refine sk_exit ?_;dsimp only;refine .inr ⟨_, _, (fun h => Zo), ⟨rfl, ?_, rfl, rfl⟩, ⟨Z0, ⟨Z0, Z0, trivial⟩, ⟨.ptr ⟨Z9, rfl⟩, sub_clo rfl, trivial⟩, Zle, ⟨Z0, ((Z1r 0).new _), (selfs (all_cons (o := .cells [inlL Z1n 1 b, .bool true]) Z0 (OSub.cells (.cons (sub_clo rfl) (.cons (sub_clo rfl) .nil))) (Z1u)))⟩, Z1w Z0⟩⟩
      ·first | exact stops_end Z5 | exact stops_ten Z5 | exact stops_at Z4 Z5
    ·have c23e : (decide ((((n : Nat) : Int) : Int) < 10)) = false := Eq.trans Z0 h22;clear h22;have c23 : ¬ (((n : Nat) : Int) : Int) < 10 := of_decide_eq_false c23e;clear c23e;refine aN ?_;refine kF ?_;refine sk_exit ?_;dsimp only;refine .inr ⟨_, _, (fun h => Zo), ⟨rfl, ?_, rfl, rfl⟩, ⟨Z0, ⟨Z0, Z0, trivial⟩, ⟨.ptr ⟨Z9, rfl⟩, sub_clo rfl, trivial⟩, Zle, ⟨Z0, ((Z1r 0).new _), (selfs (all_cons (o := .cells [inlL Z1n 1 b, .bool true]) Z0 (OSub.cells (.cons (sub_clo rfl) (.cons (sub_clo rfl) .nil))) (Z1u)))⟩, Z1w Z0⟩⟩
     ·first | exact stops_end Z5 | exact stops_ten Z5 | exact stops_at Z4 Z5
   ·have c21e : (decide ((((n : Nat) : Int) : Int) < ((b.length : Nat) : Int))) = false := Eq.trans Z0 h20;clear h20;have c21 : ¬ (((n : Nat) : Int) : Int) < ((b.length : Nat) : Int) := of_decide_eq_false c21e;clear c21e;refine aN ?_;refine kF ?_;refine sk_exit ?_;dsimp only;refine .inr ⟨_, _, (fun h => Zo), ⟨rfl, ?_, rfl, rfl⟩, ⟨Z0, ⟨Z0, Z0, trivial⟩, ⟨.ptr ⟨Z9, rfl⟩, sub_clo rfl, trivial⟩, Zle, ⟨Z0, ((Z1r 0).new _), (selfs (all_cons (o := .cells [inlL Z1n 1 b, .bool true]) Z0 (OSub.cells (.cons (sub_clo rfl) (.cons (sub_clo rfl) .nil))) (Z1u)))⟩, Z1w Z0⟩⟩
    ·first | exact stops_end Z5 | exact stops_ten Z5 | exact stops_at Z4 Z5
  ·exact ⟨Zi, Zi, Z0n⟩
  rintro o e1 s1 ⟨a, lv1, M1, m19, ha, ⟨rfl, hx, rfl, rfl⟩, rfl, rfl⟩;obtain ⟨n, ea⟩ : ∃ z, z = a := ⟨_, rfl⟩;subst ea;obtain ⟨i0, i1, i2⟩ := ha;dsimp only;try rw [if_pos rfl]
  refine Z1q (Z1q ?_);refine kK Try.cfgOk hS ?_;refine kT ?_;refine Z1q ?_;refine Z1p Try.cfgOk hS ?_;refine aK 1 ?_;refine aC 91 [.pointer (some ⟨0, 0, none⟩)] (.tuple #[]) _ rfl (hC91 _ _ _ _ (con_qfail_at b true 0  _ Z0 Z0 )) ?_;refine Z24 ?_;refine Z1q ?_;refine kK Try.cfgOk hS ?_;refine Z1v ?_;exact ⟨[.int .u64 0], Z0, congrArg (Value.int .u64) Z7, Zle, all1 (Eq.trans (b := some (.cells [inlL Z1n 1 ([] : List UInt8), .bool true])) Z0 (congrArg some (show ((.cells [inlL Z1n 1 ([] : List UInt8), .bool true]) : AObj) = .cells [inlL Z1n 1 (rdR b true), .bool (rdB b true)] by first | rw [(res_bad rfl h1).2.1, (res_bad rfl h1).2.2] | rw [(res_none rfl (rd_stop i2 hx Z5)).2.1, (res_none rfl (rd_stop i2 hx Z5)).2.2] | rw [(res_none rfl (rd_bad i2 Z4 hx Z4)).2.1, (res_none rfl (rd_bad i2 Z4 hx Z4)).2.2] | rw [(res_some rfl (rd_good (n := n) (u := u) Z5 Z4)).2.1, (res_some rfl (rd_good (n := n) (u := u) Z5 Z4)).2.2])))⟩
noncomputable def sm_qcount : Small Try.prog 0 83 ((List UInt8) × Bool) where
 k := 1
 A := fun z9 ρ => [.pointer (some ⟨(ρ 0), 0, none⟩)]
 M := fun z9 ρ => objL [.cells [inlL Z1n 1 z9.1, .bool z9.2]]
 M1 := fun z9 ρ => objL [.cells [inlL Z1n 1 (rdR z9.1 z9.2), .bool (rdB z9.1 z9.2)]]
 V := fun z9 ρ => .int .u64 (((rdV z9.1 z9.2) : Nat) : Int)
 Pre := fun z9 => (z9.1.length ≤ 1000000000) ∧ (RdI z9.1 z9.2)
 ch := [0]
 N := 400
 s0 := fun z9 => ((St.empty 0).new (.cells [inlL Z1n 1 z9.1, .bool z9.2]))
 hch := by decide
 hsame := fun x ρ => all1 (fun h => absurd (by decide) h)
 hG := rfl
 hn := fun x => rfl
 hwf := fun x => ((Z1r 0).new _)
 hget := fun x => all1 (by kernel_rfl)
 noloop := fun x ρ => all1 (fun h => h.elim)
 inA := fun x ρ R hR => .cons (.ptr (hR 0 _ (by decide))) .nil
 inM := fun x ρ R hR => all1 (OSub.cells (.cons (sub_clo rfl) (.cons (sub_clo rfl) .nil)))
 outM := fun x ρ R hR => all1 (OSub.cells (.cons (sub_clo rfl) (.cons (sub_clo rfl) .nil)))
 outV := fun x ρ R hR => sub_clo rfl
 dom := by
  intro x ρ a ha
  obtain rfl := List.mem_singleton.1 ha
  refine .inl fun β y h => ?_
  obtain ⟨_, _, _, h, _⟩ := h.cons_inv
  exact h.dom_ptr
 sc := by
  rintro ⟨a0, a1⟩ ⟨p0, p1⟩
  exact qcount_sc a0 a1 p0 p1
 det := by
  rintro ⟨a0, a1⟩ ρ ⟨b0, b1⟩ σ s h hm hm'
  simp only [injA, injB, Z26] at h
  have q0 : ρ 0 = σ 0 := by simp_all
  have e0 := (hm 0 (by decide)).symm.trans ((congrArg s.get q0).trans (hm' 0 (by decide)))
  simp only [objL, List.getD_cons_zero, List.getD_cons_succ, injA, injB, Z26] at e0
  have q : ∀ a, a < 1 → ρ a = σ a := all1 q0
  clear hm hm'
  exact ⟨by first | rfl | (simp_all [Prod.ext_iff]; done) | exact e0, q⟩
 par := by
  intro x ρ σ h
  have h0 := h 0 (by decide)
  exact ⟨by first | rfl | simp only [h0], by first | exact fun _ _ => rfl | (intro a ha; simp only [h0])⟩
noncomputable def con_qcount : Con Try.prog 0 := sm_qcount.con
theorem con_qcount_at (b : List UInt8) (bad : Bool) (i0 : Nat) (h0 : b.length ≤ 1000000000) (h1 : RdI b bad) (s : St) (hn : nodupB [i0] = true) (m0 : s.get i0 = some (.cells [inlL Z1n 1 b, .bool bad])) : con_qcount.rel [.pointer (some ⟨i0, 0, none⟩)] s (.int .u64 (((rdV b bad) : Nat) : Int)) (s.set i0 (.cells [inlL Z1n 1 (rdR b bad), .bool (rdB b bad)])) :=
 sm_qcount.at_ (b, bad) [i0] s _ ⟨h0, h1⟩ rfl hn rfl (all1 m0) rfl rfl
theorem qsmall_fn : Try.cfg.fn 65 = some Try.f65 := Z0
theorem qsmall_sc (b : List UInt8) (bad : Bool) (h0 : b.length ≤ 1000000000) (h1 : RdI b bad) : SC Try.prog 0 65 [.pointer (some ⟨0, 0, none⟩)] ((St.empty 0).new (.cells [inlL Z1n 1 b, .bool bad])) fun v s' => v = .int .i64 (smV b bad) ∧ s'.n ≤ 400 ∧ ∀ a, a < 1 → s'.get a = some (objL [.cells [inlL Z1n 1 (rdR b bad), .bool (rdB b bad)]] a) := by
 obtain ⟨rc, hS, hC⟩ := rc_con (Z20 Try.cfgOk 300) [con_qcount] Z0;have hC83 := hC con_qcount (.head _);refine sc_body Try.cfgOk qsmall_fn rfl ?_;refine Z1q ?_;refine kK Try.cfgOk hS ?_;refine Z1q ?_;refine Z1p Try.cfgOk hS ?_;refine aK 1 ?_;refine aC 83 [.pointer (some ⟨0, 0, none⟩)] (.int .u64 (((rdV b bad) : Nat) : Int)) _ rfl (hC83 _ _ _ _ (con_qcount_at b bad 0 Z0y Z0y _ Z0 Z0 )) ?_;refine aN ?_;refine Z1q (Z1q ?_);refine Z1p Try.cfgOk hS ?_;refine aK 1 ?_;refine aT (fun h1 => ?_) (fun h1 => ?_)
 ·have c2e : (decide (((((rdV b bad) : Nat) : Int) : Int) > 100000)) = true := Eq.trans Z0 h1;clear h1;have c2 : ((((rdV b bad) : Nat) : Int) : Int) > 100000 := of_decide_eq_true c2e;clear c2e;refine Z24 ?_;refine kT ?_;refine Z1q ?_;refine kK Try.cfgOk hS ?_;refine Z1v ?_;exact ⟨[.int .i64 (-1)], Z0, congrArg (Value.int .i64) Z06, Zle, all1 Z0⟩
 ·have c2e : (decide (((((rdV b bad) : Nat) : Int) : Int) > 100000)) = false := Eq.trans Z0 h1;clear h1;have c2 : ¬ ((((rdV b bad) : Nat) : Int) : Int) > 100000 := of_decide_eq_false c2e;clear c2e;refine Z24 ?_;refine kF ?_;refine Z21 (Z1q ?_);refine Z1p Try.cfgOk hS ?_;refine aK 1 ?_;refine aE (v := .int .i64 (IntKind.wrap .i64 (((rdV b bad) : Nat) : Int))) (.int .i64 (((rdV b bad) : Nat) : Int)) (congrArg (Value.int .i64) (wrap64 Z5)) ?_;refine aN ?_;refine Z1v ?_;exact ⟨[.int .i64 (((rdV b bad) : Nat) : Int)], Z0, congrArg (Value.int .i64) Z06, Zle, all1 Z0⟩
noncomputable def sm_qsmall : Small Try.prog 0 65 ((List UInt8) × Bool) where
 k := 1
 A := fun z9 ρ => [.pointer (some ⟨(ρ 0), 0, none⟩)]
 M := fun z9 ρ => objL [.cells [inlL Z1n 1 z9.1, .bool z9.2]]
 M1 := fun z9 ρ => objL [.cells [inlL Z1n 1 (rdR z9.1 z9.2), .bool (rdB z9.1 z9.2)]]
 V := fun z9 ρ => .int .i64 (smV z9.1 z9.2)
 Pre := fun z9 => (z9.1.length ≤ 1000000000) ∧ (RdI z9.1 z9.2)
 ch := [0]
 N := 400
 s0 := fun z9 => ((St.empty 0).new (.cells [inlL Z1n 1 z9.1, .bool z9.2]))
 hch := by decide
 hsame := fun x ρ => all1 (fun h => absurd (by decide) h)
 hG := rfl
 hn := fun x => rfl
 hwf := fun x => ((Z1r 0).new _)
 hget := fun x => all1 (by kernel_rfl)
 noloop := fun x ρ => all1 (fun h => h.elim)
 inA := fun x ρ R hR => .cons (.ptr (hR 0 _ (by decide))) .nil
 inM := fun x ρ R hR => all1 (OSub.cells (.cons (sub_clo rfl) (.cons (sub_clo rfl) .nil)))
 outM := fun x ρ R hR => all1 (OSub.cells (.cons (sub_clo rfl) (.cons (sub_clo rfl) .nil)))
 outV := fun x ρ R hR => sub_clo rfl
 dom := by
  intro x ρ a ha
  obtain rfl := List.mem_singleton.1 ha
  refine .inl fun β y h => ?_
  obtain ⟨_, _, _, h, _⟩ := h.cons_inv
  exact h.dom_ptr
 sc := by
  rintro ⟨a0, a1⟩ ⟨p0, p1⟩
  exact qsmall_sc a0 a1 p0 p1
 det := by
  rintro ⟨a0, a1⟩ ρ ⟨b0, b1⟩ σ s h hm hm'
  simp only [injA, injB, Z26] at h
  have q0 : ρ 0 = σ 0 := by simp_all
  have e0 := (hm 0 (by decide)).symm.trans ((congrArg s.get q0).trans (hm' 0 (by decide)))
  simp only [objL, List.getD_cons_zero, List.getD_cons_succ, injA, injB, Z26] at e0
  have q : ∀ a, a < 1 → ρ a = σ a := all1 q0
  clear hm hm'
  exact ⟨by first | rfl | (simp_all [Prod.ext_iff]; done) | exact e0, q⟩
 par := by
  intro x ρ σ h
  have h0 := h 0 (by decide)
  exact ⟨by first | rfl | simp only [h0], by first | exact fun _ _ => rfl | (intro a ha; simp only [h0])⟩
noncomputable def con_qsmall : Con Try.prog 0 := sm_qsmall.con
theorem con_qsmall_at (b : List UInt8) (bad : Bool) (i0 : Nat) (h0 : b.length ≤ 1000000000) (h1 : RdI b bad) (s : St) (hn : nodupB [i0] = true) (m0 : s.get i0 = some (.cells [inlL Z1n 1 b, .bool bad])) : con_qsmall.rel [.pointer (some ⟨i0, 0, none⟩)] s (.int .i64 (smV b bad)) (s.set i0 (.cells [inlL Z1n 1 (rdR b bad), .bool (rdB b bad)])) :=
 sm_qsmall.at_ (b, bad) [i0] s _ ⟨h0, h1⟩ rfl hn rfl (all1 m0) rfl rfl
theorem qnum_fn : Try.cfg.fn 66 = some Try.f66 := Z0
theorem qnum_sc (b : List UInt8) (bad : Bool) (h0 : b.length ≤ 1000000000) (h1 : RdI b bad) : SC Try.prog 0 66 [.pointer (some ⟨0, 0, none⟩)] ((St.empty 0).new (.cells [inlL Z1n 1 b, .bool bad])) fun v s' => v = .int .i64 (unf (rdV b bad)) ∧ s'.n ≤ 400 ∧ ∀ a, a < 1 → s'.get a = some (objL [.cells [inlL Z1n 1 (rdR b bad), .bool (rdB b bad)]] a) := by
 obtain ⟨rc, hS, hC⟩ := rc_con (Z20 Try.cfgOk 300) [con_qcount] Z0;have hC83 := hC con_qcount (.head _);refine sc_body Try.cfgOk qnum_fn rfl ?_;refine Z1q ?_;refine kK Try.cfgOk hS ?_;refine Z1q ?_;refine Z1p Try.cfgOk hS ?_;refine aK 1 ?_;refine aC 83 [.pointer (some ⟨0, 0, none⟩)] (.int .u64 (((rdV b bad) : Nat) : Int)) _ rfl (hC83 _ _ _ _ (con_qcount_at b bad 0 Z0y Z0y _ Z0 Z0 )) ?_;refine aN ?_;refine Z1q (Z1q ?_);refine Z1p Try.cfgOk hS ?_;refine aK 1 ?_;refine aE (v := .int .u64 (Int.tmod (((rdV b bad) : Nat) : Int) 2)) (.int .u64 (((rdV b bad) % 2 : Nat) : Int)) (congrArg (Value.int .u64) (rem_nat (y := 2) rfl)) ?_;refine aT (fun h1 => ?_) (fun h1 => ?_)
 ·have c2e : (((((rdV b bad) % 2 : Nat) : Int) : Int) == 1) = true := Eq.trans Z0 h1;clear h1;have c2 : ((((rdV b bad) % 2 : Nat) : Int) : Int) = 1 := eq_of_beq c2e;clear c2e;refine Z24 ?_;refine kT ?_;refine Z1q ?_;refine Z1p Try.cfgOk hS ?_;refine aK 1 ?_;refine aE (v := .int .u64 (IntKind.wrap .u64 (Int.tdiv (((rdV b bad) : Nat) : Int) 2))) (.int .u64 (((rdV b bad) / 2 : Nat) : Int)) (congrArg (Value.int .u64) (quo_nat (y := 2) Z0c rfl)) ?_;refine aE (v := .int .i64 (IntKind.wrap .i64 (((rdV b bad) / 2 : Nat) : Int))) (.int .i64 (((rdV b bad) / 2 : Nat) : Int)) (congrArg (Value.int .i64) (wrap64 Z0c)) ?_;refine aE (v := .int .i64 (IntKind.wrap .i64 (0 - (((rdV b bad) / 2 : Nat) : Int)))) (.int .i64 (-(((rdV b bad) / 2 : Nat) : Int))) (congrArg (Value.int .i64) ((congrArg (IntKind.wrap .i64) (Int.zero_sub _)).trans (wrap64 Z0c))) ?_;refine aE (v := .int .i64 (IntKind.wrap .i64 ((-(((rdV b bad) / 2 : Nat) : Int)) - 1))) (.int .i64 ((-(((rdV b bad) / 2 : Nat) : Int)) - 1)) (congrArg (Value.int .i64) (wrap64 Z0c)) ?_;refine aN ?_;refine Z1v ?_;exact ⟨[.int .i64 ((-(((rdV b bad) / 2 : Nat) : Int)) - 1)], Z0, congrArg (Value.int .i64) Z06, Zle, all1 Z0⟩
 ·have c2e : (((((rdV b bad) % 2 : Nat) : Int) : Int) == 1) = false := Eq.trans Z0 h1;clear h1;have c2 : ¬ ((((rdV b bad) % 2 : Nat) : Int) : Int) = 1 := ne_of_beq_false c2e;clear c2e;refine Z24 ?_;refine kF ?_;refine Z21 (Z1q ?_);refine Z1p Try.cfgOk hS ?_;refine aK 1 ?_;refine aE (v := .int .u64 (IntKind.wrap .u64 (Int.tdiv (((rdV b bad) : Nat) : Int) 2))) (.int .u64 (((rdV b bad) / 2 : Nat) : Int)) (congrArg (Value.int .u64) (quo_nat (y := 2) Z0c rfl)) ?_;refine aE (v := .int .i64 (IntKind.wrap .i64 (((rdV b bad) / 2 : Nat) : Int))) (.int .i64 (((rdV b bad) / 2 : Nat) : Int)) (congrArg (Value.int .i64) (wrap64 Z0c)) ?_;refine aN ?_;refine Z1v ?_;exact ⟨[.int .i64 (((rdV b bad) / 2 : Nat) : Int)], Z0, congrArg (Value.int .i64) Z06, Zle, all1 Z0⟩
noncomputable def sm_qnum : Small Try.prog 0 66 ((List UInt8) × Bool) where
 k := 1
 A := fun z9 ρ => [.pointer (some ⟨(ρ 0), 0, none⟩)]
 M := fun z9 ρ => objL [.cells [inlL Z1n 1 z9.1, .bool z9.2]]
 M1 := fun z9 ρ => objL [.cells [inlL Z1n 1 (rdR z9.1 z9.2), .bool (rdB z9.1 z9.2)]]
 V := fun z9 ρ => .int .i64 (unf (rdV z9.1 z9.2))
 Pre := fun z9 => (z9.1.length ≤ 1000000000) ∧ (RdI z9.1 z9.2)
 ch := [0]
 N := 400
 s0 := fun z9 => ((St.empty 0).new (.cells [inlL Z1n 1 z9.1, .bool z9.2]))
 hch := by decide
 hsame := fun x ρ => all1 (fun h => absurd (by decide) h)
 hG := rfl
 hn := fun x => rfl
 hwf := fun x => ((Z1r 0).new _)
 hget := fun x => all1 (by kernel_rfl)
 noloop := fun x ρ => all1 (fun h => h.elim)
 inA := fun x ρ R hR => .cons (.ptr (hR 0 _ (by decide))) .nil
 inM := fun x ρ R hR => all1 (OSub.cells (.cons (sub_clo rfl) (.cons (sub_clo rfl) .nil)))
 outM := fun x ρ R hR => all1 (OSub.cells (.cons (sub_clo rfl) (.cons (sub_clo rfl) .nil)))
 outV := fun x ρ R hR => sub_clo rfl
 dom := by
  intro x ρ a ha
  obtain rfl := List.mem_singleton.1 ha
  refine .inl fun β y h => ?_
  obtain ⟨_, _, _, h, _⟩ := h.cons_inv
  exact h.dom_ptr
 sc := by
  rintro ⟨a0, a1⟩ ⟨p0, p1⟩
  exact qnum_sc a0 a1 p0 p1
 det := by
  rintro ⟨a0, a1⟩ ρ ⟨b0, b1⟩ σ s h hm hm'
  simp only [injA, injB, Z26] at h
  have q0 : ρ 0 = σ 0 := by simp_all
  have e0 := (hm 0 (by decide)).symm.trans ((congrArg s.get q0).trans (hm' 0 (by decide)))
  simp only [objL, List.getD_cons_zero, List.getD_cons_succ, injA, injB, Z26] at e0
  have q : ∀ a, a < 1 → ρ a = σ a := all1 q0
  clear hm hm'
  exact ⟨by first | rfl | (simp_all [Prod.ext_iff]; done) | exact e0, q⟩
 par := by
  intro x ρ σ h
  have h0 := h 0 (by decide)
  exact ⟨by first | rfl | simp only [h0], by first | exact fun _ _ => rfl | (intro a ha; simp only [h0])⟩
noncomputable def con_qnum : Con Try.prog 0 := sm_qnum.con
theorem con_qnum_at (b : List UInt8) (bad : Bool) (i0 : Nat) (h0 : b.length ≤ 1000000000) (h1 : RdI b bad) (s : St) (hn : nodupB [i0] = true) (m0 : s.get i0 = some (.cells [inlL Z1n 1 b, .bool bad])) : con_qnum.rel [.pointer (some ⟨i0, 0, none⟩)] s (.int .i64 (unf (rdV b bad))) (s.set i0 (.cells [inlL Z1n 1 (rdR b bad), .bool (rdB b bad)])) :=
 sm_qnum.at_ (b, bad) [i0] s _ ⟨h0, h1⟩ rfl hn rfl (all1 m0) rfl rfl
theorem qdone_fn : Try.cfg.fn 67 = some Try.f67 := Z0
theorem qdone_sc (b : List UInt8) (bad : Bool)  : SC Try.prog 0 67 [.pointer (some ⟨0, 0, none⟩)] ((St.empty 0).new (.cells [inlL Z1n 1 b, .bool bad])) fun v s' => v = .bool (decide (bad = false ∧ b = [])) ∧ s'.n ≤ 400 ∧ ∀ a, a < 1 → s'.get a = some (objL [.cells [inlL Z1n 1 b, .bool bad]] a) := by
 have hS := Z20 Try.cfgOk 300;cases bad
 ·
  refine sc_body Try.cfgOk qdone_fn rfl ?_;refine Z1q ?_;refine kK Try.cfgOk hS ?_;refine Z1q ?_;refine Z1p Try.cfgOk hS ?_;refine aK 10 ?_;refine aM (lenB Try.cfg (St.empty 0) 42 (inlL Z1n 1 b)) (.int .i64 ((b.length : Nat) : Int)) (len_inl tokC Z0) ?_;refine aT (fun h1 => ?_) (fun h1 => ?_)
  ·have c2e : ((((b.length : Nat) : Int) : Int) == 0) = true := Eq.trans Z0 h1;clear h1;have c2 : (((b.length : Nat) : Int) : Int) = 0 := eq_of_beq c2e;clear c2e;refine aN ?_;refine Z1v ?_;exact ⟨[.bool true], Z0, congrArg Value.bool Zm, Zle, all1 Z0⟩
  ·have c2e : ((((b.length : Nat) : Int) : Int) == 0) = false := Eq.trans Z0 h1;clear h1;have c2 : ¬ (((b.length : Nat) : Int) : Int) = 0 := ne_of_beq_false c2e;clear c2e;refine aN ?_;refine Z1v ?_;exact ⟨[.bool false], Z0, congrArg Value.bool Zm, Zle, all1 Z0⟩
 ·
  refine sc_body Try.cfgOk qdone_fn rfl ?_;refine Z1q ?_;refine kK Try.cfgOk hS ?_;refine Z1q ?_;refine kK Try.cfgOk hS ?_;refine Z1v ?_;exact ⟨[.bool false], Z0, congrArg Value.bool Zm, Zle, all1 Z0⟩
noncomputable def sm_qdone : Small Try.prog 0 67 ((List UInt8) × Bool) where
 k := 1
 A := fun z9 ρ => [.pointer (some ⟨(ρ 0), 0, none⟩)]
 M := fun z9 ρ => objL [.cells [inlL Z1n 1 z9.1, .bool z9.2]]
 M1 := fun z9 ρ => objL [.cells [inlL Z1n 1 z9.1, .bool z9.2]]
 V := fun z9 ρ => .bool (decide (z9.2 = false ∧ z9.1 = []))
 Pre := fun z9 => True
 ch := []
 N := 400
 s0 := fun z9 => ((St.empty 0).new (.cells [inlL Z1n 1 z9.1, .bool z9.2]))
 hch := by decide
 hsame := fun x ρ => all1 (fun _ => rfl)
 hG := rfl
 hn := fun x => rfl
 hwf := fun x => ((Z1r 0).new _)
 hget := fun x => all1 (by kernel_rfl)
 noloop := fun x ρ => all1 (fun h => h.elim)
 inA := fun x ρ R hR => .cons (.ptr (hR 0 _ (by decide))) .nil
 inM := fun x ρ R hR => all1 (OSub.cells (.cons (sub_clo rfl) (.cons (sub_clo rfl) .nil)))
 outM := fun x ρ R hR => all1 (OSub.cells (.cons (sub_clo rfl) (.cons (sub_clo rfl) .nil)))
 outV := fun x ρ R hR => sub_clo rfl
 dom := by
  intro x ρ a ha
  cases ha
 sc := by
  rintro ⟨a0, a1⟩ _
  exact qdone_sc a0 a1
 det := by
  rintro ⟨a0, a1⟩ ρ ⟨b0, b1⟩ σ s h hm hm'
  simp only [injA, injB, Z26] at h
  have q0 : ρ 0 = σ 0 := by simp_all
  have e0 := (hm 0 (by decide)).symm.trans ((congrArg s.get q0).trans (hm' 0 (by decide)))
  simp only [objL, List.getD_cons_zero, List.getD_cons_succ, injA, injB, Z26] at e0
  have q : ∀ a, a < 1 → ρ a = σ a := all1 q0
  clear hm hm'
  exact ⟨by first | rfl | (simp_all [Prod.ext_iff]; done) | exact e0, q⟩
 par := by
  intro x ρ σ h
  have h0 := h 0 (by decide)
  exact ⟨by first | rfl | simp only [h0], by first | exact fun _ _ => rfl | (intro a ha; simp only [h0])⟩
noncomputable def con_qdone : Con Try.prog 0 := sm_qdone.con
theorem con_qdone_at (b : List UInt8) (bad : Bool) (i0 : Nat)  (s : St) (hn : nodupB [i0] = true) (m0 : s.get i0 = some (.cells [inlL Z1n 1 b, .bool bad])) : con_qdone.rel [.pointer (some ⟨i0, 0, none⟩)] s (.bool (decide (bad = false ∧ b = []))) s :=
 sm_qdone.at_ (b, bad) [i0] s _ trivial rfl hn rfl (all1 m0) rfl rfl
end Go.Proofs.Ytekeepgjegkedaa