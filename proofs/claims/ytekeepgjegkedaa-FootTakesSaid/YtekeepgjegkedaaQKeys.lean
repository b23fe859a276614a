/- Keys are read, by the document. -/
import Derived.Test.YtekeepgjegkedaaQReader
import Derived.Test.YtekeepgjegkedaaKit
set_option linter.unusedVariables false
set_option linter.unusedSimpArgs false
set_option linter.unnecessarySimpa false
set_option maxHeartbeats 4000000
set_option maxRecDepth 100000
namespace Go.Proofs.Ytekeepgjegkedaa
open Go.Ai
theorem qtake_fn : Try.cfg.fn 64 = some Try.f64 := Z0
theorem qtake_sc (b : List UInt8) (bad : Bool) (h0 : b.length ≤ 1000000000) (h1 : RdI b bad) : SC Try.prog 0 64 [.pointer (some ⟨0, 0, none⟩)] ((St.empty 0).new (.cells [inlL Z1n 1 b, .bool bad])) fun v s' => v = inlL Z1o 2 ((qkeys b bad).1) ∧ s'.n ≤ 400 ∧ ∀ a, a < 1 → s'.get a = some (objL [.cells [inlL Z1n 1 ((qkeys b bad).2.1), .bool ((qkeys b bad).2.2)]] a) := by
 obtain ⟨rc, hS, hC⟩ := rc_con (Z20 Try.cfgOk 300) [con_qsmall, con_qnum] Z0;have hC65 := hC con_qsmall (.head _);have hC66 := hC con_qnum (.tail _ (.head _));refine sc_iceK (k := 1) (N := 400) (v2 := inlL Z1o 2 ((qkeys b bad).1)) (Ms := objL [.cells [inlL Z1n 1 ((qkeys b bad).2.1), .bool ((qkeys b bad).2.2)]]) rfl ?_ (all1 (OSub.cells (.cons (sub_clo rfl) (.cons (sub_clo rfl) .nil))));refine sc_body Try.cfgOk qtake_fn rfl ?_;refine Z1q ?_;refine kK Try.cfgOk hS ?_;refine Z1q ?_;refine kK Try.cfgOk hS ?_;refine Z1q ?_;refine Z1p Try.cfgOk hS ?_;refine aK 1 ?_;refine aC 65 [.pointer (some ⟨0, 0, none⟩)] (.int .i64 (smV b bad)) _ rfl (hC65 _ _ _ _ (con_qsmall_at b bad 0 Zp Zp _ Z0 Z0 )) ?_;refine aN ?_;refine Z1q (Z1q ?_);refine kK Try.cfgOk hS ?_;refine Z27 ?_;refine sk_live 32 [(0, .pointer (some ⟨0, 0, none⟩)), (3, .slice none 0 0), (4, .int .i64 (smV b bad)), (5, .int .i64 0)] Z0 ⟨Z0, Z0, Z0, Z0, trivial⟩ fun m1 => ?_
 refine sk_st ((St.empty 0).new (.cells [inlL Z1n 1 (rdR b bad), .bool (rdB b bad)])) Z0 ?_;refine virt_at (n := 32) (t := 3) (sz := 2) [(0, .pointer (some ⟨0, 0, none⟩)), (3, slL 1 2 0), (4, .int .i64 (smV b bad)), (5, .int .i64 0)] Z9 ((Z1r 0).new _) Z0 Z0 Z0 fun m1v => ?_
 refine sk_live 32 ((fun a : Nat × (List Key) × (List UInt8) × Bool => [(0, .pointer (some ⟨0, 0, none⟩)), (3, slL 1 2 a.2.1.length), (4, .int .i64 (smV b bad)), (5, .int .i64 ((a.1 : Nat) : Int))]) (0, ([] : List Key), (rdR b bad), (rdB b bad))) Z0 ⟨Z0, Z0, Z0, Z0, trivial⟩ fun m2 => ?_
 refine sk_st ((fun a : Nat × (List Key) × (List UInt8) × Bool => (((St.empty 0).new (.cells [inlL Z1n 1 a.2.2.1, .bool a.2.2.2])).new (rowL Z1o a.2.1))) (0, ([] : List Key), (rdR b bad), (rdB b bad))) Z0 ?_;refine (sk_while (k := 2) (N := 400) (live := (fun a : Nat × (List Key) × (List UInt8) × Bool => [(0, .pointer (some ⟨0, 0, none⟩)), (3, slL 1 2 a.2.1.length), (4, .int .i64 (smV b bad)), (5, .int .i64 ((a.1 : Nat) : Int))])) (M := (fun a : Nat × (List Key) × (List UInt8) × Bool => (((St.empty 0).new (.cells [inlL Z1n 1 a.2.2.1, .bool a.2.2.2])).new (rowL Z1o a.2.1)))) (fun a : Nat × (List Key) × (List UInt8) × Bool => (a.2.1.length = a.1) ∧ ((a.2.1 ++ (qks ((smV b bad).toNat - a.1) a.2.2.1 a.2.2.2).1, (qks ((smV b bad).toNat - a.1) a.2.2.1 a.2.2.2).2) = qkeys b bad) ∧ (a.2.2.1.length ≤ 1000000000) ∧ (RdI a.2.2.1 a.2.2.2) ∧ (a.1 ≤ 100000)) (fun a : Nat × (List Key) × (List UInt8) × Bool => (smV b bad).toNat - a.1) (fun (a : Nat × (List Key) × (List UInt8) × Bool) (o : Out) (lv : List (Nat × Value)) (M : St) => (o = .exit 0 ∧ (a.2.2.2 = true ∨ (smV b bad).toNat - a.1 = 0) ∧ lv = [(0, .pointer (some ⟨0, 0, none⟩)), (3, slL 1 2 a.2.1.length), (4, .int .i64 (smV b bad)), (5, .int .i64 ((a.1 : Nat) : Int))] ∧ M = (((St.empty 0).new (.cells [inlL Z1n 1 a.2.2.1, .bool a.2.2.2])).new (rowL Z1o a.2.1)))) (Nat.zero_le _) (fun a ha => ?_) (fun a ha => ?_) (fun a m ha => ?_) (fun a m ha => ?_) (0, ([] : List Key), (rdR b bad), (rdB b bad)) m2 ?_).up ?_
 ·exact ⟨Z0, (((Z1r 0).new _).new _), (selfs (all_cons (o := .cells [inlL Z1n 1 a.2.2.1, .bool a.2.2.2]) Z0 (OSub.cells (.cons (sub_clo rfl) (.cons (sub_clo rfl) .nil))) (all_cons (o := rowL Z1o a.2.1) Z0 (OSub.arr (subs_clo (Z1t kcells_clo))) (Z1u))))⟩
 ·exact ⟨.ptr ⟨Z9, rfl⟩, .slice ⟨Z9, rfl⟩, sub_clo rfl, sub_clo rfl, trivial⟩
 ·exact ⟨Z0, Z0, Z0, Z0, trivial⟩
 ·obtain ⟨i, acc, cb, cbad⟩ := a;obtain ⟨i0, i1, i2, i3, i4⟩ := ha;dsimp only at i0 i1 i2 i3 i4;rcases cbad with _ | _
  ·
   refine Z1q (Z1q ?_);refine Z1p Try.cfgOk hS ?_;refine aK 2 ?_;refine aT (fun h3 => ?_) (fun h3 => ?_)
   ·have c4e : (decide ((((i : Nat) : Int) : Int) < (smV b bad))) = true := Eq.trans Z0 h3;clear h3;have c4 : (((i : Nat) : Int) : Int) < (smV b bad) := of_decide_eq_true c4e;clear c4e;refine aN ?_;refine kT ?_;refine Z21 (Z1q (Z27 (Z1q ?_)));refine Z1p Try.cfgOk hS ?_;refine aK 1 ?_;refine aC 65 [.pointer (some ⟨0, 0, none⟩)] (.int .i64 (smV cb false)) _ rfl (hC65 _ _ _ _ (con_qsmall_at cb false 0 Zp Zp _ Z0 Z0 )) ?_;refine aN ?_;refine Z1q ?_;refine Z1p Try.cfgOk hS ?_;refine aK 1 ?_;refine aC 66 [.pointer (some ⟨0, 0, none⟩)] (.int .i64 (unf (rdV (rdR cb false) (rdB cb false)))) _ rfl (hC66 _ _ _ _ (con_qnum_at (rdR cb false) (rdB cb false) 0 Zp Zp _ Z0 Z0 )) ?_;refine aN ?_;refine Z1p Try.cfgOk hS ?_;refine aK 3 ?_;refine al_opF (v := slL 1 2 (acc ++ [((smV cb false), (unf (rdV (rdR cb false) (rdB cb false))))]).length) (s1 := (((((St.empty 0).new (.cells [inlL Z1n 1 (rdR (rdR cb false) (rdB cb false)), .bool (rdB (rdR cb false) (rdB cb false))])).new (rowL Z1o acc)).new (.cells [.int .i64 (smV cb false), .int .i64 (unf (rdV (rdR cb false) (rdB cb false)))])).new (.arr [.int .i64 (smV cb false), .int .i64 (unf (rdV (rdR cb false) (rdB cb false)))] 0 false)).set 1 (rowL Z1o (acc ++ [((smV cb false), (unf (rdV (rdR cb false) (rdB cb false))))]))) Z0 Z0 (Eq.trans (b := appendV Try.cfg (((((St.empty 0).new (.cells [inlL Z1n 1 (rdR (rdR cb false) (rdB cb false)), .bool (rdB (rdR cb false) (rdB cb false))])).new (rowL Z1o acc)).new (.cells [.int .i64 (smV cb false), .int .i64 (unf (rdV (rdR cb false) (rdB cb false)))])).new (.arr [.int .i64 (smV cb false), .int .i64 (unf (rdV (rdR cb false) (rdB cb false)))] 0 false)) 22 (slL 1 2 acc.length) (.slice (some ⟨3, 0, some 2⟩) 1 2)) Z0 (app_rowL (l := acc) (l2 := [((smV cb false), (unf (rdV (rdR cb false) (rdB cb false))))]) (bytes := 16) tokC Z0 kcells_len kcells_one Z0 Z0 Z0 Zn)) ?_;refine aN ?_;refine Z1p Try.cfgOk hS ?_;refine aK 1 ?_;refine aE (v := .int .i64 (IntKind.wrap .i64 (((i : Nat) : Int) + 1))) (.int .i64 ((i + 1 : Nat) : Int)) (congrArg (Value.int .i64) (wrap_to Z5 Z5)) ?_;refine aN ?_;refine .inl ⟨(i + 1, (acc ++ [((smV cb false), (unf (rdV (rdR cb false) (rdB cb false))))]), (rdR (rdR cb false) (rdB cb false)), (rdB (rdR cb false) (rdB cb false))), rfl, ⟨?_, ?_, ?_, ?_, ?_⟩, ?_, ⟨Z0, ⟨Z0, Z0, Z0, Z0, trivial⟩, ⟨.ptr ⟨Z9, rfl⟩, .slice ⟨Z9, rfl⟩, sub_clo rfl, sub_clo rfl, trivial⟩, Zle, ⟨Z0, (((Z1r 0).new _).new _), (selfs (all_cons (o := .cells [inlL Z1n 1 (rdR (rdR cb false) (rdB cb false)), .bool (rdB (rdR cb false) (rdB cb false))]) Z0 (OSub.cells (.cons (sub_clo rfl) (.cons (sub_clo rfl) .nil))) (all_cons (o := rowL Z1o (acc ++ [((smV cb false), (unf (rdV (rdR cb false) (rdB cb false))))])) Z0 (OSub.arr (subs_clo (Z1t kcells_clo))) (Z1u))))⟩, Z1w Z0⟩⟩
    ·(try dsimp only); simp only [List.length_append, List.length_cons, List.length_nil]; omega
    ·(try dsimp only); subst i0; exact (qks_step Z5 Z9).trans i1
    ·(try dsimp only); have l1 := rdR_le cb false; have l2 := rdR_le (rdR cb false) (rdB cb false); omega
    ·(try dsimp only); exact rdI_step (rdI_step i3)
    ·(try dsimp only); have q := sm_le b bad; omega
    ·dsimp only; omega
   ·have c4e : (decide ((((i : Nat) : Int) : Int) < (smV b bad))) = false := Eq.trans Z0 h3;clear h3;have c4 : ¬ (((i : Nat) : Int) : Int) < (smV b bad) := of_decide_eq_false c4e;clear c4e;refine aN ?_;refine kF ?_;refine sk_exit ?_;dsimp only;refine .inr ⟨_, _, (fun h => Zo), ⟨rfl, ?_, rfl, rfl⟩, ⟨Z0, ⟨Z0, Z0, Z0, Z0, trivial⟩, ⟨.ptr ⟨Z9, rfl⟩, .slice ⟨Z9, rfl⟩, sub_clo rfl, sub_clo rfl, trivial⟩, Zle, ⟨Z0, (((Z1r 0).new _).new _), (selfs (all_cons (o := .cells [inlL Z1n 1 cb, .bool false]) Z0 (OSub.cells (.cons (sub_clo rfl) (.cons (sub_clo rfl) .nil))) (all_cons (o := rowL Z1o acc) Z0 (OSub.arr (subs_clo (Z1t kcells_clo))) (Z1u))))⟩, Z1w Z0⟩⟩
    ·first | exact .inl rfl | exact .inr Z5
  ·
   refine Z1q (Z1q ?_);refine Z1p Try.cfgOk hS ?_;refine aK 2 ?_;refine aT (fun h5 => ?_) (fun h5 => ?_)
   ·have c6e : (decide ((((i : Nat) : Int) : Int) < (smV b bad))) = true := Eq.trans Z0 h5;clear h5;have c6 : (((i : Nat) : Int) : Int) < (smV b bad) := of_decide_eq_true c6e;clear c6e;refine aN ?_;refine kF ?_;refine sk_exit ?_;dsimp only;refine .inr ⟨_, _, (fun h => Zo), ⟨rfl, ?_, rfl, rfl⟩, ⟨Z0, ⟨Z0, Z0, Z0, Z0, trivial⟩, ⟨.ptr ⟨Z9, rfl⟩, .slice ⟨Z9, rfl⟩, sub_clo rfl, sub_clo rfl, trivial⟩, Zle, ⟨Z0, (((Z1r 0).new _).new _), (selfs (all_cons (o := .cells [inlL Z1n 1 cb, .bool true]) Z0 (OSub.cells (.cons (sub_clo rfl) (.cons (sub_clo rfl) .nil))) (all_cons (o := rowL Z1o acc) Z0 (OSub.arr (subs_clo (Z1t kcells_clo))) (Z1u))))⟩, Z1w Z0⟩⟩
    ·first | exact .inl rfl | exact .inr Z5
   ·have c6e : (decide ((((i : Nat) : Int) : Int) < (smV b bad))) = false := Eq.trans Z0 h5;clear h5;have c6 : ¬ (((i : Nat) : Int) : Int) < (smV b bad) := of_decide_eq_false c6e;clear c6e;refine aN ?_;refine kF ?_;refine sk_exit ?_;dsimp only;refine .inr ⟨_, _, (fun h => Zo), ⟨rfl, ?_, rfl, rfl⟩, ⟨Z0, ⟨Z0, Z0, Z0, Z0, trivial⟩, ⟨.ptr ⟨Z9, rfl⟩, .slice ⟨Z9, rfl⟩, sub_clo rfl, sub_clo rfl, trivial⟩, Zle, ⟨Z0, (((Z1r 0).new _).new _), (selfs (all_cons (o := .cells [inlL Z1n 1 cb, .bool true]) Z0 (OSub.cells (.cons (sub_clo rfl) (.cons (sub_clo rfl) .nil))) (all_cons (o := rowL Z1o acc) Z0 (OSub.arr (subs_clo (Z1t kcells_clo))) (Z1u))))⟩, Z1w Z0⟩⟩
    ·first | exact .inl rfl | exact .inr Z5
 ·exact ⟨Zy, Zy, by ((try dsimp only); first | done | (have q := rdR_le b bad; omega)), Z18, Zi⟩
 rintro o e1 s1 ⟨a, lv1, M1, m2, ha, ⟨rfl, hx, rfl, rfl⟩, rfl, rfl⟩;obtain ⟨i, acc, cb, cbad⟩ := a;obtain ⟨i0, i1, i2, i3, i4⟩ := ha;dsimp only at hx i0 i1 i2 i3 i4;dsimp only;try rw [if_pos rfl]
 refine Z1q ?_;refine kK Try.cfgOk hS ?_;refine Z1v ?_;exact ⟨[slL 1 2 acc.length], Z0, fs_to (fs_rowL Z9 kcells_len kcells_clo kcells_one Zle Z0) (congrArg (inlL Z1o 2) (by have q := i1; rw [qks_stop hx, List.append_nil] at q; rw [← q])), Zle, all1 (Eq.trans (b := some (.cells [inlL Z1n 1 cb, .bool cbad])) Z0 (congrArg some (show ((.cells [inlL Z1n 1 cb, .bool cbad]) : AObj) = .cells [inlL Z1n 1 ((qkeys b bad).2.1), .bool ((qkeys b bad).2.2)] by have q := i1; rw [qks_stop hx, List.append_nil] at q; rw [← q])))⟩
noncomputable def sm_qtake : Small Try.prog 0 64 ((List UInt8) × Bool) where
 k := 1
 A := fun z9 ρ => [.pointer (some ⟨(ρ 0), 0, none⟩)]
 M := fun z9 ρ => objL [.cells [inlL Z1n 1 z9.1, .bool z9.2]]
 M1 := fun z9 ρ => objL [.cells [inlL Z1n 1 ((qkeys z9.1 z9.2).2.1), .bool ((qkeys z9.1 z9.2).2.2)]]
 V := fun z9 ρ => inlL Z1o 2 ((qkeys z9.1 z9.2).1)
 Pre := fun z9 => (z9.1.length ≤ 1000000000) ∧ (RdI z9.1 z9.2)
 ch := [0]
 N := 400
 s0 := fun z9 => ((St.empty 0).new (.cells [inlL Z1n 1 z9.1, .bool z9.2]))
 hch := by decide
 hsame := fun x ρ => all1 (fun h => absurd (by decide) h)
 hG := rfl
 hn := fun x => rfl
 hwf := fun x => ((Z1r 0).new _)
 hget := fun x => all1 (by kernel_rfl)
 noloop := fun x ρ => all1 (fun h => h.elim)
 inA := fun x ρ R hR => .cons (.ptr (hR 0 _ (by decide))) .nil
 inM := fun x ρ R hR => all1 (OSub.cells (.cons (sub_clo rfl) (.cons (sub_clo rfl) .nil)))
 outM := fun x ρ R hR => all1 (OSub.cells (.cons (sub_clo rfl) (.cons (sub_clo rfl) .nil)))
 outV := fun x ρ R hR => sub_clo rfl
 dom := by
  intro x ρ a ha
  obtain rfl := List.mem_singleton.1 ha
  refine .inl fun β y h => ?_
  obtain ⟨_, _, _, h, _⟩ := h.cons_inv
  exact h.dom_ptr
 sc := by
  rintro ⟨a0, a1⟩ ⟨p0, p1⟩
  exact qtake_sc a0 a1 p0 p1
 det := by
  rintro ⟨a0, a1⟩ ρ ⟨b0, b1⟩ σ s h hm hm'
  simp only [injA, injB, Z26] at h
  have q0 : ρ 0 = σ 0 := by simp_all
  have e0 := (hm 0 (by decide)).symm.trans ((congrArg s.get q0).trans (hm' 0 (by decide)))
  simp only [objL, List.getD_cons_zero, List.getD_cons_succ, injA, injB, Z26] at e0
  have q : ∀ a, a < 1 → ρ a = σ a := all1 q0
  clear hm hm'
  exact ⟨by first | rfl | (simp_all [Prod.ext_iff]; done) | exact e0, q⟩
 par := by
  intro x ρ σ h
  have h0 := h 0 (by decide)
  exact ⟨by first | rfl | simp only [h0], by first | exact fun _ _ => rfl | (intro a ha; simp only [h0])⟩
noncomputable def con_qtake : Con Try.prog 0 := sm_qtake.con
theorem con_qtake_at (b : List UInt8) (bad : Bool) (i0 : Nat) (h0 : b.length ≤ 1000000000) (h1 : RdI b bad) (s : St) (hn : nodupB [i0] = true) (m0 : s.get i0 = some (.cells [inlL Z1n 1 b, .bool bad])) : con_qtake.rel [.pointer (some ⟨i0, 0, none⟩)] s (inlL Z1o 2 ((qkeys b bad).1)) (s.set i0 (.cells [inlL Z1n 1 ((qkeys b bad).2.1), .bool ((qkeys b bad).2.2)])) :=
 sm_qtake.at_ (b, bad) [i0] s _ ⟨h0, h1⟩ rfl hn rfl (all1 m0) rfl rfl
end Go.Proofs.Ytekeepgjegkedaa