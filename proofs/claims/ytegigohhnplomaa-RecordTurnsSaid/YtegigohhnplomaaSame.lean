/- Two lists, two feet, two programs: the same? -/
import Derived.Test.YtegigohhnplomaaBase
import Derived.Test.YtegigohhnplomaaKit
set_option linter.unusedVariables false
set_option linter.unusedSimpArgs false
set_option linter.unnecessarySimpa false
set_option maxHeartbeats 4000000
set_option maxRecDepth 100000
namespace Go.Proofs.Ytegigohhnplomaa
open Go.Ai
theorem large_fn : Try.cfg.fn 7 = some Try.f7 := Z1
theorem large_sc (sq : Int) (vl : Bool) (fu : Int) (co : List Code) (rs : List Key) (ss : List Span) (ws : List Key) (wr : List Wr)  : SC Try.prog 0 7 [.agg #[.int .i64 sq, .bool vl, .int .i64 fu, inlL Z1w 6 co, inlL Z1v 2 rs, inlL Z1y 3 ss, inlL Z1v 2 ws, inlL Z21 4 wr]] (St.empty 0) fun v s' => v = .bool (decide (co.length > 60 ∨ rs.length > 40 ∨ ss.length > 40 ∨ ws.length > 40 ∨ wr.length > 60)) ∧ s'.n ≤ 400 := by
 have hS := Z24 Try.cfgOk 300;refine sc_ice0 (N := 400) (v2 := .bool (decide (co.length > 60 ∨ rs.length > 40 ∨ ss.length > 40 ∨ ws.length > 40 ∨ wr.length > 60))) (Q := fun v s' => FS 0 s' v (.bool (decide (co.length > 60 ∨ rs.length > 40 ∨ ss.length > 40 ∨ ws.length > 40 ∨ wr.length > 60))) ∧ s'.n ≤ 400) ?_ (fun _ _ h => h);refine Z2d Try.cfgOk large_fn rfl ?_;refine Z1u ?_;refine kK Try.cfgOk hS ?_;refine Z1u ?_;refine Z1t Try.cfgOk hS ?_;refine aK 3 ?_;refine aM (lenB Try.cfg (St.empty 0) 22 (inlL Z1w 6 co)) (.int .i64 ((co.length : Nat) : Int)) (len_inl tokC Z1) ?_;refine aT (fun h1 => ?_) (fun h1 => ?_)
 ·have c2e : (decide ((((co.length : Nat) : Int) : Int) > 60)) = true := Eq.trans Z1 h1;clear h1;have c2 : (((co.length : Nat) : Int) : Int) > 60 := of_decide_eq_true c2e;clear c2e;refine aN ?_;refine Z1z ?_;exact ⟨[.bool true], Z1, fs_to (Z23 rfl) (congrArg Value.bool Zj), Zle⟩
 ·have c2e : (decide ((((co.length : Nat) : Int) : Int) > 60)) = false := Eq.trans Z1 h1;clear h1;have c2 : ¬ (((co.length : Nat) : Int) : Int) > 60 := of_decide_eq_false c2e;clear c2e;refine aK 4 ?_;refine aM (lenB Try.cfg (St.empty 0) 25 (inlL Z1v 2 rs)) (.int .i64 ((rs.length : Nat) : Int)) (len_inl tokC Z1) ?_;refine aT (fun h3 => ?_) (fun h3 => ?_)
  ·have c4e : (decide ((((rs.length : Nat) : Int) : Int) > 40)) = true := Eq.trans Z1 h3;clear h3;have c4 : (((rs.length : Nat) : Int) : Int) > 40 := of_decide_eq_true c4e;clear c4e;refine aN ?_;refine Z1z ?_;exact ⟨[.bool true], Z1, fs_to (Z23 rfl) (congrArg Value.bool Zj), Zle⟩
  ·have c4e : (decide ((((rs.length : Nat) : Int) : Int) > 40)) = false := Eq.trans Z1 h3;clear h3;have c4 : ¬ (((rs.length : Nat) : Int) : Int) > 40 := of_decide_eq_false c4e;clear c4e;refine aK 5 ?_;refine aM (lenB Try.cfg (St.empty 0) 26 (inlL Z1y 3 ss)) (.int .i64 ((ss.length : Nat) : Int)) (len_inl tokC Z1) ?_;refine aT (fun h5 => ?_) (fun h5 => ?_)
   ·have c6e : (decide ((((ss.length : Nat) : Int) : Int) > 40)) = true := Eq.trans Z1 h5;clear h5;have c6 : (((ss.length : Nat) : Int) : Int) > 40 := of_decide_eq_true c6e;clear c6e;refine aN ?_;refine Z1z ?_;exact ⟨[.bool true], Z1, fs_to (Z23 rfl) (congrArg Value.bool Zj), Zle⟩
   ·have c6e : (decide ((((ss.length : Nat) : Int) : Int) > 40)) = false := Eq.trans Z1 h5;clear h5;have c6 : ¬ (((ss.length : Nat) : Int) : Int) > 40 := of_decide_eq_false c6e;clear c6e;refine aK 5 ?_;refine aM (lenB Try.cfg (St.empty 0) 25 (inlL Z1v 2 ws)) (.int .i64 ((ws.length : Nat) : Int)) (len_inl tokC Z1) ?_;refine aT (fun h7 => ?_) (fun h7 => ?_)
    ·have c8e : (decide ((((ws.length : Nat) : Int) : Int) > 40)) = true := Eq.trans Z1 h7;clear h7;have c8 : (((ws.length : Nat) : Int) : Int) > 40 := of_decide_eq_true c8e;clear c8e;refine aN ?_;refine Z1z ?_;exact ⟨[.bool true], Z1, fs_to (Z23 rfl) (congrArg Value.bool Zj), Zle⟩
    ·have c8e : (decide ((((ws.length : Nat) : Int) : Int) > 40)) = false := Eq.trans Z1 h7;clear h7;have c8 : ¬ (((ws.length : Nat) : Int) : Int) > 40 := of_decide_eq_false c8e;clear c8e;refine aK 4 ?_;refine aM (lenB Try.cfg (St.empty 0) 29 (inlL Z21 4 wr)) (.int .i64 ((wr.length : Nat) : Int)) (len_inl tokC Z1) ?_;refine aT (fun h9 => ?_) (fun h9 => ?_)
     ·have c10e : (decide ((((wr.length : Nat) : Int) : Int) > 60)) = true := Eq.trans Z1 h9;clear h9;have c10 : (((wr.length : Nat) : Int) : Int) > 60 := of_decide_eq_true c10e;clear c10e;refine aN ?_;refine Z1z ?_;exact ⟨[.bool true], Z1, fs_to (Z23 rfl) (congrArg Value.bool Zj), Zle⟩
     ·have c10e : (decide ((((wr.length : Nat) : Int) : Int) > 60)) = false := Eq.trans Z1 h9;clear h9;have c10 : ¬ (((wr.length : Nat) : Int) : Int) > 60 := of_decide_eq_false c10e;clear c10e;refine aN ?_;refine Z1z ?_;exact ⟨[.bool false], Z1, fs_to (Z23 rfl) (congrArg Value.bool Zj), Zle⟩
noncomputable def con_large : Con Try.prog 0 := Con.pure (α := Int × Bool × Int × (List Code) × (List Key) × (List Span) × (List Key) × (List Wr)) 7 (fun z9 => [.agg #[.int .i64 z9.1, .bool z9.2.1, .int .i64 z9.2.2.1, inlL Z1w 6 z9.2.2.2.1, inlL Z1v 2 z9.2.2.2.2.1, inlL Z1y 3 z9.2.2.2.2.2.1, inlL Z1v 2 z9.2.2.2.2.2.2.1, inlL Z21 4 z9.2.2.2.2.2.2.2]]) (fun z9 => .bool (decide (z9.2.2.2.1.length > 60 ∨ z9.2.2.2.2.1.length > 40 ∨ z9.2.2.2.2.2.1.length > 40 ∨ z9.2.2.2.2.2.2.1.length > 40 ∨ z9.2.2.2.2.2.2.2.length > 60))) (fun z9 => True) (by
 rintro ⟨a0, a1, a2, a3, a4, a5, a6, a7⟩ ⟨b0, b1, b2, b3, b4, b5, b6, b7⟩ h
 simp only [injA, ccells_iff, kcells_iff, scells_iff, wcells_iff] at h
 first | exact h | (simp only [Prod.ext_iff, h, and_self, and_true, true_and]; done) | simp_all [Prod.ext_iff]) (fun _ => rfl) (fun _ => rfl) 400 (by
 rintro ⟨a0, a1, a2, a3, a4, a5, a6, a7⟩ _
 exact large_sc a0 a1 a2 a3 a4 a5 a6 a7 )
theorem con_large_at (sq : Int) (vl : Bool) (fu : Int) (co : List Code) (rs : List Key) (ss : List Span) (ws : List Key) (wr : List Wr)  (s : St) : con_large.rel [.agg #[.int .i64 sq, .bool vl, .int .i64 fu, inlL Z1w 6 co, inlL Z1v 2 rs, inlL Z1y 3 ss, inlL Z1v 2 ws, inlL Z21 4 wr]] s (.bool (decide (co.length > 60 ∨ rs.length > 40 ∨ ss.length > 40 ∨ ws.length > 40 ∨ wr.length > 60))) s := con_pure (sq, vl, fu, co, rs, ss, ws, wr) trivial s
end Go.Proofs.Ytegigohhnplomaa