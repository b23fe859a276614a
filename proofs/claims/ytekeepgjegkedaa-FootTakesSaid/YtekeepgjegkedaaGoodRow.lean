/- A foot whose spans are a row: good? its bytes. -/
import Derived.Test.YtekeepgjegkedaaTakeKeys
import Derived.Test.YtekeepgjegkedaaGood
import Derived.Test.YtekeepgjegkedaaKit
set_option linter.unusedVariables false
set_option linter.unusedSimpArgs false
set_option linter.unnecessarySimpa false
set_option maxHeartbeats 4000000
set_option maxRecDepth 100000
namespace Go.Proofs.Ytekeepgjegkedaa
open Go.Ai
theorem goodPr_fn : Try.cfg.fn 11 = some Try.f11 := Z0
theorem goodPr_sc (rs : List Key) (ss : List Span) (ws : List Key) (h0 : rs.length ≤ 1000000) (h1 : ss.length ≤ 1000000) (h2 : ws.length ≤ 1000000) : SC Try.prog 0 11 [.agg #[inlL Z1o 2 rs, slL 0 3 ss.length, inlL Z1o 2 ws]] ((St.empty 0).new (rowL Z1s ss)) fun v s' => v = .bool (tf (goodP rs ss ws)) ∧ s'.n ≤ 400 ∧ ∀ a, a < 1 → s'.get a = some (objL [rowL Z1s ss] a) := by
 obtain ⟨rc, hS, hC⟩ := rc_con (Z20 Try.cfgOk 300) [con_table, con_bySpan, con_apart, con_risingP] Z0;have hC34 := hC con_table (.head _);have hC35 := hC con_bySpan (.tail _ (.head _));have hC36 := hC con_apart (.tail _ (.tail _ (.head _)));have hC37 := hC con_risingP (.tail _ (.tail _ (.tail _ (.head _))));refine sc_body Try.cfgOk goodPr_fn rfl ?_;refine Z1q ?_;refine kK Try.cfgOk hS ?_;refine Z1q (Z1q ?_);refine kK Try.cfgOk hS ?_;refine Z27 ?_;refine sk_live 59 ((fun a : Nat => [(1, .pointer (some ⟨1, 0, none⟩)), (6, slL 0 3 ss.length), (7, .int .i64 ((ss.length : Nat) : Int)), (8, .int .i64 ((a : Nat) : Int))]) 0) Z0 ⟨Z0, Z0, Z0, Z0, trivial⟩ fun m1 => ?_
 refine sk_st ((fun a : Nat => (((St.empty 0).new (rowL Z1s ss)).new (.cells [inlL Z1o 2 rs, slL 0 3 ss.length, inlL Z1o 2 ws]))) 0) Z0 ?_;refine (sk_while (k := 2) (N := 400) (live := (fun a : Nat => [(1, .pointer (some ⟨1, 0, none⟩)), (6, slL 0 3 ss.length), (7, .int .i64 ((ss.length : Nat) : Int)), (8, .int .i64 ((a : Nat) : Int))])) (M := (fun a : Nat => (((St.empty 0).new (rowL Z1s ss)).new (.cells [inlL Z1o 2 rs, slL 0 3 ss.length, inlL Z1o 2 ws])))) (fun a : Nat => (a ≤ ss.length) ∧ (NoI (fun a : Nat => badF ss a) a)) (fun a : Nat => ss.length - a) (fun (a : Nat) (o : Out) (lv : List (Nat × Value)) (M : St) => (o = .exit 0 ∧ (¬ a < ss.length) ∧ lv = [(1, .pointer (some ⟨1, 0, none⟩)), (6, slL 0 3 ss.length), (7, .int .i64 ((ss.length : Nat) : Int)), (8, .int .i64 ((a : Nat) : Int))] ∧ M = (((St.empty 0).new (rowL Z1s ss)).new (.cells [inlL Z1o 2 rs, slL 0 3 ss.length, inlL Z1o 2 ws]))) ∨ (o = .ret ∧ (a < ss.length ∧ (badF ss a)) ∧ lv = [(2, .bool false)] ∧ M = (((St.empty 0).new (rowL Z1s ss)).new (.cells [inlL Z1o 2 rs, slL 0 3 ss.length, inlL Z1o 2 ws])))) (Nat.zero_le _) (fun a ha => ?_) (fun a ha => ?_) (fun a m ha => ?_) (fun a m ha => ?_) 0 m1 ?_).up ?_
 ·exact ⟨Z0, (((Z1r 0).new _).new _), (selfs (all_cons (o := rowL Z1s ss) Z0 (OSub.arr (subs_clo (Z1t scells_clo))) (all_cons (o := .cells [inlL Z1o 2 rs, slL 0 3 ss.length, inlL Z1o 2 ws]) Z0 (OSub.cells (.cons (sub_clo rfl) (.cons (.slice ⟨Z9, rfl⟩) (.cons (sub_clo rfl) .nil)))) (Z1u))))⟩
 ·exact ⟨.ptr ⟨Z9, rfl⟩, .slice ⟨Z9, rfl⟩, sub_clo rfl, sub_clo rfl, trivial⟩
 ·exact ⟨Z0, Z0, Z0, Z0, trivial⟩
 ·obtain ⟨i, ea⟩ : ∃ z, z = a := ⟨_, rfl⟩;subst ea;obtain ⟨i0, i1⟩ := ha;refine Z1q ?_;refine Z1p Try.cfgOk hS ?_;refine aT (fun h2 => ?_) (fun h2 => ?_)
  ·have c3e : (decide ((((i : Nat) : Int) : Int) < ((ss.length : Nat) : Int))) = true := Eq.trans Z0 h2;clear h2;have c3 : (((i : Nat) : Int) : Int) < ((ss.length : Nat) : Int) := of_decide_eq_true c3e;clear c3e;refine Z24 ?_;refine Z1q ?_;refine kT ?_;refine Z21 (Z1q (Z27 (Z1q ?_)));refine Z1p Try.cfgOk hS ?_;refine aK 1 ?_;refine aM (Z23 Try.cfg 23 (slL 0 3 ss.length) (.int .i64 ((i : Nat) : Int))) (.pointer (some ⟨0, i * 3, some (ss.length * 3)⟩)) (idx_rowL Z0 Z5) ?_;have hx4l : i < ss.length := by omega
   refine Exists.elim (get_ex hx4l) fun x4 hx4 => ?_
   clear hx4l;refine aM (loadV Try.cfg (((St.empty 0).new (rowL Z1s ss)).new (.cells [inlL Z1o 2 rs, slL 0 3 ss.length, inlL Z1o 2 ws])) 32 (.pointer (some ⟨0, i * 3, some (ss.length * 3)⟩))) (.agg #[.int .i64 x4.1, .int .i64 x4.2.1, .int .i64 x4.2.2]) (load_rowL (l := ss) Z0 scells_len Z0 hx4) ?_;refine aN ?_;refine Z1q ?_;refine sk_drawL Try.cfgOk hS ?_;refine dK 2 ?_;refine dB 34 [.int .i64 x4.1] (decide (0 ≤ x4.1 ∧ x4.1 < 4)) _ rfl (hC34 _ _ _ _ (con_table_at x4.1  _)) (fun h5 => ?_) (fun h5 => ?_)
   ·have c6 : 0 ≤ x4.1 ∧ x4.1 < 4 := of_decide_eq_true h5;clear h5;refine dK 6 ?_;refine dT (fun h7 => ?_) (fun h7 => ?_)
    ·have c8e : (decide ((x4.2.1 : Int) > x4.2.2)) = true := Eq.trans Z0 h7;clear h7;have c8 : (x4.2.1 : Int) > x4.2.2 := of_decide_eq_true c8e;clear c8e;refine dK 27 ?_;refine ald_nil ?_;refine kT ?_;refine Z1q ?_;refine kK Try.cfgOk hS ?_;refine Z1v ?_;refine .inr ⟨_, _, (fun h => Zo), .inr ⟨rfl, ?_, rfl, rfl⟩, ⟨Z0, ⟨Z0, trivial⟩, ⟨sub_clo rfl, trivial⟩, Zle, ⟨Z0, (((Z1r 0).new _).new _), (selfs (all_cons (o := rowL Z1s ss) Z0 (OSub.arr (subs_clo (Z1t scells_clo))) (all_cons (o := .cells [inlL Z1o 2 rs, slL 0 3 ss.length, inlL Z1o 2 ws]) Z0 (OSub.cells (.cons (sub_clo rfl) (.cons (.slice ⟨Z9, rfl⟩) (.cons (sub_clo rfl) .nil)))) (Z1u))))⟩, Z1w Z0⟩⟩
     ·first | (refine ⟨Z5, ?_⟩; first | (rw [badF_iff2 Z4 Z4]; omega) | (rw [badF_iff Z4]; first | exact .inl Z5 | exact .inr (.inl Z5))) | (rw [badF_iff2 Z4 Z4]; omega) | (rw [badF_iff Z4]; rintro (h | h | ⟨h, _⟩) <;> omega)
    ·have c8e : (decide ((x4.2.1 : Int) > x4.2.2)) = false := Eq.trans Z0 h7;clear h7;have c8 : ¬ (x4.2.1 : Int) > x4.2.2 := of_decide_eq_false c8e;clear c8e;refine dK 3 ?_;refine dT (fun h9 => ?_) (fun h9 => ?_)
     ·have c10e : (decide ((((i : Nat) : Int) : Int) > 0)) = true := Eq.trans Z0 h9;clear h9;have c10 : (((i : Nat) : Int) : Int) > 0 := of_decide_eq_true c10e;clear c10e;refine dK 4 ?_;refine dE (v := .int .i64 (IntKind.wrap .i64 (((i : Nat) : Int) - 1))) (.int .i64 ((i - 1 : Nat) : Int)) (congrArg (Value.int .i64) (wrap_to Z5 Z5)) ?_;refine dM (Z23 Try.cfg 23 (slL 0 3 ss.length) (.int .i64 ((i - 1 : Nat) : Int))) (.pointer (some ⟨0, (i - 1) * 3, some (ss.length * 3)⟩)) (idx_rowL Z0 Z5) ?_;have hx11l : (i - 1) < ss.length := by omega
      refine Exists.elim (get_ex hx11l) fun x11 hx11 => ?_
      clear hx11l;refine dM (loadV Try.cfg ((((St.empty 0).new (rowL Z1s ss)).new (.cells [inlL Z1o 2 rs, slL 0 3 ss.length, inlL Z1o 2 ws])).new (.cells [.int .i64 x4.1, .int .i64 x4.2.1, .int .i64 x4.2.2])) 32 (.pointer (some ⟨0, (i - 1) * 3, some (ss.length * 3)⟩))) (.agg #[.int .i64 x11.1, .int .i64 x11.2.1, .int .i64 x11.2.2]) (load_rowL (l := ss) Z0 scells_len Z0 hx11) ?_;refine dK 1 ?_;refine dC 35 [.agg #[.int .i64 x11.1, .int .i64 x11.2.1, .int .i64 x11.2.2], .agg #[.int .i64 x4.1, .int .i64 x4.2.1, .int .i64 x4.2.2]] (.int .i64 (orL [cmpI x11.1 x4.1, cmpI x11.2.1 x4.2.1, cmpI x11.2.2 x4.2.2])) _ rfl (hC35 _ _ _ _ (con_bySpan_at x11.1 x11.2.1 x11.2.2 x4.1 x4.2.1 x4.2.2  _)) ?_;refine dT (fun h12 => ?_) (fun h12 => ?_)
      ·have c13e : (decide (((orL [cmpI x11.1 x4.1, cmpI x11.2.1 x4.2.1, cmpI x11.2.2 x4.2.2]) : Int) ≥ 0)) = true := Eq.trans Z0 h12;clear h12;have c13 : ((orL [cmpI x11.1 x4.1, cmpI x11.2.1 x4.2.1, cmpI x11.2.2 x4.2.2]) : Int) ≥ 0 := of_decide_eq_true c13e;clear c13e;refine dK 13 ?_;refine ald_nil ?_;refine kT ?_;refine Z1q ?_;refine kK Try.cfgOk hS ?_;refine Z1v ?_;refine .inr ⟨_, _, (fun h => Zo), .inr ⟨rfl, ?_, rfl, rfl⟩, ⟨Z0, ⟨Z0, trivial⟩, ⟨sub_clo rfl, trivial⟩, Zle, ⟨Z0, (((Z1r 0).new _).new _), (selfs (all_cons (o := rowL Z1s ss) Z0 (OSub.arr (subs_clo (Z1t scells_clo))) (all_cons (o := .cells [inlL Z1o 2 rs, slL 0 3 ss.length, inlL Z1o 2 ws]) Z0 (OSub.cells (.cons (sub_clo rfl) (.cons (.slice ⟨Z9, rfl⟩) (.cons (sub_clo rfl) .nil)))) (Z1u))))⟩, Z1w Z0⟩⟩
       ·first | (refine ⟨Z5, ?_⟩; first | (rw [badF_iff2 Z4 Z4]; omega) | (rw [badF_iff Z4]; first | exact .inl Z5 | exact .inr (.inl Z5))) | (rw [badF_iff2 Z4 Z4]; omega) | (rw [badF_iff Z4]; rintro (h | h | ⟨h, _⟩) <;> omega)
      ·have c13e : (decide (((orL [cmpI x11.1 x4.1, cmpI x11.2.1 x4.2.1, cmpI x11.2.2 x4.2.2]) : Int) ≥ 0)) = false := Eq.trans Z0 h12;clear h12;have c13 : ¬ ((orL [cmpI x11.1 x4.1, cmpI x11.2.1 x4.2.1, cmpI x11.2.2 x4.2.2]) : Int) ≥ 0 := of_decide_eq_false c13e;clear c13e;refine dK 4 ?_;refine dE (v := .int .i64 (IntKind.wrap .i64 (((i : Nat) : Int) - 1))) (.int .i64 ((i - 1 : Nat) : Int)) (congrArg (Value.int .i64) (wrap_to Z5 Z5)) ?_;refine dM (Z23 Try.cfg 23 (slL 0 3 ss.length) (.int .i64 ((i - 1 : Nat) : Int))) (.pointer (some ⟨0, (i - 1) * 3, some (ss.length * 3)⟩)) (idx_rowL Z0 Z5) ?_;refine dM (loadV Try.cfg ((((St.empty 0).new (rowL Z1s ss)).new (.cells [inlL Z1o 2 rs, slL 0 3 ss.length, inlL Z1o 2 ws])).new (.cells [.int .i64 x4.1, .int .i64 x4.2.1, .int .i64 x4.2.2])) 32 (.pointer (some ⟨0, (i - 1) * 3, some (ss.length * 3)⟩))) (.agg #[.int .i64 x11.1, .int .i64 x11.2.1, .int .i64 x11.2.2]) (load_rowL (l := ss) Z0 scells_len Z0 hx11) ?_;refine dK 1 ?_;refine dB 36 [.agg #[.int .i64 x11.1, .int .i64 x11.2.1, .int .i64 x11.2.2], .agg #[.int .i64 x4.1, .int .i64 x4.2.1, .int .i64 x4.2.2]] (decide (¬ x11.1 = x4.1 ∨ x11.2.2 < 9223372036854775806 ∧ IntKind.wrap .i64 (x11.2.2 + 1) < x4.2.1)) _ rfl (hC36 _ _ _ _ (con_apart_at x11.1 x11.2.1 x11.2.2 x4.1 x4.2.1 x4.2.2  _)) (fun h14 => ?_) (fun h14 => ?_)
       ·have c15 : ¬ x11.1 = x4.1 ∨ x11.2.2 < 9223372036854775806 ∧ IntKind.wrap .i64 (x11.2.2 + 1) < x4.2.1 := of_decide_eq_true h14;clear h14;refine dK 4 ?_;refine ald_nil ?_;refine kF ?_;refine Z21 ?_;refine Z1p Try.cfgOk hS ?_;refine aE (v := .int .i64 (IntKind.wrap .i64 (((i : Nat) : Int) + 1))) (.int .i64 ((i + 1 : Nat) : Int)) (congrArg (Value.int .i64) (wrap_to Z5 Z5)) ?_;refine aN ?_;refine .inl ⟨i + 1, rfl, ⟨?_, ?_⟩, ?_, ⟨Z0, ⟨Z0, Z0, Z0, Z0, trivial⟩, ⟨.ptr ⟨Z9, rfl⟩, .slice ⟨Z9, rfl⟩, sub_clo rfl, sub_clo rfl, trivial⟩, Zle, ⟨Z0, (((Z1r 0).new _).new _), (selfs (all_cons (o := rowL Z1s ss) Z0 (OSub.arr (subs_clo (Z1t scells_clo))) (all_cons (o := .cells [inlL Z1o 2 rs, slL 0 3 ss.length, inlL Z1o 2 ws]) Z0 (OSub.cells (.cons (sub_clo rfl) (.cons (.slice ⟨Z9, rfl⟩) (.cons (sub_clo rfl) .nil)))) (Z1u))))⟩, Z1w Z0⟩⟩
        ·(try dsimp only); omega
        ·(try dsimp only); exact NoI.succ (p := (fun i : Nat => badF ss i)) Z4 Zd
        ·omega
       ·have c15 : ¬ (¬ x11.1 = x4.1 ∨ x11.2.2 < 9223372036854775806 ∧ IntKind.wrap .i64 (x11.2.2 + 1) < x4.2.1) := of_decide_eq_false h14;clear h14;refine dK 4 ?_;refine ald_nil ?_;refine kT ?_;refine Z1q ?_;refine kK Try.cfgOk hS ?_;refine Z1v ?_;refine .inr ⟨_, _, (fun h => Zo), .inr ⟨rfl, ?_, rfl, rfl⟩, ⟨Z0, ⟨Z0, trivial⟩, ⟨sub_clo rfl, trivial⟩, Zle, ⟨Z0, (((Z1r 0).new _).new _), (selfs (all_cons (o := rowL Z1s ss) Z0 (OSub.arr (subs_clo (Z1t scells_clo))) (all_cons (o := .cells [inlL Z1o 2 rs, slL 0 3 ss.length, inlL Z1o 2 ws]) Z0 (OSub.cells (.cons (sub_clo rfl) (.cons (.slice ⟨Z9, rfl⟩) (.cons (sub_clo rfl) .nil)))) (Z1u))))⟩, Z1w Z0⟩⟩
        ·first | (refine ⟨Z5, ?_⟩; first | (rw [badF_iff2 Z4 Z4]; omega) | (rw [badF_iff Z4]; first | exact .inl Z5 | exact .inr (.inl Z5))) | (rw [badF_iff2 Z4 Z4]; omega) | (rw [badF_iff Z4]; rintro (h | h | ⟨h, _⟩) <;> omega)
     ·have c10e : (decide ((((i : Nat) : Int) : Int) > 0)) = false := Eq.trans Z0 h9;clear h9;have c10 : ¬ (((i : Nat) : Int) : Int) > 0 := of_decide_eq_false c10e;clear c10e;refine dK 23 ?_;refine ald_nil ?_;refine kF ?_;refine Z21 ?_;refine Z1p Try.cfgOk hS ?_;refine aE (v := .int .i64 (IntKind.wrap .i64 (((i : Nat) : Int) + 1))) (.int .i64 ((i + 1 : Nat) : Int)) (congrArg (Value.int .i64) (wrap_to Z5 Z5)) ?_;refine aN ?_;refine .inl ⟨i + 1, rfl, ⟨?_, ?_⟩, ?_, ⟨Z0, ⟨Z0, Z0, Z0, Z0, trivial⟩, ⟨.ptr ⟨Z9, rfl⟩, .slice ⟨Z9, rfl⟩, sub_clo rfl, sub_clo rfl, trivial⟩, Zle, ⟨Z0, (((Z1r 0).new _).new _), (selfs (all_cons (o := rowL Z1s ss) Z0 (OSub.arr (subs_clo (Z1t scells_clo))) (all_cons (o := .cells [inlL Z1o 2 rs, slL 0 3 ss.length, inlL Z1o 2 ws]) Z0 (OSub.cells (.cons (sub_clo rfl) (.cons (.slice ⟨Z9, rfl⟩) (.cons (sub_clo rfl) .nil)))) (Z1u))))⟩, Z1w Z0⟩⟩
      ·(try dsimp only); omega
      ·(try dsimp only); exact NoI.succ (p := (fun i : Nat => badF ss i)) Z4 Zd
      ·omega
   ·have c6 : ¬ (0 ≤ x4.1 ∧ x4.1 < 4) := of_decide_eq_false h5;clear h5;refine dK 34 ?_;refine ald_nil ?_;refine kT ?_;refine Z1q ?_;refine kK Try.cfgOk hS ?_;refine Z1v ?_;refine .inr ⟨_, _, (fun h => Zo), .inr ⟨rfl, ?_, rfl, rfl⟩, ⟨Z0, ⟨Z0, trivial⟩, ⟨sub_clo rfl, trivial⟩, Zle, ⟨Z0, (((Z1r 0).new _).new _), (selfs (all_cons (o := rowL Z1s ss) Z0 (OSub.arr (subs_clo (Z1t scells_clo))) (all_cons (o := .cells [inlL Z1o 2 rs, slL 0 3 ss.length, inlL Z1o 2 ws]) Z0 (OSub.cells (.cons (sub_clo rfl) (.cons (.slice ⟨Z9, rfl⟩) (.cons (sub_clo rfl) .nil)))) (Z1u))))⟩, Z1w Z0⟩⟩
    ·first | (refine ⟨Z5, ?_⟩; first | (rw [badF_iff2 Z4 Z4]; omega) | (rw [badF_iff Z4]; first | exact .inl Z5 | exact .inr (.inl Z5))) | (rw [badF_iff2 Z4 Z4]; omega) | (rw [badF_iff Z4]; rintro (h | h | ⟨h, _⟩) <;> omega)
  ·have c3e : (decide ((((i : Nat) : Int) : Int) < ((ss.length : Nat) : Int))) = false := Eq.trans Z0 h2;clear h2;have c3 : ¬ (((i : Nat) : Int) : Int) < ((ss.length : Nat) : Int) := of_decide_eq_false c3e;clear c3e;refine Z24 ?_;refine Z1q ?_;refine kF ?_;refine sk_exit ?_;dsimp only;refine .inr ⟨_, _, (fun h => Zo), .inl ⟨rfl, ?_, rfl, rfl⟩, ⟨Z0, ⟨Z0, Z0, Z0, Z0, trivial⟩, ⟨.ptr ⟨Z9, rfl⟩, .slice ⟨Z9, rfl⟩, sub_clo rfl, sub_clo rfl, trivial⟩, Zle, ⟨Z0, (((Z1r 0).new _).new _), (selfs (all_cons (o := rowL Z1s ss) Z0 (OSub.arr (subs_clo (Z1t scells_clo))) (all_cons (o := .cells [inlL Z1o 2 rs, slL 0 3 ss.length, inlL Z1o 2 ws]) Z0 (OSub.cells (.cons (sub_clo rfl) (.cons (.slice ⟨Z9, rfl⟩) (.cons (sub_clo rfl) .nil)))) (Z1u))))⟩, Z1w Z0⟩⟩
   ·omega
 ·exact ⟨Zi, Z09⟩
 rintro o e1 s1 ⟨a, lv1, M1, m1, ha, (⟨rfl, hx, rfl, rfl⟩ | ⟨rfl, hx, rfl, rfl⟩), rfl, rfl⟩
 ·
  obtain ⟨i, ea⟩ : ∃ z, z = a := ⟨_, rfl⟩;subst ea;obtain ⟨i0, i1⟩ := ha;dsimp only;try rw [if_pos rfl]
  refine Z1q ?_;refine Z1p Try.cfgOk hS ?_;refine aK 2 ?_;refine aB 37 [inlL Z1o 2 rs] (tf (risingL rs)) _ rfl (hC37 _ _ _ _ (con_risingP_at rs Zk _)) (fun h16 => ?_) (fun h16 => ?_)
  ·have c17 : risingL rs := tf_t h16;clear h16;refine aK 3 ?_;refine aB 37 [inlL Z1o 2 ws] (tf (risingL ws)) _ rfl (hC37 _ _ _ _ (con_risingP_at ws Zk _)) (fun h18 => ?_) (fun h18 => ?_)
   ·have c19 : risingL ws := tf_t h18;clear h18;refine aN ?_;refine Z1v ?_;exact ⟨[.bool true], Z0, congrArg Value.bool Z6, Zle, all1 Z0⟩
   ·have c19 : ¬ (risingL ws) := tf_f h18;clear h18;refine aN ?_;refine Z1v ?_;exact ⟨[.bool false], Z0, congrArg Value.bool Z6, Zle, all1 Z0⟩
  ·have c17 : ¬ (risingL rs) := tf_f h16;clear h16;refine aN ?_;refine Z1v ?_;exact ⟨[.bool false], Z0, congrArg Value.bool Z6, Zle, all1 Z0⟩
 ·
  obtain ⟨i, ea⟩ : ∃ z, z = a := ⟨_, rfl⟩;subst ea;obtain ⟨i0, i1⟩ := ha;dsimp only;exact ⟨[.bool false], Z0, congrArg Value.bool Z6, Zle, all1 Z0⟩
noncomputable def sm_goodPr : Small Try.prog 0 11 ((List Key) × (List Span) × (List Key)) where
 k := 1
 A := fun z9 ρ => [.agg #[inlL Z1o 2 z9.1, slL (ρ 0) 3 z9.2.1.length, inlL Z1o 2 z9.2.2]]
 M := fun z9 ρ => objL [rowL Z1s z9.2.1]
 M1 := fun z9 ρ => objL [rowL Z1s z9.2.1]
 V := fun z9 ρ => .bool (tf (goodP z9.1 z9.2.1 z9.2.2))
 Pre := fun z9 => (z9.1.length ≤ 1000000) ∧ (z9.2.1.length ≤ 1000000) ∧ (z9.2.2.length ≤ 1000000)
 ch := []
 N := 400
 s0 := fun z9 => ((St.empty 0).new (rowL Z1s z9.2.1))
 hch := by decide
 hsame := fun x ρ => all1 (fun _ => rfl)
 hG := rfl
 hn := fun x => rfl
 hwf := fun x => ((Z1r 0).new _)
 hget := fun x => all1 (by kernel_rfl)
 noloop := fun x ρ => all1 (fun h => h.elim)
 inA := fun x ρ R hR => .cons (.agg (.cons (sub_clo rfl) (.cons (.slice (hR 0 _ (by decide))) (.cons (sub_clo rfl) .nil)))) .nil
 inM := fun x ρ R hR => all1 (OSub.arr (subs_clo (Z1t scells_clo)))
 outM := fun x ρ R hR => all1 (OSub.arr (subs_clo (Z1t scells_clo)))
 outV := fun x ρ R hR => sub_clo rfl
 dom := by
  intro x ρ a ha
  cases ha
 sc := by
  rintro ⟨a0, a1, a2⟩ ⟨p0, p1, p2⟩
  exact goodPr_sc a0 a1 a2 p0 p1 p2
 det := by
  rintro ⟨a0, a1, a2⟩ ρ ⟨b0, b1, b2⟩ σ s h hm hm'
  simp only [injA, injB, kcells_iff, scells_row] at h
  have q0 : ρ 0 = σ 0 := by simp_all
  have e0 := (hm 0 (by decide)).symm.trans ((congrArg s.get q0).trans (hm' 0 (by decide)))
  simp only [objL, List.getD_cons_zero, List.getD_cons_succ, injA, injB, kcells_iff, scells_row] at e0
  have q : ∀ a, a < 1 → ρ a = σ a := all1 q0
  clear hm hm'
  exact ⟨by first | rfl | (simp_all [Prod.ext_iff]; done) | exact e0, q⟩
 par := by
  intro x ρ σ h
  have h0 := h 0 (by decide)
  exact ⟨by first | rfl | simp only [h0], by first | exact fun _ _ => rfl | (intro a ha; simp only [h0])⟩
noncomputable def con_goodPr : Con Try.prog 0 := sm_goodPr.con
theorem con_goodPr_at (rs : List Key) (ss : List Span) (ws : List Key) (i0 : Nat) (h0 : rs.length ≤ 1000000) (h1 : ss.length ≤ 1000000) (h2 : ws.length ≤ 1000000) (s : St) (hn : nodupB [i0] = true) (m0 : s.get i0 = some (rowL Z1s ss)) : con_goodPr.rel [.agg #[inlL Z1o 2 rs, slL i0 3 ss.length, inlL Z1o 2 ws]] s (.bool (tf (goodP rs ss ws))) s :=
 sm_goodPr.at_ (rs, ss, ws) [i0] s _ ⟨h0, h1, h2⟩ rfl hn rfl (all1 m0) rfl rfl
theorem fputr_fn : Try.cfg.fn 24 = some Try.f24 := Z0
theorem fputr_sc (rs : List Key) (ss : List Span) (ws : List Key) (h0 : okK rs) (h1 : okS ss) (h2 : okK ws) : SC Try.prog 0 24 [.agg #[inlL Z1o 2 rs, slL 0 3 ss.length, inlL Z1o 2 ws]] ((St.empty 0).new (rowL Z1s ss)) fun v s' => v = inlL Z1n 1 (putP rs ss ws) ∧ s'.n ≤ 400 ∧ ∀ a, a < 1 → s'.get a = some (objL [rowL Z1s ss] a) := by
 obtain ⟨rc, hS, hC⟩ := rc_con (Z20 Try.cfgOk 300) [con_goodPr, con_putKeys, con_wcount, con_wnum, con_wout] Z0;have hC11 := hC con_goodPr (.head _);have hC50 := hC con_putKeys (.tail _ (.head _));have hC51 := hC con_wcount (.tail _ (.tail _ (.head _)));have hC52 := hC con_wnum (.tail _ (.tail _ (.tail _ (.head _))));have hC53 := hC con_wout (.tail _ (.tail _ (.tail _ (.tail _ (.head _)))));refine sc_iceK (k := 1) (N := 400) (v2 := inlL Z1n 1 (putP rs ss ws)) (Ms := objL [rowL Z1s ss]) rfl ?_ (all1 (OSub.arr (subs_clo (Z1t scells_clo))));refine sc_body Try.cfgOk fputr_fn rfl ?_;refine Z1q ?_;refine kK Try.cfgOk hS ?_;refine Z1q (Z1q ?_);refine Z1p Try.cfgOk hS ?_;refine aK 1 ?_;refine aB 11 [.agg #[inlL Z1o 2 rs, slL 0 3 ss.length, inlL Z1o 2 ws]] (tf (goodP rs ss ws)) _ rfl (hC11 _ _ _ _ (con_goodPr_at rs ss ws 0 Z1 Z1 Z1 _ Z0 Z0 )) (fun h1 => ?_) (fun h1 => ?_)
 ·have c2 : goodP rs ss ws := tf_t h1;clear h1;refine aN ?_;refine kF ?_;refine Z21 (Z1q ?_);refine kK Try.cfgOk hS ?_;refine Z1q ?_;refine sk_live 48 [(1, .pointer (some ⟨1, 0, none⟩)), (3, .pointer (some ⟨2, 0, none⟩))] Z0 ⟨Z0, Z0, trivial⟩ fun m3 => ?_
  refine sk_st ((((St.empty 0).new (rowL Z1s ss)).new (.cells [inlL Z1o 2 rs, slL 0 3 ss.length, inlL Z1o 2 ws])).new (.cells [.slice none 0 0])) Z0 ?_;refine virt_cell 3 2 0 1 [] [] Z9 ((((Z1r 0).new _).new _).new _) Z0 Z0 Z9 ?_;refine sk_st (((((St.empty 0).new (rowL Z1s ss)).new (.cells [inlL Z1o 2 rs, slL 0 3 ss.length, inlL Z1o 2 ws])).new (.cells [slL 3 1 (([] : List UInt8).length)])).new (rowL Z1n ([] : List UInt8))) Z0 ?_;refine Z1p Try.cfgOk hS ?_;refine aK 3 ?_;refine aC 50 [.pointer (some ⟨2, 0, none⟩), inlL Z1o 2 rs] (.tuple #[]) _ rfl (hC50 _ _ _ _ (con_putKeys_at ([] : List UInt8) rs 2 3 Z1 Z1 _ Z0 Z0 Z0 )) ?_;refine Z24 ?_;refine Z1q ?_;refine Z1p Try.cfgOk hS ?_;refine aK 4 ?_;refine aE (v := .int .u64 (IntKind.wrap .u64 ((ss.length : Nat) : Int))) (.int .u64 ((ss.length : Nat) : Int)) (congrArg (Value.int .u64) ((wrap_u64 _).trans (congrArg Nat.cast (u64_nat Z0q)))) ?_;refine aC 51 [.pointer (some ⟨2, 0, none⟩), .int .u64 ((ss.length : Nat) : Int)] (.tuple #[]) _ rfl (hC51 _ _ _ _ (con_wcount_at (([] : List UInt8) ++ keysB rs) ss.length 2 3 Z1 Z1 _ Z0 Z0 Z0 )) ?_;refine Z24 ?_;refine Z1q (Z1q ?_);refine kK Try.cfgOk hS ?_;refine Z27 ?_;refine sk_live 48 ((fun a : Nat × (List UInt8) => [(1, .pointer (some ⟨1, 0, none⟩)), (3, .pointer (some ⟨2, 0, none⟩)), (22, slL 0 3 ss.length), (23, .int .i64 ((ss.length : Nat) : Int)), (24, .int .i64 ((a.1 : Nat) : Int))]) (0, ((([] : List UInt8) ++ keysB rs) ++ uv ss.length))) Z0 ⟨Z0, Z0, Z0, Z0, Z0, trivial⟩ fun m4 => ?_
  refine sk_st ((fun a : Nat × (List UInt8) => (((((St.empty 0).new (rowL Z1s ss)).new (.cells [inlL Z1o 2 rs, slL 0 3 ss.length, inlL Z1o 2 ws])).new (.cells [slL 3 1 a.2.length])).new (rowL Z1n a.2))) (0, ((([] : List UInt8) ++ keysB rs) ++ uv ss.length))) Z0 ?_;refine (sk_while (k := 4) (N := 400) (live := (fun a : Nat × (List UInt8) => [(1, .pointer (some ⟨1, 0, none⟩)), (3, .pointer (some ⟨2, 0, none⟩)), (22, slL 0 3 ss.length), (23, .int .i64 ((ss.length : Nat) : Int)), (24, .int .i64 ((a.1 : Nat) : Int))])) (M := (fun a : Nat × (List UInt8) => (((((St.empty 0).new (rowL Z1s ss)).new (.cells [inlL Z1o 2 rs, slL 0 3 ss.length, inlL Z1o 2 ws])).new (.cells [slL 3 1 a.2.length])).new (rowL Z1n a.2)))) (fun a : Nat × (List UInt8) => (a.1 ≤ ss.length) ∧ (a.2 = keysB rs ++ (uv ss.length ++ catB sb (ss.take a.1))) ∧ (a.2.length ≤ 120020 + 30 * a.1) ∧ (ss.length ≤ 6000)) (fun a : Nat × (List UInt8) => ss.length - a.1) (fun (a : Nat × (List UInt8)) (o : Out) (lv : List (Nat × Value)) (M : St) => (o = .exit 0 ∧ (¬ a.1 < ss.length) ∧ lv = [(1, .pointer (some ⟨1, 0, none⟩)), (3, .pointer (some ⟨2, 0, none⟩)), (22, slL 0 3 ss.length), (23, .int .i64 ((ss.length : Nat) : Int)), (24, .int .i64 ((a.1 : Nat) : Int))] ∧ M = (((((St.empty 0).new (rowL Z1s ss)).new (.cells [inlL Z1o 2 rs, slL 0 3 ss.length, inlL Z1o 2 ws])).new (.cells [slL 3 1 a.2.length])).new (rowL Z1n a.2)))) (Nat.zero_le _) (fun a ha => ?_) (fun a ha => ?_) (fun a m ha => ?_) (fun a m ha => ?_) (0, ((([] : List UInt8) ++ keysB rs) ++ uv ss.length)) m4 ?_).up ?_
  ·exact ⟨Z0, (((((Z1r 0).new _).new _).new _).new _), (selfs (all_cons (o := rowL Z1s ss) Z0 (OSub.arr (subs_clo (Z1t scells_clo))) (all_cons (o := .cells [inlL Z1o 2 rs, slL 0 3 ss.length, inlL Z1o 2 ws]) Z0 (OSub.cells (.cons (sub_clo rfl) (.cons (.slice ⟨Z9, rfl⟩) (.cons (sub_clo rfl) .nil)))) (all_cons (o := .cells [slL 3 1 a.2.length]) Z0 (OSub.cells (.cons (.slice ⟨Z9, rfl⟩) .nil)) (all_cons (o := rowL Z1n a.2) Z0 (OSub.arr (subs_clo (Z1t Z1x))) (Z1u))))))⟩
  ·exact ⟨.ptr ⟨Z9, rfl⟩, .ptr ⟨Z9, rfl⟩, .slice ⟨Z9, rfl⟩, sub_clo rfl, sub_clo rfl, trivial⟩
  ·exact ⟨Z0, Z0, Z0, Z0, Z0, trivial⟩
  ·obtain ⟨i, l⟩ := a;obtain ⟨i0, i1, i2, i3⟩ := ha;dsimp only at i0 i1 i2 i3;refine Z1q ?_;refine Z1p Try.cfgOk hS ?_;refine aT (fun h5 => ?_) (fun h5 => ?_)
   ·have c6e : (decide ((((i : Nat) : Int) : Int) < ((ss.length : Nat) : Int))) = true := Eq.trans Z0 h5;clear h5;have c6 : (((i : Nat) : Int) : Int) < ((ss.length : Nat) : Int) := of_decide_eq_true c6e;clear c6e;refine Z24 ?_;refine Z1q ?_;refine kT ?_;refine Z21 (Z1q (Z27 (Z1q ?_)));refine Z1p Try.cfgOk hS ?_;refine aM (Z23 Try.cfg 23 (slL 0 3 ss.length) (.int .i64 ((i : Nat) : Int))) (.pointer (some ⟨0, i * 3, some (ss.length * 3)⟩)) (idx_rowL Z0 Z5) ?_;have hx7l : i < ss.length := by omega
    refine Exists.elim (get_ex hx7l) fun x7 hx7 => ?_
    clear hx7l;refine aM (loadV Try.cfg (((((St.empty 0).new (rowL Z1s ss)).new (.cells [inlL Z1o 2 rs, slL 0 3 ss.length, inlL Z1o 2 ws])).new (.cells [slL 3 1 l.length])).new (rowL Z1n l)) 32 (.pointer (some ⟨0, i * 3, some (ss.length * 3)⟩))) (.agg #[.int .i64 x7.1, .int .i64 x7.2.1, .int .i64 x7.2.2]) (load_rowL (l := ss) Z0 scells_len Z0 hx7) ?_;refine aN ?_;refine Z1q ?_;refine Z1p Try.cfgOk hS ?_;refine aK 3 ?_;refine aE (v := .int .u64 (IntKind.wrap .u64 x7.1)) (.int .u64 ((u64 x7.1 : Nat) : Int)) (congrArg (Value.int .u64) (wrap_u64 _)) ?_;refine aC 51 [.pointer (some ⟨2, 0, none⟩), .int .u64 ((u64 x7.1 : Nat) : Int)] (.tuple #[]) _ rfl (hC51 _ _ _ _ (con_wcount_at l (u64 x7.1) 2 3 Z1 Z1 _ Z0 Z0 Z0 )) ?_;refine Z24 ?_;refine Z1q ?_;refine Z1p Try.cfgOk hS ?_;refine aK 3 ?_;refine aC 52 [.pointer (some ⟨2, 0, none⟩), .int .i64 x7.2.1] (.tuple #[]) _ rfl (hC52 _ _ _ _ (con_wnum_at (l ++ uv (u64 x7.1)) x7.2.1 2 3 Z1 Z1 _ Z0 Z0 Z0 )) ?_;refine Z24 ?_;refine Z1p Try.cfgOk hS ?_;refine aK 3 ?_;refine aC 52 [.pointer (some ⟨2, 0, none⟩), .int .i64 x7.2.2] (.tuple #[]) _ rfl (hC52 _ _ _ _ (con_wnum_at ((l ++ uv (u64 x7.1)) ++ uv (fold x7.2.1)) x7.2.2 2 3 Z1 Z1 _ Z0 Z0 Z0 )) ?_;refine Z24 ?_;refine Z1p Try.cfgOk hS ?_;refine aE (v := .int .i64 (IntKind.wrap .i64 (((i : Nat) : Int) + 1))) (.int .i64 ((i + 1 : Nat) : Int)) (congrArg (Value.int .i64) (wrap_to Z5 Z5)) ?_;refine aN ?_;refine .inl ⟨(i + 1, (((l ++ uv (u64 x7.1)) ++ uv (fold x7.2.1)) ++ uv (fold x7.2.2))), rfl, ⟨?_, ?_, ?_, ?_⟩, ?_, ⟨Z0, ⟨Z0, Z0, Z0, Z0, Z0, trivial⟩, ⟨.ptr ⟨Z9, rfl⟩, .ptr ⟨Z9, rfl⟩, .slice ⟨Z9, rfl⟩, sub_clo rfl, sub_clo rfl, trivial⟩, Zle, ⟨Z0, (((((Z1r 0).new _).new _).new _).new _), (selfs (all_cons (o := rowL Z1s ss) Z0 (OSub.arr (subs_clo (Z1t scells_clo))) (all_cons (o := .cells [inlL Z1o 2 rs, slL 0 3 ss.length, inlL Z1o 2 ws]) Z0 (OSub.cells (.cons (sub_clo rfl) (.cons (.slice ⟨Z9, rfl⟩) (.cons (sub_clo rfl) .nil)))) (all_cons (o := .cells [slL 3 1 ((((l ++ uv (u64 x7.1)) ++ uv (fold x7.2.1)) ++ uv (fold x7.2.2)).length)]) Z0 (OSub.cells (.cons (.slice ⟨Z9, rfl⟩) .nil)) (all_cons (o := rowL Z1n (((l ++ uv (u64 x7.1)) ++ uv (fold x7.2.1)) ++ uv (fold x7.2.2))) Z0 (OSub.arr (subs_clo (Z1t Z1x))) (Z1u))))))⟩, Z1w Z0⟩⟩
    ·(try dsimp only); omega
    ·(try dsimp only); rw [i1, catB_succ Z4]; simp only [sb, List.append_assoc]
    ·(try dsimp only); exact Nat.le_trans (sb_len (h1.at_ Z4)) Z5
    ·(try dsimp only); assumption
    ·omega
   ·have c6e : (decide ((((i : Nat) : Int) : Int) < ((ss.length : Nat) : Int))) = false := Eq.trans Z0 h5;clear h5;have c6 : ¬ (((i : Nat) : Int) : Int) < ((ss.length : Nat) : Int) := of_decide_eq_false c6e;clear c6e;refine Z24 ?_;refine Z1q ?_;refine kF ?_;refine sk_exit ?_;dsimp only;refine .inr ⟨_, _, (fun h => Zo), ⟨rfl, ?_, rfl, rfl⟩, ⟨Z0, ⟨Z0, Z0, Z0, Z0, Z0, trivial⟩, ⟨.ptr ⟨Z9, rfl⟩, .ptr ⟨Z9, rfl⟩, .slice ⟨Z9, rfl⟩, sub_clo rfl, sub_clo rfl, trivial⟩, Zle, ⟨Z0, (((((Z1r 0).new _).new _).new _).new _), (selfs (all_cons (o := rowL Z1s ss) Z0 (OSub.arr (subs_clo (Z1t scells_clo))) (all_cons (o := .cells [inlL Z1o 2 rs, slL 0 3 ss.length, inlL Z1o 2 ws]) Z0 (OSub.cells (.cons (sub_clo rfl) (.cons (.slice ⟨Z9, rfl⟩) (.cons (sub_clo rfl) .nil)))) (all_cons (o := .cells [slL 3 1 l.length]) Z0 (OSub.cells (.cons (.slice ⟨Z9, rfl⟩) .nil)) (all_cons (o := rowL Z1n l) Z0 (OSub.arr (subs_clo (Z1t Z1x))) (Z1u))))))⟩, Z1w Z0⟩⟩
    ·omega
  ·exact ⟨Zi, Z0b, Z07, Z0i⟩
  rintro o e1 s1 ⟨a, lv1, M1, m4, ha, ⟨rfl, hx, rfl, rfl⟩, rfl, rfl⟩;obtain ⟨i, l⟩ := a;obtain ⟨i0, i1, i2, i3⟩ := ha;dsimp only at hx i0 i1 i2 i3;dsimp only;try rw [if_pos rfl]
  refine Z1q ?_;refine Z1p Try.cfgOk hS ?_;refine aK 3 ?_;refine aC 50 [.pointer (some ⟨2, 0, none⟩), inlL Z1o 2 ws] (.tuple #[]) _ rfl (hC50 _ _ _ _ (con_putKeys_at l ws 2 3 Z1 Z1 _ Z0 Z0 Z0 )) ?_;refine Z24 ?_;refine Z1q ?_;refine Z1p Try.cfgOk hS ?_;refine aK 1 ?_;refine aC 53 [.pointer (some ⟨2, 0, none⟩)] (inlL Z1n 1 (l ++ keysB ws)) _ rfl (hC53 _ _ _ _ (con_wout_at (l ++ keysB ws) 2 3 Z1 _ Z0 Z0 Z0 )) ?_;refine aN ?_;refine Z1v ?_;exact ⟨[inlL Z1n 1 (l ++ keysB ws)], Z0, fs_to (fs_clo rfl) (congrArg (inlL Z1n 1) Zq), Zle, all1 Z0⟩
 ·have c2 : ¬ (goodP rs ss ws) := tf_f h1;clear h1;refine aN ?_;refine kT ?_;refine Z1q ?_;refine kK Try.cfgOk hS ?_;refine Z1v ?_;exact ⟨[.slice none 0 0], Z0, fs_to (fs_nilL (f := Z1n) (sz := 1) Z9) (congrArg (inlL Z1n 1) Zq), Zle, all1 Z0⟩
noncomputable def sm_fputr : Small Try.prog 0 24 ((List Key) × (List Span) × (List Key)) where
 k := 1
 A := fun z9 ρ => [.agg #[inlL Z1o 2 z9.1, slL (ρ 0) 3 z9.2.1.length, inlL Z1o 2 z9.2.2]]
 M := fun z9 ρ => objL [rowL Z1s z9.2.1]
 M1 := fun z9 ρ => objL [rowL Z1s z9.2.1]
 V := fun z9 ρ => inlL Z1n 1 (putP z9.1 z9.2.1 z9.2.2)
 Pre := fun z9 => (okK z9.1) ∧ (okS z9.2.1) ∧ (okK z9.2.2)
 ch := []
 N := 400
 s0 := fun z9 => ((St.empty 0).new (rowL Z1s z9.2.1))
 hch := by decide
 hsame := fun x ρ => all1 (fun _ => rfl)
 hG := rfl
 hn := fun x => rfl
 hwf := fun x => ((Z1r 0).new _)
 hget := fun x => all1 (by kernel_rfl)
 noloop := fun x ρ => all1 (fun h => h.elim)
 inA := fun x ρ R hR => .cons (.agg (.cons (sub_clo rfl) (.cons (.slice (hR 0 _ (by decide))) (.cons (sub_clo rfl) .nil)))) .nil
 inM := fun x ρ R hR => all1 (OSub.arr (subs_clo (Z1t scells_clo)))
 outM := fun x ρ R hR => all1 (OSub.arr (subs_clo (Z1t scells_clo)))
 outV := fun x ρ R hR => sub_clo rfl
 dom := by
  intro x ρ a ha
  cases ha
 sc := by
  rintro ⟨a0, a1, a2⟩ ⟨p0, p1, p2⟩
  exact fputr_sc a0 a1 a2 p0 p1 p2
 det := by
  rintro ⟨a0, a1, a2⟩ ρ ⟨b0, b1, b2⟩ σ s h hm hm'
  simp only [injA, injB, kcells_iff, scells_row] at h
  have q0 : ρ 0 = σ 0 := by simp_all
  have e0 := (hm 0 (by decide)).symm.trans ((congrArg s.get q0).trans (hm' 0 (by decide)))
  simp only [objL, List.getD_cons_zero, List.getD_cons_succ, injA, injB, kcells_iff, scells_row] at e0
  have q : ∀ a, a < 1 → ρ a = σ a := all1 q0
  clear hm hm'
  exact ⟨by first | rfl | (simp_all [Prod.ext_iff]; done) | exact e0, q⟩
 par := by
  intro x ρ σ h
  have h0 := h 0 (by decide)
  exact ⟨by first | rfl | simp only [h0], by first | exact fun _ _ => rfl | (intro a ha; simp only [h0])⟩
noncomputable def con_fputr : Con Try.prog 0 := sm_fputr.con
theorem con_fputr_at (rs : List Key) (ss : List Span) (ws : List Key) (i0 : Nat) (h0 : okK rs) (h1 : okS ss) (h2 : okK ws) (s : St) (hn : nodupB [i0] = true) (m0 : s.get i0 = some (rowL Z1s ss)) : con_fputr.rel [.agg #[inlL Z1o 2 rs, slL i0 3 ss.length, inlL Z1o 2 ws]] s (inlL Z1n 1 (putP rs ss ws)) s :=
 sm_fputr.at_ (rs, ss, ws) [i0] s _ ⟨h0, h1, h2⟩ rfl hn rfl (all1 m0) rfl rfl
end Go.Proofs.Ytekeepgjegkedaa