/- Good records. -/
import Derived.Test.YtegigohhnplomaaCheck
import Derived.Test.YtegigohhnplomaaGood
import Derived.Test.YtegigohhnplomaaKit
set_option linter.unusedVariables false
set_option linter.unusedSimpArgs false
set_option linter.unnecessarySimpa false
set_option maxHeartbeats 4000000
set_option maxRecDepth 100000
namespace Go.Proofs.Ytegigohhnplomaa
open Go.Ai
theorem bare_fn : Try.cfg.fn 30 = some Try.f30 := Z1
theorem bare_sc (sq : Int) (vl : Bool) (fu : Int) (co : List Code) (rs : List Key) (ss : List Span) (ws : List Key) (wr : List Wr) (h0 : co.length ≤ 1000000) (h1 : rs.length ≤ 1000000) (h2 : ss.length ≤ 1000000) (h3 : ws.length ≤ 1000000) (h4 : wr.length ≤ 1000000) : SC Try.prog 0 30 [.agg #[.int .i64 sq, .bool vl, .int .i64 fu, inlL Z1w 6 co, inlL Z1v 2 rs, inlL Z1y 3 ss, inlL Z1v 2 ws, inlL Z21 4 wr]] (St.empty 0) fun v s' => v = .bool (decide (fu = 0 ∧ co.length = 0 ∧ rs.length + ss.length + ws.length = 0)) ∧ s'.n ≤ 400 := by
 have hS := Z24 Try.cfgOk 300;refine sc_ice0 (N := 400) (v2 := .bool (decide (fu = 0 ∧ co.length = 0 ∧ rs.length + ss.length + ws.length = 0))) (Q := fun v s' => FS 0 s' v (.bool (decide (fu = 0 ∧ co.length = 0 ∧ rs.length + ss.length + ws.length = 0))) ∧ s'.n ≤ 400) ?_ (fun _ _ h => h);refine Z2d Try.cfgOk bare_fn rfl ?_;refine Z1u ?_;refine kK Try.cfgOk hS ?_;refine Z1u ?_;refine kK Try.cfgOk hS ?_;refine Z1u ?_;refine Z1t Try.cfgOk hS ?_;refine aK 3 ?_;refine aT (fun h1 => ?_) (fun h1 => ?_)
 ·have c2e : ((fu : Int) == 0) = true := Eq.trans Z1 h1;clear h1;have c2 : (fu : Int) = 0 := eq_of_beq c2e;clear c2e;refine aK 4 ?_;refine aM (lenB Try.cfg (St.empty 0) 22 (inlL Z1w 6 co)) (.int .i64 ((co.length : Nat) : Int)) (len_inl tokC Z1) ?_;refine aT (fun h3 => ?_) (fun h3 => ?_)
  ·have c4e : ((((co.length : Nat) : Int) : Int) == 0) = true := Eq.trans Z1 h3;clear h3;have c4 : (((co.length : Nat) : Int) : Int) = 0 := eq_of_beq c4e;clear c4e;refine aK 4 ?_;refine aM (lenB Try.cfg (St.empty 0) 25 (inlL Z1v 2 rs)) (.int .i64 ((rs.length : Nat) : Int)) (len_inl tokC Z1) ?_;refine aK 2 ?_;refine aM (lenB Try.cfg (St.empty 0) 26 (inlL Z1y 3 ss)) (.int .i64 ((ss.length : Nat) : Int)) (len_inl tokC Z1) ?_;refine aE (v := .int .i64 (IntKind.wrap .i64 (((rs.length : Nat) : Int) + ((ss.length : Nat) : Int)))) (.int .i64 ((rs.length + ss.length : Nat) : Int)) (congrArg (Value.int .i64) (wrap_to Z5 Z5)) ?_;refine aK 2 ?_;refine aM (lenB Try.cfg (St.empty 0) 25 (inlL Z1v 2 ws)) (.int .i64 ((ws.length : Nat) : Int)) (len_inl tokC Z1) ?_;refine aE (v := .int .i64 (IntKind.wrap .i64 (((rs.length + ss.length : Nat) : Int) + ((ws.length : Nat) : Int)))) (.int .i64 ((rs.length + ss.length + ws.length : Nat) : Int)) (congrArg (Value.int .i64) (wrap_to Z5 Z5)) ?_;refine aT (fun h5 => ?_) (fun h5 => ?_)
   ·have c6e : ((((rs.length + ss.length + ws.length : Nat) : Int) : Int) == 0) = true := Eq.trans Z1 h5;clear h5;have c6 : (((rs.length + ss.length + ws.length : Nat) : Int) : Int) = 0 := eq_of_beq c6e;clear c6e;refine aN ?_;refine Z1z ?_;exact ⟨[.bool true], Z1, fs_to (Z23 rfl) (congrArg Value.bool Zj), Zle⟩
   ·have c6e : ((((rs.length + ss.length + ws.length : Nat) : Int) : Int) == 0) = false := Eq.trans Z1 h5;clear h5;have c6 : ¬ (((rs.length + ss.length + ws.length : Nat) : Int) : Int) = 0 := ne_of_beq_false c6e;clear c6e;refine aN ?_;refine Z1z ?_;exact ⟨[.bool false], Z1, fs_to (Z23 rfl) (congrArg Value.bool Zj), Zle⟩
  ·have c4e : ((((co.length : Nat) : Int) : Int) == 0) = false := Eq.trans Z1 h3;clear h3;have c4 : ¬ (((co.length : Nat) : Int) : Int) = 0 := ne_of_beq_false c4e;clear c4e;refine aN ?_;refine Z1z ?_;exact ⟨[.bool false], Z1, fs_to (Z23 rfl) (congrArg Value.bool Zj), Zle⟩
 ·have c2e : ((fu : Int) == 0) = false := Eq.trans Z1 h1;clear h1;have c2 : ¬ (fu : Int) = 0 := ne_of_beq_false c2e;clear c2e;refine aN ?_;refine Z1z ?_;exact ⟨[.bool false], Z1, fs_to (Z23 rfl) (congrArg Value.bool Zj), Zle⟩
noncomputable def con_bare : Con Try.prog 0 := Con.pure (α := Int × Bool × Int × (List Code) × (List Key) × (List Span) × (List Key) × (List Wr)) 30 (fun z9 => [.agg #[.int .i64 z9.1, .bool z9.2.1, .int .i64 z9.2.2.1, inlL Z1w 6 z9.2.2.2.1, inlL Z1v 2 z9.2.2.2.2.1, inlL Z1y 3 z9.2.2.2.2.2.1, inlL Z1v 2 z9.2.2.2.2.2.2.1, inlL Z21 4 z9.2.2.2.2.2.2.2]]) (fun z9 => .bool (decide (z9.2.2.1 = 0 ∧ z9.2.2.2.1.length = 0 ∧ z9.2.2.2.2.1.length + z9.2.2.2.2.2.1.length + z9.2.2.2.2.2.2.1.length = 0))) (fun z9 => (z9.2.2.2.1.length ≤ 1000000) ∧ (z9.2.2.2.2.1.length ≤ 1000000) ∧ (z9.2.2.2.2.2.1.length ≤ 1000000) ∧ (z9.2.2.2.2.2.2.1.length ≤ 1000000) ∧ (z9.2.2.2.2.2.2.2.length ≤ 1000000)) (by
 rintro ⟨a0, a1, a2, a3, a4, a5, a6, a7⟩ ⟨b0, b1, b2, b3, b4, b5, b6, b7⟩ h
 simp only [injA, ccells_iff, kcells_iff, scells_iff, wcells_iff] at h
 first | exact h | (simp only [Prod.ext_iff, h, and_self, and_true, true_and]; done) | simp_all [Prod.ext_iff]) (fun _ => rfl) (fun _ => rfl) 400 (by
 rintro ⟨a0, a1, a2, a3, a4, a5, a6, a7⟩ ⟨p0, p1, p2, p3, p4⟩
 exact bare_sc a0 a1 a2 a3 a4 a5 a6 a7 p0 p1 p2 p3 p4)
theorem con_bare_at (sq : Int) (vl : Bool) (fu : Int) (co : List Code) (rs : List Key) (ss : List Span) (ws : List Key) (wr : List Wr) (h0 : co.length ≤ 1000000) (h1 : rs.length ≤ 1000000) (h2 : ss.length ≤ 1000000) (h3 : ws.length ≤ 1000000) (h4 : wr.length ≤ 1000000) (s : St) : con_bare.rel [.agg #[.int .i64 sq, .bool vl, .int .i64 fu, inlL Z1w 6 co, inlL Z1v 2 rs, inlL Z1y 3 ss, inlL Z1v 2 ws, inlL Z21 4 wr]] s (.bool (decide (fu = 0 ∧ co.length = 0 ∧ rs.length + ss.length + ws.length = 0))) s := con_pure (sq, vl, fu, co, rs, ss, ws, wr) ⟨h0, h1, h2, h3, h4⟩ s
def badW (l : List Wr) (i : Nat) : Prop := ∃ x, l[i]? = some x ∧ (¬ (0 ≤ x.1 ∧ x.1 < 4) ∨ x.2.2.2 = true ∧ ¬ x.2.2.1 = 0 ∨ 0 < i ∧ ∃ y, l[i - 1]? = some y ∧ ¬ (y.1 < x.1 ∨ y.1 = x.1 ∧ y.2.1 < x.2.1))
theorem badW_iff {l : List Wr} {i : Nat} {x : Wr} (hx : l[i]? = some x) : badW l i ↔ (¬ (0 ≤ x.1 ∧ x.1 < 4) ∨ x.2.2.2 = true ∧ ¬ x.2.2.1 = 0 ∨ 0 < i ∧ ∃ y, l[i - 1]? = some y ∧ ¬ (y.1 < x.1 ∨ y.1 = x.1 ∧ y.2.1 < x.2.1)) :=
 ⟨fun ⟨z, h1, h2⟩ => Z0z, fun h => ⟨x, hx, h⟩⟩
theorem badW_iff2 {l : List Wr} {i : Nat} {x y : Wr} (hx : l[i]? = some x) (hy : l[i - 1]? = some y) : badW l i ↔ (¬ (0 ≤ x.1 ∧ x.1 < 4) ∨ x.2.2.2 = true ∧ ¬ x.2.2.1 = 0 ∨ 0 < i ∧ ¬ (y.1 < x.1 ∨ y.1 = x.1 ∧ y.2.1 < x.2.1)) := by
 rw [badW_iff hx, hy];simp only [Option.some.injEq, exists_eq_left']
abbrev risW (l : List Wr) : Prop := ¬ ∃ i, i < l.length ∧ badW l i
def goodR_ (sq : Int) (vl : Bool) (fu : Int) (co : List Code) (rs : List Key) (ss : List Span) (ws : List Key) (wr : List Wr) : Prop :=
 (1 ≤ sq ∧ sq ≤ 281474976710655) ∧ bif vl then (fu = 0 ∧ co.length = 0 ∧ rs.length + ss.length + ws.length = 0) ∧ risW wr else wr.length = 0 ∧ checkP fu co ∧ goodP rs ss ws
theorem badW_no1 {l : List Wr} {i : Nat} {x : Wr} (hx : l[i]? = some x) (h1 : 0 ≤ x.1 ∧ x.1 < 4) (h2 : x.2.2.2 = false ∨ x.2.2.1 = 0) (h3 : ¬ 0 < i) : ¬ badW l i := by
 rw [badW_iff hx];rintro (h | ⟨h, h'⟩ | ⟨h, _⟩)
 ·exact h h1
 ·rcases h2 with q | q
  ·rw [q] at h; cases h
  ·exact h' q
 ·exact h3 h
theorem badW_no2 {l : List Wr} {i : Nat} {x y : Wr} (hx : l[i]? = some x) (hy : l[i - 1]? = some y) (h1 : 0 ≤ x.1 ∧ x.1 < 4) (h2 : x.2.2.2 = false ∨ x.2.2.1 = 0) (h3 : y.1 < x.1 ∨ y.1 = x.1 ∧ y.2.1 < x.2.1) : ¬ badW l i := by
 rw [badW_iff2 hx hy];rintro (h | ⟨h, h'⟩ | ⟨_, h⟩)
 ·exact h h1
 ·rcases h2 with q | q
  ·rw [q] at h; cases h
  ·exact h' q
 ·exact h h3
theorem badW_y1 {l : List Wr} {i : Nat} {x : Wr} (hx : l[i]? = some x) (h : ¬ (0 ≤ x.1 ∧ x.1 < 4)) : badW l i := (badW_iff hx).2 (.inl h)
theorem badW_y2 {l : List Wr} {i : Nat} {x : Wr} (hx : l[i]? = some x) (h : x.2.2.2 = true) (h' : ¬ x.2.2.1 = 0) : badW l i := (badW_iff hx).2 (.inr (.inl ⟨h, h'⟩))
theorem badW_y3 {l : List Wr} {i : Nat} {x y : Wr} (hx : l[i]? = some x) (hy : l[i - 1]? = some y) (h0 : 0 < i) (h : ¬ (y.1 < x.1 ∨ y.1 = x.1 ∧ y.2.1 < x.2.1)) : badW l i := (badW_iff2 hx hy).2 (.inr (.inr ⟨h0, h⟩))
theorem risingW_fn : Try.cfg.fn 31 = some Try.f31 := Z1
theorem risingW_sc (l : List Wr) (h0 : l.length ≤ 1000000) : SC Try.prog 0 31 [inlL Z21 4 l] (St.empty 0) fun v s' => v = .bool (tf (risW l)) ∧ s'.n ≤ 400 := by
 obtain ⟨rc, hS, hC⟩ := rc_con (Z24 Try.cfgOk 300) [con_lessP] Z1;have hC51 := hC con_lessP (.head _);refine sc_ice0 (N := 400) (v2 := .bool (tf (risW l))) (Q := fun v s' => FS 0 s' v (.bool (tf (risW l))) ∧ s'.n ≤ 400) ?_ (fun _ _ h => h);refine Z2d Try.cfgOk risingW_fn rfl ?_;refine Z1u ?_;refine kK Try.cfgOk hS ?_;refine Z1u (Z1u ?_);refine Z1t Try.cfgOk hS ?_;refine aK 1 ?_;refine aM (lenB Try.cfg (St.empty 0) 29 (inlL Z21 4 l)) (.int .i64 ((l.length : Nat) : Int)) (len_inl tokC Z1) ?_;refine aN ?_;refine Z2f ?_;refine sk_live 48 ((fun a : Nat => [(0, inlL Z21 4 l), (5, inlL Z21 4 l), (6, .int .i64 ((l.length : Nat) : Int)), (7, .int .i64 ((a : Nat) : Int))]) 0) Z1 ⟨Z1, Z1, Z1, Z1, trivial⟩ fun m1 => ?_
 refine sk_st ((fun a : Nat => (St.empty 0)) 0) Z1 ?_;refine (sk_while (k := 0) (N := 400) (live := (fun a : Nat => [(0, inlL Z21 4 l), (5, inlL Z21 4 l), (6, .int .i64 ((l.length : Nat) : Int)), (7, .int .i64 ((a : Nat) : Int))])) (M := (fun a : Nat => (St.empty 0))) (fun a : Nat => (a ≤ l.length) ∧ (NoI (fun a : Nat => badW l a) a)) (fun a : Nat => l.length - a) (fun (a : Nat) (o : Out) (lv : List (Nat × Value)) (M : St) => (o = .exit 0 ∧ (¬ a < l.length) ∧ lv = [(0, inlL Z21 4 l), (5, inlL Z21 4 l), (6, .int .i64 ((l.length : Nat) : Int)), (7, .int .i64 ((a : Nat) : Int))] ∧ M = (St.empty 0)) ∨ (o = .ret ∧ (a < l.length ∧ (badW l a)) ∧ lv = [(2, .bool false)] ∧ M = (St.empty 0))) (Nat.zero_le _) (fun a ha => ?_) (fun a ha => ?_) (fun a m ha => ?_) (fun a m ha => ?_) 0 m1 ?_).up ?_
 ·exact ⟨Z1, (Z1x 0), (fun i hi => absurd hi (Nat.not_lt_zero i))⟩
 ·exact ⟨sub_clo rfl, sub_clo rfl, sub_clo rfl, sub_clo rfl, trivial⟩
 ·exact ⟨Z1, Z1, Z1, Z1, trivial⟩
 ·obtain ⟨i, ea⟩ : ∃ z, z = a := ⟨_, rfl⟩;subst ea;obtain ⟨i0, i1⟩ := ha;refine Z1u ?_;refine Z1t Try.cfgOk hS ?_;refine aT (fun h2 => ?_) (fun h2 => ?_)
  ·have c3e : (decide ((((i : Nat) : Int) : Int) < ((l.length : Nat) : Int))) = true := Eq.trans Z1 h2;clear h2;have c3 : (((i : Nat) : Int) : Int) < ((l.length : Nat) : Int) := of_decide_eq_true c3e;clear c3e;refine Z29 ?_;refine Z1u ?_;refine kT ?_;refine Z26 (Z1u (Z2f (Z1u ?_)));refine Z1t Try.cfgOk hS ?_;refine aK 1 ?_;refine aM (indexAddrV Try.cfg 29 (inlL Z21 4 l) (.int .i64 ((i : Nat) : Int))) (elt (flatL Z21 l) (i * 4)) (idx_inlL tokC Z1 Z0g) ?_;have hx4l : i < l.length := by omega
   refine Exists.elim (get_ex hx4l) fun x4 hx4 => ?_
   clear hx4l;refine aM (loadV Try.cfg (St.empty 0) 50 (elt (flatL Z21 l) (i * 4))) (.agg #[.int .i64 x4.1, .int .i64 x4.2.1, .int .i64 x4.2.2.1, .bool x4.2.2.2]) (load_el tokC Z1 wcells_len hx4) ?_;refine aN ?_;refine Z1u ?_;refine sk_drawL Try.cfgOk hS ?_;refine dK 3 ?_;refine dT (fun h5 => ?_) (fun h5 => ?_)
   ·have c6e : (decide ((x4.1 : Int) < 0)) = true := Eq.trans Z1 h5;clear h5;have c6 : (x4.1 : Int) < 0 := of_decide_eq_true c6e;clear c6e;refine dK 31 ?_;refine ald_nil ?_;refine kT ?_;refine Z1u ?_;refine kK Try.cfgOk hS ?_;refine Z1z ?_;refine .inr ⟨_, _, (fun h => Zw), .inr ⟨rfl, ?_, rfl, rfl⟩, ⟨Z1, ⟨Z1, trivial⟩, ⟨sub_clo rfl, trivial⟩, Zle, ⟨Z1, (Z1x 0), (fun i hi => absurd hi (Nat.not_lt_zero i))⟩, Z2b Z1⟩⟩
    ·refine ⟨Z5, ?_⟩; first | exact badW_y3 Z2 Z2 Z5 Z2 | exact badW_y2 Z2 Z2 Z2 | exact badW_y1 Z2 Z5
   ·have c6e : (decide ((x4.1 : Int) < 0)) = false := Eq.trans Z1 h5;clear h5;have c6 : ¬ (x4.1 : Int) < 0 := of_decide_eq_false c6e;clear c6e;refine dK 4 ?_;refine dT (fun h7 => ?_) (fun h7 => ?_)
    ·have c8e : (decide ((x4.1 : Int) ≥ 4)) = true := Eq.trans Z1 h7;clear h7;have c8 : (x4.1 : Int) ≥ 4 := of_decide_eq_true c8e;clear c8e;refine dK 26 ?_;refine ald_nil ?_;refine kT ?_;refine Z1u ?_;refine kK Try.cfgOk hS ?_;refine Z1z ?_;refine .inr ⟨_, _, (fun h => Zw), .inr ⟨rfl, ?_, rfl, rfl⟩, ⟨Z1, ⟨Z1, trivial⟩, ⟨sub_clo rfl, trivial⟩, Zle, ⟨Z1, (Z1x 0), (fun i hi => absurd hi (Nat.not_lt_zero i))⟩, Z2b Z1⟩⟩
     ·refine ⟨Z5, ?_⟩; first | exact badW_y3 Z2 Z2 Z5 Z2 | exact badW_y2 Z2 Z2 Z2 | exact badW_y1 Z2 Z5
    ·have c8e : (decide ((x4.1 : Int) ≥ 4)) = false := Eq.trans Z1 h7;clear h7;have c8 : ¬ (x4.1 : Int) ≥ 4 := of_decide_eq_false c8e;clear c8e;refine dK 3 ?_;refine ald_mapB (loadV Try.cfg ((St.empty 0).new (.cells [.int .i64 x4.1, .int .i64 x4.2.1, .int .i64 x4.2.2.1, .bool x4.2.2.2])) 4 (.pointer (some ⟨0, 3, none⟩))) (x4.2.2.2) Z1 Z1 Z1 Z1 (fun b => Z1) (fun c9 => ?_) (fun c9 => ?_)
     ·
      refine dK 3 ?_;refine dT (fun h10 => ?_) (fun h10 => ?_)
      ·have c11e : ((x4.2.2.1 : Int) != 0) = true := Eq.trans Z1 h10;clear h10;have c11 : ¬ (x4.2.2.1 : Int) = 0 := bne_iff_ne.1 c11e;clear c11e;refine dK 18 ?_;refine ald_nil ?_;refine kT ?_;refine Z1u ?_;refine kK Try.cfgOk hS ?_;refine Z1z ?_;refine .inr ⟨_, _, (fun h => Zw), .inr ⟨rfl, ?_, rfl, rfl⟩, ⟨Z1, ⟨Z1, trivial⟩, ⟨sub_clo rfl, trivial⟩, Zle, ⟨Z1, (Z1x 0), (fun i hi => absurd hi (Nat.not_lt_zero i))⟩, Z2b Z1⟩⟩
       ·refine ⟨Z5, ?_⟩; first | exact badW_y3 Z2 Z2 Z5 Z2 | exact badW_y2 Z2 Z2 Z2 | exact badW_y1 Z2 Z5
      ·have c11e : ((x4.2.2.1 : Int) != 0) = false := Eq.trans Z1 h10;clear h10;have c11 : (x4.2.2.1 : Int) = 0 := bne_eq_false_iff_eq.1 c11e;clear c11e;refine dK 4 ?_;refine dT (fun h12 => ?_) (fun h12 => ?_)
       ·have c13e : (decide ((((i : Nat) : Int) : Int) > 0)) = true := Eq.trans Z1 h12;clear h12;have c13 : (((i : Nat) : Int) : Int) > 0 := of_decide_eq_true c13e;clear c13e;refine dK 3 ?_;refine dE (v := .int .i64 (IntKind.wrap .i64 (((i : Nat) : Int) - 1))) (.int .i64 ((i - 1 : Nat) : Int)) (congrArg (Value.int .i64) (wrap_to Z5 Z5)) ?_;refine dM (indexAddrV Try.cfg 29 (inlL Z21 4 l) (.int .i64 ((i - 1 : Nat) : Int))) (elt (flatL Z21 l) ((i - 1) * 4)) (idx_inlL tokC Z1 Z0g) ?_;refine dM (fieldAddrV Try.cfg 50 (elt (flatL Z21 l) ((i - 1) * 4)) 0) (elt (flatL Z21 l) ((i - 1) * 4)) (fld_elt (o := (i - 1) * 4) (off := 0) tokC Z1) ?_;have hx14l : (i - 1) < l.length := by omega
        refine Exists.elim (get_ex hx14l) fun x14 hx14 => ?_
        clear hx14l;refine dM (loadV Try.cfg (St.empty 0) 48 (elt (flatL Z21 l) ((i - 1) * 4))) (.agg #[.int .i64 x14.1, .int .i64 x14.2.1]) ((load_part tokC (t := 48) (s := St.empty 0) (i := (i - 1)) (o := 0) (w := 2) (sz := 4) (y := (i - 1) * 4) rfl Z1 wcells_len Ze hx14).trans Z1) ?_;refine dK 2 ?_;refine dB 51 [.agg #[.int .i64 x14.1, .int .i64 x14.2.1], .agg #[.int .i64 x4.1, .int .i64 x4.2.1]] (decide (x14.1 < x4.1 ∨ x14.1 = x4.1 ∧ x14.2.1 < x4.2.1)) _ rfl (hC51 _ _ _ _ (con_lessP_at x14.1 x14.2.1 x4.1 x4.2.1  _)) (fun h15 => ?_) (fun h15 => ?_)
        ·have c16 : x14.1 < x4.1 ∨ x14.1 = x4.1 ∧ x14.2.1 < x4.2.1 := of_decide_eq_true h15;clear h15;refine dK 3 ?_;refine ald_nil ?_;refine kF ?_;refine Z26 ?_;refine Z1t Try.cfgOk hS ?_;refine aE (v := .int .i64 (IntKind.wrap .i64 (((i : Nat) : Int) + 1))) (.int .i64 ((i + 1 : Nat) : Int)) (congrArg (Value.int .i64) (wrap_to Z5 Z5)) ?_;refine aN ?_;refine .inl ⟨i + 1, rfl, ⟨?_, ?_⟩, ?_, ⟨Z1, ⟨Z1, Z1, Z1, Z1, trivial⟩, ⟨sub_clo rfl, sub_clo rfl, sub_clo rfl, sub_clo rfl, trivial⟩, Zle, ⟨Z1, (Z1x 0), (fun i hi => absurd hi (Nat.not_lt_zero i))⟩, Z2b Z1⟩⟩
         ·(try dsimp only); omega
         ·(try dsimp only); exact NoI.succ (p := (fun i : Nat => badW l i)) Z2 Zr
         ·omega
        ·have c16 : ¬ (x14.1 < x4.1 ∨ x14.1 = x4.1 ∧ x14.2.1 < x4.2.1) := of_decide_eq_false h15;clear h15;refine dK 3 ?_;refine ald_nil ?_;refine kT ?_;refine Z1u ?_;refine kK Try.cfgOk hS ?_;refine Z1z ?_;refine .inr ⟨_, _, (fun h => Zw), .inr ⟨rfl, ?_, rfl, rfl⟩, ⟨Z1, ⟨Z1, trivial⟩, ⟨sub_clo rfl, trivial⟩, Zle, ⟨Z1, (Z1x 0), (fun i hi => absurd hi (Nat.not_lt_zero i))⟩, Z2b Z1⟩⟩
         ·refine ⟨Z5, ?_⟩; first | exact badW_y3 Z2 Z2 Z5 Z2 | exact badW_y2 Z2 Z2 Z2 | exact badW_y1 Z2 Z5
       ·have c13e : (decide ((((i : Nat) : Int) : Int) > 0)) = false := Eq.trans Z1 h12;clear h12;have c13 : ¬ (((i : Nat) : Int) : Int) > 0 := of_decide_eq_false c13e;clear c13e;refine dK 13 ?_;refine ald_nil ?_;refine kF ?_;refine Z26 ?_;refine Z1t Try.cfgOk hS ?_;refine aE (v := .int .i64 (IntKind.wrap .i64 (((i : Nat) : Int) + 1))) (.int .i64 ((i + 1 : Nat) : Int)) (congrArg (Value.int .i64) (wrap_to Z5 Z5)) ?_;refine aN ?_;refine .inl ⟨i + 1, rfl, ⟨?_, ?_⟩, ?_, ⟨Z1, ⟨Z1, Z1, Z1, Z1, trivial⟩, ⟨sub_clo rfl, sub_clo rfl, sub_clo rfl, sub_clo rfl, trivial⟩, Zle, ⟨Z1, (Z1x 0), (fun i hi => absurd hi (Nat.not_lt_zero i))⟩, Z2b Z1⟩⟩
        ·(try dsimp only); omega
        ·(try dsimp only); exact NoI.succ (p := (fun i : Nat => badW l i)) Z2 Zr
        ·omega
     ·
      refine dK 8 ?_;refine dT (fun h17 => ?_) (fun h17 => ?_)
      ·have c18e : (decide ((((i : Nat) : Int) : Int) > 0)) = true := Eq.trans Z1 h17;clear h17;have c18 : (((i : Nat) : Int) : Int) > 0 := of_decide_eq_true c18e;clear c18e;refine dK 3 ?_;refine dE (v := .int .i64 (IntKind.wrap .i64 (((i : Nat) : Int) - 1))) (.int .i64 ((i - 1 : Nat) : Int)) (congrArg (Value.int .i64) (wrap_to Z5 Z5)) ?_;refine dM (indexAddrV Try.cfg 29 (inlL Z21 4 l) (.int .i64 ((i - 1 : Nat) : Int))) (elt (flatL Z21 l) ((i - 1) * 4)) (idx_inlL tokC Z1 Z0g) ?_;refine dM (fieldAddrV Try.cfg 50 (elt (flatL Z21 l) ((i - 1) * 4)) 0) (elt (flatL Z21 l) ((i - 1) * 4)) (fld_elt (o := (i - 1) * 4) (off := 0) tokC Z1) ?_;have hx19l : (i - 1) < l.length := by omega
       refine Exists.elim (get_ex hx19l) fun x19 hx19 => ?_
       clear hx19l;refine dM (loadV Try.cfg (St.empty 0) 48 (elt (flatL Z21 l) ((i - 1) * 4))) (.agg #[.int .i64 x19.1, .int .i64 x19.2.1]) ((load_part tokC (t := 48) (s := St.empty 0) (i := (i - 1)) (o := 0) (w := 2) (sz := 4) (y := (i - 1) * 4) rfl Z1 wcells_len Ze hx19).trans Z1) ?_;refine dK 2 ?_;refine dB 51 [.agg #[.int .i64 x19.1, .int .i64 x19.2.1], .agg #[.int .i64 x4.1, .int .i64 x4.2.1]] (decide (x19.1 < x4.1 ∨ x19.1 = x4.1 ∧ x19.2.1 < x4.2.1)) _ rfl (hC51 _ _ _ _ (con_lessP_at x19.1 x19.2.1 x4.1 x4.2.1  _)) (fun h20 => ?_) (fun h20 => ?_)
       ·have c21 : x19.1 < x4.1 ∨ x19.1 = x4.1 ∧ x19.2.1 < x4.2.1 := of_decide_eq_true h20;clear h20;refine dK 3 ?_;refine ald_nil ?_;refine kF ?_;refine Z26 ?_;refine Z1t Try.cfgOk hS ?_;refine aE (v := .int .i64 (IntKind.wrap .i64 (((i : Nat) : Int) + 1))) (.int .i64 ((i + 1 : Nat) : Int)) (congrArg (Value.int .i64) (wrap_to Z5 Z5)) ?_;refine aN ?_;refine .inl ⟨i + 1, rfl, ⟨?_, ?_⟩, ?_, ⟨Z1, ⟨Z1, Z1, Z1, Z1, trivial⟩, ⟨sub_clo rfl, sub_clo rfl, sub_clo rfl, sub_clo rfl, trivial⟩, Zle, ⟨Z1, (Z1x 0), (fun i hi => absurd hi (Nat.not_lt_zero i))⟩, Z2b Z1⟩⟩
        ·(try dsimp only); omega
        ·(try dsimp only); exact NoI.succ (p := (fun i : Nat => badW l i)) Z2 Zr
        ·omega
       ·have c21 : ¬ (x19.1 < x4.1 ∨ x19.1 = x4.1 ∧ x19.2.1 < x4.2.1) := of_decide_eq_false h20;clear h20;refine dK 3 ?_;refine ald_nil ?_;refine kT ?_;refine Z1u ?_;refine kK Try.cfgOk hS ?_;refine Z1z ?_;refine .inr ⟨_, _, (fun h => Zw), .inr ⟨rfl, ?_, rfl, rfl⟩, ⟨Z1, ⟨Z1, trivial⟩, ⟨sub_clo rfl, trivial⟩, Zle, ⟨Z1, (Z1x 0), (fun i hi => absurd hi (Nat.not_lt_zero i))⟩, Z2b Z1⟩⟩
        ·refine ⟨Z5, ?_⟩; first | exact badW_y3 Z2 Z2 Z5 Z2 | exact badW_y2 Z2 Z2 Z2 | exact badW_y1 Z2 Z5
      ·have c18e : (decide ((((i : Nat) : Int) : Int) > 0)) = false := Eq.trans Z1 h17;clear h17;have c18 : ¬ (((i : Nat) : Int) : Int) > 0 := of_decide_eq_false c18e;clear c18e;refine dK 13 ?_;refine ald_nil ?_;refine kF ?_;refine Z26 ?_;refine Z1t Try.cfgOk hS ?_;refine aE (v := .int .i64 (IntKind.wrap .i64 (((i : Nat) : Int) + 1))) (.int .i64 ((i + 1 : Nat) : Int)) (congrArg (Value.int .i64) (wrap_to Z5 Z5)) ?_;refine aN ?_;refine .inl ⟨i + 1, rfl, ⟨?_, ?_⟩, ?_, ⟨Z1, ⟨Z1, Z1, Z1, Z1, trivial⟩, ⟨sub_clo rfl, sub_clo rfl, sub_clo rfl, sub_clo rfl, trivial⟩, Zle, ⟨Z1, (Z1x 0), (fun i hi => absurd hi (Nat.not_lt_zero i))⟩, Z2b Z1⟩⟩
       ·(try dsimp only); omega
       ·(try dsimp only); exact NoI.succ (p := (fun i : Nat => badW l i)) Z2 Zr
       ·omega
  ·have c3e : (decide ((((i : Nat) : Int) : Int) < ((l.length : Nat) : Int))) = false := Eq.trans Z1 h2;clear h2;have c3 : ¬ (((i : Nat) : Int) : Int) < ((l.length : Nat) : Int) := of_decide_eq_false c3e;clear c3e;refine Z29 ?_;refine Z1u ?_;refine kF ?_;refine sk_exit ?_;dsimp only;refine .inr ⟨_, _, (fun h => Zw), .inl ⟨rfl, ?_, rfl, rfl⟩, ⟨Z1, ⟨Z1, Z1, Z1, Z1, trivial⟩, ⟨sub_clo rfl, sub_clo rfl, sub_clo rfl, sub_clo rfl, trivial⟩, Zle, ⟨Z1, (Z1x 0), (fun i hi => absurd hi (Nat.not_lt_zero i))⟩, Z2b Z1⟩⟩
   ·omega
 ·exact ⟨Zy, Z0t⟩
 rintro o e1 s1 ⟨a, lv1, M1, m1, ha, (⟨rfl, hx, rfl, rfl⟩ | ⟨rfl, hx, rfl, rfl⟩), rfl, rfl⟩
 ·
  obtain ⟨i, ea⟩ : ∃ z, z = a := ⟨_, rfl⟩;subst ea;obtain ⟨i0, i1⟩ := ha;dsimp only;try rw [if_pos rfl]
  refine Z1u ?_;refine kK Try.cfgOk hS ?_;refine Z1z ?_;exact ⟨[.bool true], Z1, fs_to (Z23 rfl) (congrArg Value.bool Z07), Zle⟩
 ·
  obtain ⟨i, ea⟩ : ∃ z, z = a := ⟨_, rfl⟩;subst ea;obtain ⟨i0, i1⟩ := ha;dsimp only;exact ⟨[.bool false], Z1, fs_to (Z23 rfl) (congrArg Value.bool Z07), Zle⟩
noncomputable def con_risingW : Con Try.prog 0 := Con.pure (α := (List Wr)) 31 (fun z9 => [inlL Z21 4 z9]) (fun z9 => .bool (tf (risW z9))) (fun z9 => (z9.length ≤ 1000000)) (by
 intro x y h
 simp only [injA, wcells_iff] at h
 first | exact h | (simp only [Prod.ext_iff, h, and_self, and_true, true_and]; done) | simp_all [Prod.ext_iff]) (fun _ => rfl) (fun _ => rfl) 400 (by
 rintro x p0
 exact risingW_sc x p0)
theorem con_risingW_at (l : List Wr) (h0 : l.length ≤ 1000000) (s : St) : con_risingW.rel [inlL Z21 4 l] s (.bool (tf (risW l))) s := con_pure l h0 s
theorem good_v {sq : Int} {vl : Bool} {fu : Int} {co : List Code} {rs : List Key} {ss : List Span} {ws : List Key} {wr : List Wr} (h : vl = true) : goodR_ sq vl fu co rs ss ws wr ↔ (1 ≤ sq ∧ sq ≤ 281474976710655) ∧ (fu = 0 ∧ co.length = 0 ∧ rs.length + ss.length + ws.length = 0) ∧ risW wr := by rw [h]; exact Iff.rfl
theorem good_c {sq : Int} {vl : Bool} {fu : Int} {co : List Code} {rs : List Key} {ss : List Span} {ws : List Key} {wr : List Wr} (h : vl = false) : goodR_ sq vl fu co rs ss ws wr ↔ (1 ≤ sq ∧ sq ≤ 281474976710655) ∧ wr.length = 0 ∧ checkP fu co ∧ goodP rs ss ws := by rw [h]; exact Iff.rfl
theorem rgood_fn : Try.cfg.fn 15 = some Try.f15 := Z1
theorem rgood_sc (sq : Int) (vl : Bool) (fu : Int) (co : List Code) (rs : List Key) (ss : List Span) (ws : List Key) (wr : List Wr) (h0 : co.length ≤ 1000000) (h1 : rs.length ≤ 1000000) (h2 : ss.length ≤ 1000000) (h3 : ws.length ≤ 1000000) (h4 : wr.length ≤ 1000000) : SC Try.prog 0 15 [.agg #[.int .i64 sq, .bool vl, .int .i64 fu, inlL Z1w 6 co, inlL Z1v 2 rs, inlL Z1y 3 ss, inlL Z1v 2 ws, inlL Z21 4 wr]] (St.empty 0) fun v s' => v = .bool (tf (goodR_ sq vl fu co rs ss ws wr)) ∧ s'.n ≤ 400 := by
 obtain ⟨rc, hS, hC⟩ := rc_con (Z24 Try.cfgOk 300) [con_bare, con_risingW, con_check, con_goodP_] Z1;have hC30 := hC con_bare (.head _);have hC31 := hC con_risingW (.tail _ (.head _));have hC32 := hC con_check (.tail _ (.tail _ (.head _)));have hC33 := hC con_goodP_ (.tail _ (.tail _ (.tail _ (.head _))));refine sc_ice0 (N := 400) (v2 := .bool (tf (goodR_ sq vl fu co rs ss ws wr))) (Q := fun v s' => FS 0 s' v (.bool (tf (goodR_ sq vl fu co rs ss ws wr))) ∧ s'.n ≤ 400) ?_ (fun _ _ h => h);refine Z2d Try.cfgOk rgood_fn rfl ?_;refine Z1u ?_;refine kK Try.cfgOk hS ?_;refine Z1u (Z1u ?_);refine Z1t Try.cfgOk hS ?_;refine aK 2 ?_;refine aT (fun h1 => ?_) (fun h1 => ?_)
 ·have c2e : (decide ((sq : Int) < 1)) = true := Eq.trans Z1 h1;clear h1;have c2 : (sq : Int) < 1 := of_decide_eq_true c2e;clear c2e;refine aN ?_;refine kT ?_;refine Z1u ?_;refine kK Try.cfgOk hS ?_;refine Z1z ?_;exact ⟨[.bool false], Z1, fs_to (Z23 rfl) (congrArg Value.bool Z9), Zle⟩
 ·have c2e : (decide ((sq : Int) < 1)) = false := Eq.trans Z1 h1;clear h1;have c2 : ¬ (sq : Int) < 1 := of_decide_eq_false c2e;clear c2e;refine aK 3 ?_;refine aT (fun h3 => ?_) (fun h3 => ?_)
  ·have c4e : (decide ((sq : Int) > 281474976710655)) = true := Eq.trans Z1 h3;clear h3;have c4 : (sq : Int) > 281474976710655 := of_decide_eq_true c4e;clear c4e;refine aN ?_;refine kT ?_;refine Z1u ?_;refine kK Try.cfgOk hS ?_;refine Z1z ?_;exact ⟨[.bool false], Z1, fs_to (Z23 rfl) (congrArg Value.bool Z9), Zle⟩
  ·have c4e : (decide ((sq : Int) > 281474976710655)) = false := Eq.trans Z1 h3;clear h3;have c4 : ¬ (sq : Int) > 281474976710655 := of_decide_eq_false c4e;clear c4e;refine aN ?_;refine kF ?_;refine Z26 (Z1u (Z1u ?_));refine Z1t Try.cfgOk hS ?_;refine aK 1 ?_;refine al_mapB (loadV Try.cfg ((St.empty 0).new (.cells [.int .i64 sq, .bool vl, .int .i64 fu, inlL Z1w 6 co, inlL Z1v 2 rs, inlL Z1y 3 ss, inlL Z1v 2 ws, inlL Z21 4 wr])) 4 (.pointer (some ⟨0, 1, none⟩))) (vl) Z1 Z1 Z1 Z1 (fun c5 => ?_) (fun c5 => ?_)
   ·
    refine Z29 ?_;refine kT ?_;refine Z1u ?_;refine Z1t Try.cfgOk hS ?_;refine aK 1 ?_;refine aB 30 [.agg #[.int .i64 sq, .bool vl, .int .i64 fu, inlL Z1w 6 co, inlL Z1v 2 rs, inlL Z1y 3 ss, inlL Z1v 2 ws, inlL Z21 4 wr]] (decide (fu = 0 ∧ co.length = 0 ∧ rs.length + ss.length + ws.length = 0)) _ rfl (hC30 _ _ _ _ (con_bare_at sq vl fu co rs ss ws wr Zm Zm Zm Zm Zm _)) (fun h6 => ?_) (fun h6 => ?_)
    ·have c7 : fu = 0 ∧ co.length = 0 ∧ rs.length + ss.length + ws.length = 0 := of_decide_eq_true h6;clear h6;refine aK 3 ?_;refine aB 31 [inlL Z21 4 wr] (tf (risW wr)) _ rfl (hC31 _ _ _ _ (con_risingW_at wr Zm _)) (fun h8 => ?_) (fun h8 => ?_)
     ·have c9 : risW wr := tf_t h8;clear h8;refine aN ?_;refine Z1z ?_;exact ⟨[.bool true], Z1, fs_to (Z23 rfl) (congrArg Value.bool Z9), Zle⟩
     ·have c9 : ¬ (risW wr) := tf_f h8;clear h8;refine aN ?_;refine Z1z ?_;exact ⟨[.bool false], Z1, fs_to (Z23 rfl) (congrArg Value.bool Z9), Zle⟩
    ·have c7 : ¬ (fu = 0 ∧ co.length = 0 ∧ rs.length + ss.length + ws.length = 0) := of_decide_eq_false h6;clear h6;refine aN ?_;refine Z1z ?_;exact ⟨[.bool false], Z1, fs_to (Z23 rfl) (congrArg Value.bool Z9), Zle⟩
   ·
    refine Z29 ?_;refine kF ?_;refine Z26 (Z1u ?_);refine Z1t Try.cfgOk hS ?_;refine aK 2 ?_;refine aM (lenB Try.cfg (St.empty 0) 29 (inlL Z21 4 wr)) (.int .i64 ((wr.length : Nat) : Int)) (len_inl tokC Z1) ?_;refine aT (fun h10 => ?_) (fun h10 => ?_)
    ·have c11e : ((((wr.length : Nat) : Int) : Int) == 0) = true := Eq.trans Z1 h10;clear h10;have c11 : (((wr.length : Nat) : Int) : Int) = 0 := eq_of_beq c11e;clear c11e;refine aK 3 ?_;by_cases q12 : checkP fu co
     ·
      refine aC 32 [.agg #[.int .i64 fu, inlL Z1w 6 co]] (.nilIface) _ rfl (rc_eq (hC32 _ _ _ _ (con_check_at fu co Zm _)) (checkV_t q12)) ?_;refine aK 5 ?_;refine aB 33 [.agg #[inlL Z1v 2 rs, inlL Z1y 3 ss, inlL Z1v 2 ws]] (tf (goodP rs ss ws)) _ rfl (hC33 _ _ _ _ (con_goodP__at rs ss ws Zm Zm Zm _)) (fun h13 => ?_) (fun h13 => ?_)
      ·have c14 : goodP rs ss ws := tf_t h13;clear h13;refine aN ?_;refine Z1z ?_;exact ⟨[.bool true], Z1, fs_to (Z23 rfl) (congrArg Value.bool Z9), Zle⟩
      ·have c14 : ¬ (goodP rs ss ws) := tf_f h13;clear h13;refine aN ?_;refine Z1z ?_;exact ⟨[.bool false], Z1, fs_to (Z23 rfl) (congrArg Value.bool Z9), Zle⟩
     ·
      refine aC 32 [.agg #[.int .i64 fu, inlL Z1w 6 co]] (.iface 103 (.chan (some 0))) _ rfl (rc_eq (hC32 _ _ _ _ (con_check_at fu co Zm _)) (checkV_f q12)) ?_;refine aN ?_;refine Z1z ?_;exact ⟨[.bool false], Z1, fs_to (Z23 rfl) (congrArg Value.bool Z9), Zle⟩
    ·have c11e : ((((wr.length : Nat) : Int) : Int) == 0) = false := Eq.trans Z1 h10;clear h10;have c11 : ¬ (((wr.length : Nat) : Int) : Int) = 0 := ne_of_beq_false c11e;clear c11e;refine aN ?_;refine Z1z ?_;exact ⟨[.bool false], Z1, fs_to (Z23 rfl) (congrArg Value.bool Z9), Zle⟩
noncomputable def con_rgood : Con Try.prog 0 := Con.pure (α := Int × Bool × Int × (List Code) × (List Key) × (List Span) × (List Key) × (List Wr)) 15 (fun z9 => [.agg #[.int .i64 z9.1, .bool z9.2.1, .int .i64 z9.2.2.1, inlL Z1w 6 z9.2.2.2.1, inlL Z1v 2 z9.2.2.2.2.1, inlL Z1y 3 z9.2.2.2.2.2.1, inlL Z1v 2 z9.2.2.2.2.2.2.1, inlL Z21 4 z9.2.2.2.2.2.2.2]]) (fun z9 => .bool (tf (goodR_ z9.1 z9.2.1 z9.2.2.1 z9.2.2.2.1 z9.2.2.2.2.1 z9.2.2.2.2.2.1 z9.2.2.2.2.2.2.1 z9.2.2.2.2.2.2.2))) (fun z9 => (z9.2.2.2.1.length ≤ 1000000) ∧ (z9.2.2.2.2.1.length ≤ 1000000) ∧ (z9.2.2.2.2.2.1.length ≤ 1000000) ∧ (z9.2.2.2.2.2.2.1.length ≤ 1000000) ∧ (z9.2.2.2.2.2.2.2.length ≤ 1000000)) (by
 rintro ⟨a0, a1, a2, a3, a4, a5, a6, a7⟩ ⟨b0, b1, b2, b3, b4, b5, b6, b7⟩ h
 simp only [injA, ccells_iff, kcells_iff, scells_iff, wcells_iff] at h
 first | exact h | (simp only [Prod.ext_iff, h, and_self, and_true, true_and]; done) | simp_all [Prod.ext_iff]) (fun _ => rfl) (fun _ => rfl) 400 (by
 rintro ⟨a0, a1, a2, a3, a4, a5, a6, a7⟩ ⟨p0, p1, p2, p3, p4⟩
 exact rgood_sc a0 a1 a2 a3 a4 a5 a6 a7 p0 p1 p2 p3 p4)
theorem con_rgood_at (sq : Int) (vl : Bool) (fu : Int) (co : List Code) (rs : List Key) (ss : List Span) (ws : List Key) (wr : List Wr) (h0 : co.length ≤ 1000000) (h1 : rs.length ≤ 1000000) (h2 : ss.length ≤ 1000000) (h3 : ws.length ≤ 1000000) (h4 : wr.length ≤ 1000000) (s : St) : con_rgood.rel [.agg #[.int .i64 sq, .bool vl, .int .i64 fu, inlL Z1w 6 co, inlL Z1v 2 rs, inlL Z1y 3 ss, inlL Z1v 2 ws, inlL Z21 4 wr]] s (.bool (tf (goodR_ sq vl fu co rs ss ws wr))) s := con_pure (sq, vl, fu, co, rs, ss, ws, wr) ⟨h0, h1, h2, h3, h4⟩ s
end Go.Proofs.Ytegigohhnplomaa