/- Feet: good, meeting. -/
import Derived.Test.YtekeepgjegkedaaFeet
import Derived.Test.YtekeepgjegkedaaKit
set_option linter.unusedVariables false
set_option linter.unusedSimpArgs false
set_option linter.unnecessarySimpa false
set_option maxHeartbeats 4000000
set_option maxRecDepth 100000
namespace Go.Proofs.Ytekeepgjegkedaa
open Go.Ai
def badK (l : List Key) (i : Nat) : Prop := ∃ x, l[i]? = some x ∧ (¬ (0 ≤ x.1 ∧ x.1 < 4) ∨ 0 < i ∧ ∃ y, l[i - 1]? = some y ∧ ¬ (y.1 < x.1 ∨ y.1 = x.1 ∧ y.2 < x.2))
theorem badK_iff {l : List Key} {i : Nat} {x : Key} (hx : l[i]? = some x) : badK l i ↔ (¬ (0 ≤ x.1 ∧ x.1 < 4) ∨ 0 < i ∧ ∃ y, l[i - 1]? = some y ∧ ¬ (y.1 < x.1 ∨ y.1 = x.1 ∧ y.2 < x.2)) :=
 ⟨fun ⟨z, h1, h2⟩ => Z0l, fun h => ⟨x, hx, h⟩⟩
theorem badK_iff2 {l : List Key} {i : Nat} {x y : Key} (hx : l[i]? = some x) (hy : l[i - 1]? = some y) : badK l i ↔ (¬ (0 ≤ x.1 ∧ x.1 < 4) ∨ 0 < i ∧ ¬ (y.1 < x.1 ∨ y.1 = x.1 ∧ y.2 < x.2)) := by
 rw [badK_iff hx, hy];simp
abbrev risingL (l : List Key) : Prop := ¬ ∃ i, i < l.length ∧ badK l i
theorem risingP_fn : Try.cfg.fn 37 = some Try.f37 := Z0
theorem risingP_sc (l : List Key) (h0 : l.length ≤ 1000000) : SC Try.prog 0 37 [inlL Z1o 2 l] (St.empty 0) fun v s' => v = .bool (tf (risingL l)) ∧ s'.n ≤ 400 := by
 obtain ⟨rc, hS, hC⟩ := rc_con (Z20 Try.cfgOk 300) [con_table, con_lessP] Z0;have hC34 := hC con_table (.head _);have hC22 := hC con_lessP (.tail _ (.head _));refine sc_ice0 (N := 400) (v2 := .bool (tf (risingL l))) (Q := fun v s' => FS 0 s' v (.bool (tf (risingL l))) ∧ s'.n ≤ 400) ?_ (fun _ _ h => h);refine sc_body Try.cfgOk risingP_fn rfl ?_;refine Z1q ?_;refine kK Try.cfgOk hS ?_;refine Z1q (Z1q ?_);refine Z1p Try.cfgOk hS ?_;refine aK 1 ?_;refine aM (lenB Try.cfg (St.empty 0) 22 (inlL Z1o 2 l)) (.int .i64 ((l.length : Nat) : Int)) (len_inl tokC Z0) ?_;refine aN ?_;refine Z27 ?_;refine sk_live 31 ((fun a : Nat => [(0, inlL Z1o 2 l), (5, inlL Z1o 2 l), (6, .int .i64 ((l.length : Nat) : Int)), (7, .int .i64 ((a : Nat) : Int))]) 0) Z0 ⟨Z0, Z0, Z0, Z0, trivial⟩ fun m1 => ?_
 refine sk_st ((fun a : Nat => (St.empty 0)) 0) Z0 ?_;refine (sk_while (k := 0) (N := 400) (live := (fun a : Nat => [(0, inlL Z1o 2 l), (5, inlL Z1o 2 l), (6, .int .i64 ((l.length : Nat) : Int)), (7, .int .i64 ((a : Nat) : Int))])) (M := (fun a : Nat => (St.empty 0))) (fun a : Nat => (a ≤ l.length) ∧ (NoI (fun a : Nat => badK l a) a)) (fun a : Nat => l.length - a) (fun (a : Nat) (o : Out) (lv : List (Nat × Value)) (M : St) => (o = .exit 0 ∧ (¬ a < l.length) ∧ lv = [(0, inlL Z1o 2 l), (5, inlL Z1o 2 l), (6, .int .i64 ((l.length : Nat) : Int)), (7, .int .i64 ((a : Nat) : Int))] ∧ M = (St.empty 0)) ∨ (o = .ret ∧ (a < l.length ∧ (badK l a)) ∧ lv = [(2, .bool false)] ∧ M = (St.empty 0))) (Nat.zero_le _) (fun a ha => ?_) (fun a ha => ?_) (fun a m ha => ?_) (fun a m ha => ?_) 0 m1 ?_).up ?_
 ·exact ⟨Z0, (Z1r 0), (fun i hi => absurd hi (Nat.not_lt_zero i))⟩
 ·exact ⟨sub_clo rfl, sub_clo rfl, sub_clo rfl, sub_clo rfl, trivial⟩
 ·exact ⟨Z0, Z0, Z0, Z0, trivial⟩
 ·obtain ⟨i, ea⟩ : ∃ z, z = a := ⟨_, rfl⟩;subst ea;obtain ⟨i0, i1⟩ := ha;refine Z1q ?_;refine Z1p Try.cfgOk hS ?_;refine aT (fun h2 => ?_) (fun h2 => ?_)
  ·have c3e : (decide ((((i : Nat) : Int) : Int) < ((l.length : Nat) : Int))) = true := Eq.trans Z0 h2;clear h2;have c3 : (((i : Nat) : Int) : Int) < ((l.length : Nat) : Int) := of_decide_eq_true c3e;clear c3e;refine Z24 ?_;refine Z1q ?_;refine kT ?_;refine Z21 (Z1q (Z27 (Z1q ?_)));refine Z1p Try.cfgOk hS ?_;refine aK 1 ?_;refine aM (Z23 Try.cfg 22 (inlL Z1o 2 l) (.int .i64 ((i : Nat) : Int))) (elt (flatL Z1o l) (i * 2)) (idx_inlL tokC Z0 Zu) ?_;have hx4l : i < l.length := by omega
   refine Exists.elim (get_ex hx4l) fun x4 hx4 => ?_
   clear hx4l;refine aM (loadV Try.cfg (St.empty 0) 30 (elt (flatL Z1o l) (i * 2))) (.agg #[.int .i64 x4.1, .int .i64 x4.2]) (load_el tokC Z0 kcells_len hx4) ?_;refine aN ?_;refine Z1q ?_;refine sk_drawL Try.cfgOk hS ?_;refine dK 2 ?_;refine dB 34 [.int .i64 x4.1] (decide (0 ≤ x4.1 ∧ x4.1 < 4)) _ rfl (hC34 _ _ _ _ (con_table_at x4.1  _)) (fun h5 => ?_) (fun h5 => ?_)
   ·have c6 : 0 ≤ x4.1 ∧ x4.1 < 4 := of_decide_eq_true h5;clear h5;refine dK 3 ?_;refine dT (fun h7 => ?_) (fun h7 => ?_)
    ·have c8e : (decide ((((i : Nat) : Int) : Int) > 0)) = true := Eq.trans Z0 h7;clear h7;have c8 : (((i : Nat) : Int) : Int) > 0 := of_decide_eq_true c8e;clear c8e;refine dK 3 ?_;refine dE (v := .int .i64 (IntKind.wrap .i64 (((i : Nat) : Int) - 1))) (.int .i64 ((i - 1 : Nat) : Int)) (congrArg (Value.int .i64) (wrap_to Z5 Z5)) ?_;refine dM (Z23 Try.cfg 22 (inlL Z1o 2 l) (.int .i64 ((i - 1 : Nat) : Int))) (elt (flatL Z1o l) ((i - 1) * 2)) (idx_inlL tokC Z0 Zu) ?_;have hx9l : (i - 1) < l.length := by omega
     refine Exists.elim (get_ex hx9l) fun x9 hx9 => ?_
     clear hx9l;refine dM (loadV Try.cfg (St.empty 0) 30 (elt (flatL Z1o l) ((i - 1) * 2))) (.agg #[.int .i64 x9.1, .int .i64 x9.2]) (load_el tokC Z0 kcells_len hx9) ?_;refine dK 1 ?_;refine dB 22 [.agg #[.int .i64 x9.1, .int .i64 x9.2], .agg #[.int .i64 x4.1, .int .i64 x4.2]] (decide (x9.1 < x4.1 ∨ x9.1 = x4.1 ∧ x9.2 < x4.2)) _ rfl (hC22 _ _ _ _ (con_lessP_at x9.1 x9.2 x4.1 x4.2  _)) (fun h10 => ?_) (fun h10 => ?_)
     ·have c11 : x9.1 < x4.1 ∨ x9.1 = x4.1 ∧ x9.2 < x4.2 := of_decide_eq_true h10;clear h10;refine dK 3 ?_;refine ald_nil ?_;refine kF ?_;refine Z21 ?_;refine Z1p Try.cfgOk hS ?_;refine aE (v := .int .i64 (IntKind.wrap .i64 (((i : Nat) : Int) + 1))) (.int .i64 ((i + 1 : Nat) : Int)) (congrArg (Value.int .i64) (wrap_to Z5 Z5)) ?_;refine aN ?_;refine .inl ⟨i + 1, rfl, ⟨?_, ?_⟩, ?_, ⟨Z0, ⟨Z0, Z0, Z0, Z0, trivial⟩, ⟨sub_clo rfl, sub_clo rfl, sub_clo rfl, sub_clo rfl, trivial⟩, Zle, ⟨Z0, (Z1r 0), (fun i hi => absurd hi (Nat.not_lt_zero i))⟩, Z1w Z0⟩⟩
      ·(try dsimp only); omega
      ·(try dsimp only); exact NoI.succ (p := (fun i : Nat => badK l i)) Z4 Zh
      ·omega
     ·have c11 : ¬ (x9.1 < x4.1 ∨ x9.1 = x4.1 ∧ x9.2 < x4.2) := of_decide_eq_false h10;clear h10;refine dK 3 ?_;refine ald_nil ?_;refine kT ?_;refine Z1q ?_;refine kK Try.cfgOk hS ?_;refine Z1v ?_;refine .inr ⟨_, _, (fun h => Zo), .inr ⟨rfl, ?_, rfl, rfl⟩, ⟨Z0, ⟨Z0, trivial⟩, ⟨sub_clo rfl, trivial⟩, Zle, ⟨Z0, (Z1r 0), (fun i hi => absurd hi (Nat.not_lt_zero i))⟩, Z1w Z0⟩⟩
      ·first | (refine ⟨Z5, ?_⟩; first | (rw [badK_iff2 Z4 Z4]; omega) | (rw [badK_iff Z4]; exact .inl Z5)) | (rw [badK_iff2 Z4 Z4]; omega) | (rw [badK_iff Z4]; rintro (h | ⟨h, _⟩) <;> omega)
    ·have c8e : (decide ((((i : Nat) : Int) : Int) > 0)) = false := Eq.trans Z0 h7;clear h7;have c8 : ¬ (((i : Nat) : Int) : Int) > 0 := of_decide_eq_false c8e;clear c8e;refine dK 11 ?_;refine ald_nil ?_;refine kF ?_;refine Z21 ?_;refine Z1p Try.cfgOk hS ?_;refine aE (v := .int .i64 (IntKind.wrap .i64 (((i : Nat) : Int) + 1))) (.int .i64 ((i + 1 : Nat) : Int)) (congrArg (Value.int .i64) (wrap_to Z5 Z5)) ?_;refine aN ?_;refine .inl ⟨i + 1, rfl, ⟨?_, ?_⟩, ?_, ⟨Z0, ⟨Z0, Z0, Z0, Z0, trivial⟩, ⟨sub_clo rfl, sub_clo rfl, sub_clo rfl, sub_clo rfl, trivial⟩, Zle, ⟨Z0, (Z1r 0), (fun i hi => absurd hi (Nat.not_lt_zero i))⟩, Z1w Z0⟩⟩
     ·(try dsimp only); omega
     ·(try dsimp only); exact NoI.succ (p := (fun i : Nat => badK l i)) Z4 Zh
     ·omega
   ·have c6 : ¬ (0 ≤ x4.1 ∧ x4.1 < 4) := of_decide_eq_false h5;clear h5;refine dK 15 ?_;refine ald_nil ?_;refine kT ?_;refine Z1q ?_;refine kK Try.cfgOk hS ?_;refine Z1v ?_;refine .inr ⟨_, _, (fun h => Zo), .inr ⟨rfl, ?_, rfl, rfl⟩, ⟨Z0, ⟨Z0, trivial⟩, ⟨sub_clo rfl, trivial⟩, Zle, ⟨Z0, (Z1r 0), (fun i hi => absurd hi (Nat.not_lt_zero i))⟩, Z1w Z0⟩⟩
    ·first | (refine ⟨Z5, ?_⟩; first | (rw [badK_iff2 Z4 Z4]; omega) | (rw [badK_iff Z4]; exact .inl Z5)) | (rw [badK_iff2 Z4 Z4]; omega) | (rw [badK_iff Z4]; rintro (h | ⟨h, _⟩) <;> omega)
  ·have c3e : (decide ((((i : Nat) : Int) : Int) < ((l.length : Nat) : Int))) = false := Eq.trans Z0 h2;clear h2;have c3 : ¬ (((i : Nat) : Int) : Int) < ((l.length : Nat) : Int) := of_decide_eq_false c3e;clear c3e;refine Z24 ?_;refine Z1q ?_;refine kF ?_;refine sk_exit ?_;dsimp only;refine .inr ⟨_, _, (fun h => Zo), .inl ⟨rfl, ?_, rfl, rfl⟩, ⟨Z0, ⟨Z0, Z0, Z0, Z0, trivial⟩, ⟨sub_clo rfl, sub_clo rfl, sub_clo rfl, sub_clo rfl, trivial⟩, Zle, ⟨Z0, (Z1r 0), (fun i hi => absurd hi (Nat.not_lt_zero i))⟩, Z1w Z0⟩⟩
   ·omega
 ·exact ⟨Zi, Z09⟩
 rintro o e1 s1 ⟨a, lv1, M1, m1, ha, (⟨rfl, hx, rfl, rfl⟩ | ⟨rfl, hx, rfl, rfl⟩), rfl, rfl⟩
 ·
  obtain ⟨i, ea⟩ : ∃ z, z = a := ⟨_, rfl⟩;subst ea;obtain ⟨i0, i1⟩ := ha;dsimp only;try rw [if_pos rfl]
  refine Z1q ?_;refine kK Try.cfgOk hS ?_;refine Z1v ?_;exact ⟨[.bool true], Z0, fs_to (fs_clo rfl) (congrArg Value.bool Zx), Zle⟩
 ·
  obtain ⟨i, ea⟩ : ∃ z, z = a := ⟨_, rfl⟩;subst ea;obtain ⟨i0, i1⟩ := ha;dsimp only;exact ⟨[.bool false], Z0, fs_to (fs_clo rfl) (congrArg Value.bool Zx), Zle⟩
noncomputable def con_risingP : Con Try.prog 0 := Con.pure (α := (List Key)) 37 (fun z9 => [inlL Z1o 2 z9]) (fun z9 => .bool (tf (risingL z9))) (fun z9 => (z9.length ≤ 1000000)) (by
 intro x y h
 simp only [injA, kcells_iff] at h
 first | exact h | (simp only [Prod.ext_iff, h, and_self, and_true, true_and]; done) | simp_all [Prod.ext_iff]) (fun _ => rfl) (fun _ => rfl) 400 (by
 rintro x p0
 exact risingP_sc x p0)
theorem con_risingP_at (l : List Key) (h0 : l.length ≤ 1000000) (s : St) : con_risingP.rel [inlL Z1o 2 l] s (.bool (tf (risingL l))) s := con_pure l h0 s
theorem risingR_fn : Try.cfg.fn 48 = some Try.f48 := Z0
theorem risingR_sc (l : List Key) (h0 : l.length ≤ 1000000) : SC Try.prog 0 48 [inlL Z1o 2 l] (St.empty 0) fun v s' => v = .bool (tf (risingL l)) ∧ s'.n ≤ 400 := by
 obtain ⟨rc, hS, hC⟩ := rc_con (Z20 Try.cfgOk 300) [con_lessR] Z0;have hC23 := hC con_lessR (.head _);refine sc_ice0 (N := 400) (v2 := .bool (tf (risingL l))) (Q := fun v s' => FS 0 s' v (.bool (tf (risingL l))) ∧ s'.n ≤ 400) ?_ (fun _ _ h => h);refine sc_body Try.cfgOk risingR_fn rfl ?_;refine Z1q ?_;refine kK Try.cfgOk hS ?_;refine Z1q (Z1q ?_);refine kK Try.cfgOk hS ?_;refine Z27 ?_;refine sk_live 41 ((fun a : Nat => [(0, inlL Z1o 2 l), (3, .int .i64 ((a : Nat) : Int))]) 0) Z0 ⟨Z0, Z0, trivial⟩ fun m1 => ?_
 refine sk_st ((fun a : Nat => (St.empty 0)) 0) Z0 ?_;refine (sk_while (k := 0) (N := 400) (live := (fun a : Nat => [(0, inlL Z1o 2 l), (3, .int .i64 ((a : Nat) : Int))])) (M := (fun a : Nat => (St.empty 0))) (fun a : Nat => (a ≤ l.length) ∧ (NoI (fun a : Nat => badK l a) a)) (fun a : Nat => l.length - a) (fun (a : Nat) (o : Out) (lv : List (Nat × Value)) (M : St) => (o = .exit 0 ∧ (¬ a < l.length) ∧ lv = [(0, inlL Z1o 2 l), (3, .int .i64 ((a : Nat) : Int))] ∧ M = (St.empty 0)) ∨ (o = .ret ∧ (a < l.length ∧ (badK l a)) ∧ lv = [(2, .bool false)] ∧ M = (St.empty 0))) (Nat.zero_le _) (fun a ha => ?_) (fun a ha => ?_) (fun a m ha => ?_) (fun a m ha => ?_) 0 m1 ?_).up ?_
 ·exact ⟨Z0, (Z1r 0), (fun i hi => absurd hi (Nat.not_lt_zero i))⟩
 ·exact ⟨sub_clo rfl, sub_clo rfl, trivial⟩
 ·exact ⟨Z0, Z0, trivial⟩
 ·obtain ⟨i, ea⟩ : ∃ z, z = a := ⟨_, rfl⟩;subst ea;obtain ⟨i0, i1⟩ := ha;refine Z1q (Z1q ?_);refine Z1p Try.cfgOk hS ?_;refine aK 2 ?_;refine aM (lenB Try.cfg (St.empty 0) 22 (inlL Z1o 2 l)) (.int .i64 ((l.length : Nat) : Int)) (len_inl tokC Z0) ?_;refine aT (fun h2 => ?_) (fun h2 => ?_)
  ·have c3e : (decide ((((i : Nat) : Int) : Int) < ((l.length : Nat) : Int))) = true := Eq.trans Z0 h2;clear h2;have c3 : (((i : Nat) : Int) : Int) < ((l.length : Nat) : Int) := of_decide_eq_true c3e;clear c3e;refine Z24 ?_;refine kT ?_;refine Z21 (Z1q (Z27 (Z1q ?_)));refine sk_drawL Try.cfgOk hS ?_;refine dK 2 ?_;refine dM (Z23 Try.cfg 22 (inlL Z1o 2 l) (.int .i64 ((i : Nat) : Int))) (elt (flatL Z1o l) (i * 2)) (idx_inlL tokC Z0 Zu) ?_;refine dM (fieldAddrV Try.cfg 30 (elt (flatL Z1o l) (i * 2)) 0) (elt (flatL Z1o l) (i * 2)) (fld_elt (o := i * 2) (off := 0) tokC Z0) ?_;have hx4l : i < l.length := by omega
   refine Exists.elim (get_ex hx4l) fun x4 hx4 => ?_
   clear hx4l;refine dM (loadV Try.cfg (St.empty 0) 3 (elt (flatL Z1o l) (i * 2))) (.int .i64 x4.1) (load_el1 (o := 0) tokC Z0 kcells_len hx4 rfl) ?_;refine dT (fun h5 => ?_) (fun h5 => ?_)
   ·have c6e : (decide ((x4.1 : Int) < 0)) = true := Eq.trans Z0 h5;clear h5;have c6 : (x4.1 : Int) < 0 := of_decide_eq_true c6e;clear c6e;refine dK 25 ?_;refine ald_nil ?_;refine kT ?_;refine Z1q ?_;refine kK Try.cfgOk hS ?_;refine Z1v ?_;refine .inr ⟨_, _, (fun h => Zo), .inr ⟨rfl, ?_, rfl, rfl⟩, ⟨Z0, ⟨Z0, trivial⟩, ⟨sub_clo rfl, trivial⟩, Zle, ⟨Z0, (Z1r 0), (fun i hi => absurd hi (Nat.not_lt_zero i))⟩, Z1w Z0⟩⟩
    ·first | (refine ⟨Z5, ?_⟩; first | (rw [badK_iff2 Z4 Z4]; omega) | (rw [badK_iff Z4]; exact .inl Z5)) | (rw [badK_iff2 Z4 Z4]; omega) | (rw [badK_iff Z4]; rintro (h | ⟨h, _⟩) <;> omega)
   ·have c6e : (decide ((x4.1 : Int) < 0)) = false := Eq.trans Z0 h5;clear h5;have c6 : ¬ (x4.1 : Int) < 0 := of_decide_eq_false c6e;clear c6e;refine dK 3 ?_;refine dM (Z23 Try.cfg 22 (inlL Z1o 2 l) (.int .i64 ((i : Nat) : Int))) (elt (flatL Z1o l) (i * 2)) (idx_inlL tokC Z0 Zu) ?_;refine dM (fieldAddrV Try.cfg 30 (elt (flatL Z1o l) (i * 2)) 0) (elt (flatL Z1o l) (i * 2)) (fld_elt (o := i * 2) (off := 0) tokC Z0) ?_;refine dM (loadV Try.cfg (St.empty 0) 3 (elt (flatL Z1o l) (i * 2))) (.int .i64 x4.1) (load_el1 (o := 0) tokC Z0 kcells_len hx4 rfl) ?_;refine dT (fun h7 => ?_) (fun h7 => ?_)
    ·have c8e : (decide ((x4.1 : Int) > 3)) = true := Eq.trans Z0 h7;clear h7;have c8 : (x4.1 : Int) > 3 := of_decide_eq_true c8e;clear c8e;refine dK 18 ?_;refine ald_nil ?_;refine kT ?_;refine Z1q ?_;refine kK Try.cfgOk hS ?_;refine Z1v ?_;refine .inr ⟨_, _, (fun h => Zo), .inr ⟨rfl, ?_, rfl, rfl⟩, ⟨Z0, ⟨Z0, trivial⟩, ⟨sub_clo rfl, trivial⟩, Zle, ⟨Z0, (Z1r 0), (fun i hi => absurd hi (Nat.not_lt_zero i))⟩, Z1w Z0⟩⟩
     ·first | (refine ⟨Z5, ?_⟩; first | (rw [badK_iff2 Z4 Z4]; omega) | (rw [badK_iff Z4]; exact .inl Z5)) | (rw [badK_iff2 Z4 Z4]; omega) | (rw [badK_iff Z4]; rintro (h | ⟨h, _⟩) <;> omega)
    ·have c8e : (decide ((x4.1 : Int) > 3)) = false := Eq.trans Z0 h7;clear h7;have c8 : ¬ (x4.1 : Int) > 3 := of_decide_eq_false c8e;clear c8e;refine dK 3 ?_;refine dT (fun h9 => ?_) (fun h9 => ?_)
     ·have c10e : (decide ((((i : Nat) : Int) : Int) > 0)) = true := Eq.trans Z0 h9;clear h9;have c10 : (((i : Nat) : Int) : Int) > 0 := of_decide_eq_true c10e;clear c10e;refine dK 3 ?_;refine dE (v := .int .i64 (IntKind.wrap .i64 (((i : Nat) : Int) - 1))) (.int .i64 ((i - 1 : Nat) : Int)) (congrArg (Value.int .i64) (wrap_to Z5 Z5)) ?_;refine dM (Z23 Try.cfg 22 (inlL Z1o 2 l) (.int .i64 ((i - 1 : Nat) : Int))) (elt (flatL Z1o l) ((i - 1) * 2)) (idx_inlL tokC Z0 Zu) ?_;have hx11l : (i - 1) < l.length := by omega
      refine Exists.elim (get_ex hx11l) fun x11 hx11 => ?_
      clear hx11l;refine dM (loadV Try.cfg (St.empty 0) 30 (elt (flatL Z1o l) ((i - 1) * 2))) (.agg #[.int .i64 x11.1, .int .i64 x11.2]) (load_el tokC Z0 kcells_len hx11) ?_;refine dK 2 ?_;refine dM (Z23 Try.cfg 22 (inlL Z1o 2 l) (.int .i64 ((i : Nat) : Int))) (elt (flatL Z1o l) (i * 2)) (idx_inlL tokC Z0 Zu) ?_;refine dM (loadV Try.cfg (St.empty 0) 30 (elt (flatL Z1o l) (i * 2))) (.agg #[.int .i64 x4.1, .int .i64 x4.2]) (load_el tokC Z0 kcells_len hx4) ?_;refine dB 23 [.agg #[.int .i64 x11.1, .int .i64 x11.2], .agg #[.int .i64 x4.1, .int .i64 x4.2]] (decide (x11.1 < x4.1 ∨ x11.1 = x4.1 ∧ x11.2 < x4.2)) _ rfl (hC23 _ _ _ _ (con_lessR_at x11.1 x11.2 x4.1 x4.2  _)) (fun h12 => ?_) (fun h12 => ?_)
      ·have c13 : x11.1 < x4.1 ∨ x11.1 = x4.1 ∧ x11.2 < x4.2 := of_decide_eq_true h12;clear h12;refine dK 3 ?_;refine ald_nil ?_;refine kF ?_;refine Z21 ?_;refine Z1p Try.cfgOk hS ?_;refine aK 1 ?_;refine aE (v := .int .i64 (IntKind.wrap .i64 (((i : Nat) : Int) + 1))) (.int .i64 ((i + 1 : Nat) : Int)) (congrArg (Value.int .i64) (wrap_to Z5 Z5)) ?_;refine aN ?_;refine .inl ⟨i + 1, rfl, ⟨?_, ?_⟩, ?_, ⟨Z0, ⟨Z0, Z0, trivial⟩, ⟨sub_clo rfl, sub_clo rfl, trivial⟩, Zle, ⟨Z0, (Z1r 0), (fun i hi => absurd hi (Nat.not_lt_zero i))⟩, Z1w Z0⟩⟩
       ·(try dsimp only); omega
       ·(try dsimp only); exact NoI.succ (p := (fun i : Nat => badK l i)) Z4 Zh
       ·omega
      ·have c13 : ¬ (x11.1 < x4.1 ∨ x11.1 = x4.1 ∧ x11.2 < x4.2) := of_decide_eq_false h12;clear h12;refine dK 3 ?_;refine ald_nil ?_;refine kT ?_;refine Z1q ?_;refine kK Try.cfgOk hS ?_;refine Z1v ?_;refine .inr ⟨_, _, (fun h => Zo), .inr ⟨rfl, ?_, rfl, rfl⟩, ⟨Z0, ⟨Z0, trivial⟩, ⟨sub_clo rfl, trivial⟩, Zle, ⟨Z0, (Z1r 0), (fun i hi => absurd hi (Nat.not_lt_zero i))⟩, Z1w Z0⟩⟩
       ·first | (refine ⟨Z5, ?_⟩; first | (rw [badK_iff2 Z4 Z4]; omega) | (rw [badK_iff Z4]; exact .inl Z5)) | (rw [badK_iff2 Z4 Z4]; omega) | (rw [badK_iff Z4]; rintro (h | ⟨h, _⟩) <;> omega)
     ·have c10e : (decide ((((i : Nat) : Int) : Int) > 0)) = false := Eq.trans Z0 h9;clear h9;have c10 : ¬ (((i : Nat) : Int) : Int) > 0 := of_decide_eq_false c10e;clear c10e;refine dK 14 ?_;refine ald_nil ?_;refine kF ?_;refine Z21 ?_;refine Z1p Try.cfgOk hS ?_;refine aK 1 ?_;refine aE (v := .int .i64 (IntKind.wrap .i64 (((i : Nat) : Int) + 1))) (.int .i64 ((i + 1 : Nat) : Int)) (congrArg (Value.int .i64) (wrap_to Z5 Z5)) ?_;refine aN ?_;refine .inl ⟨i + 1, rfl, ⟨?_, ?_⟩, ?_, ⟨Z0, ⟨Z0, Z0, trivial⟩, ⟨sub_clo rfl, sub_clo rfl, trivial⟩, Zle, ⟨Z0, (Z1r 0), (fun i hi => absurd hi (Nat.not_lt_zero i))⟩, Z1w Z0⟩⟩
      ·(try dsimp only); omega
      ·(try dsimp only); exact NoI.succ (p := (fun i : Nat => badK l i)) Z4 Zh
      ·omega
  ·have c3e : (decide ((((i : Nat) : Int) : Int) < ((l.length : Nat) : Int))) = false := Eq.trans Z0 h2;clear h2;have c3 : ¬ (((i : Nat) : Int) : Int) < ((l.length : Nat) : Int) := of_decide_eq_false c3e;clear c3e;refine Z24 ?_;refine kF ?_;refine sk_exit ?_;dsimp only;refine .inr ⟨_, _, (fun h => Zo), .inl ⟨rfl, ?_, rfl, rfl⟩, ⟨Z0, ⟨Z0, Z0, trivial⟩, ⟨sub_clo rfl, sub_clo rfl, trivial⟩, Zle, ⟨Z0, (Z1r 0), (fun i hi => absurd hi (Nat.not_lt_zero i))⟩, Z1w Z0⟩⟩
   ·omega
 ·exact ⟨Zi, Z09⟩
 rintro o e1 s1 ⟨a, lv1, M1, m1, ha, (⟨rfl, hx, rfl, rfl⟩ | ⟨rfl, hx, rfl, rfl⟩), rfl, rfl⟩
 ·
  obtain ⟨i, ea⟩ : ∃ z, z = a := ⟨_, rfl⟩;subst ea;obtain ⟨i0, i1⟩ := ha;dsimp only;try rw [if_pos rfl]
  refine Z1q ?_;refine kK Try.cfgOk hS ?_;refine Z1v ?_;exact ⟨[.bool true], Z0, fs_to (fs_clo rfl) (congrArg Value.bool Zx), Zle⟩
 ·
  obtain ⟨i, ea⟩ : ∃ z, z = a := ⟨_, rfl⟩;subst ea;obtain ⟨i0, i1⟩ := ha;dsimp only;exact ⟨[.bool false], Z0, fs_to (fs_clo rfl) (congrArg Value.bool Zx), Zle⟩
noncomputable def con_risingR : Con Try.prog 0 := Con.pure (α := (List Key)) 48 (fun z9 => [inlL Z1o 2 z9]) (fun z9 => .bool (tf (risingL z9))) (fun z9 => (z9.length ≤ 1000000)) (by
 intro x y h
 simp only [injA, kcells_iff] at h
 first | exact h | (simp only [Prod.ext_iff, h, and_self, and_true, true_and]; done) | simp_all [Prod.ext_iff]) (fun _ => rfl) (fun _ => rfl) 400 (by
 rintro x p0
 exact risingR_sc x p0)
theorem con_risingR_at (l : List Key) (h0 : l.length ≤ 1000000) (s : St) : con_risingR.rel [inlL Z1o 2 l] s (.bool (tf (risingL l))) s := con_pure l h0 s
end Go.Proofs.Ytekeepgjegkedaa