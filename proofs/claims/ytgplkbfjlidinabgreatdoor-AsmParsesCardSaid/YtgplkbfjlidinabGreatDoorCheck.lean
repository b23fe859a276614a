/- Faults; the check of a program, with the place of what is wrong. -/
import Derived.Test.YtgplkbfjlidinabGreatDoorGood
import Derived.Test.YtgplkbfjlidinabGreatDoorAiCon
import Derived.Test.YtgplkbfjlidinabGreatDoorKit
set_option linter.unusedVariables false
set_option linter.unusedSimpArgs false
set_option linter.unnecessarySimpa false
set_option maxHeartbeats 4000000
set_option maxRecDepth 100000
namespace Go.Proofs.YtgplkbfjlidinabGreatDoor
open Go.Ai
def Z2r (x : Int × Int) : List Value := [.int .i64 x.1, .iface 34 (.int .i64 x.2)]
theorem fcells_len (x : Int × Int) : (Z2r x).length = 2 := rfl
theorem fcellsP_iff {a b : Int × Int} : (elt (flatL Z2r [a]) 0 = elt (flatL Z2r [b]) 0 ↔ a = b) ∧ (elt (flatL Z2r [a]) (0 * 2) = elt (flatL Z2r [b]) (0 * 2) ↔ a = b) :=
 have q : elt (flatL Z2r [a]) 0 = elt (flatL Z2r [b]) 0 ↔ a = b := ⟨fun h => by have h := elt_inj (sz := 0) h; simp only [Z2r, List.cons.injEq, Value.int.injEq, Value.iface.injEq, true_and, and_true] at h; exact Prod.ext h.1 h.2, fun h => by rw [h]⟩
 ⟨q, q⟩
abbrev badC (l : List Code) (i : Nat) : Prop := ∃ x, l[i]? = some x ∧ ¬ goodC x ((l.length - 1 - i : Nat) : Int)
def rangeP (fu : Int) (co : List Code) : Prop := (1 ≤ fu ∧ fu ≤ 1000) ∧ 1 ≤ ((co.length : Nat) : Int) ∧ ((co.length : Nat) : Int) ≤ 32
def checkP (fu : Int) (co : List Code) : Prop := rangeP fu co ∧ ∀ i, i < co.length → ¬ badC co i
noncomputable def badI (co : List Code) : Nat := ((List.range co.length).find? fun i => tf (badC co i)).getD 0
noncomputable def checkI (fu : Int) (co : List Code) : Int := if tf (rangeP fu co) = true then ((badI co : Nat) : Int) else -1
noncomputable def faultV (a e : Int) : Value := .iface 52 (elt (flatL Z2r [(a, e)]) (0 * 2))
noncomputable def checkV (fu : Int) (co : List Code) : Value := if tf (checkP fu co) = true then .nilIface else faultV (checkI fu co) 5
theorem checkV_clo (fu : Int) (co : List Code) : clo (checkV fu co) = true := by unfold checkV; split <;> rfl
theorem checkV_t {fu : Int} {co : List Code} (h : checkP fu co) : checkV fu co = .nilIface := by rw [checkV, tf_true h, if_pos rfl]
theorem checkV_f {fu : Int} {co : List Code} (h : ¬ checkP fu co) : checkV fu co = faultV (checkI fu co) 5 := by rw [checkV, tf_false h]; rfl
theorem badC_not {co : List Code} {i : Nat} {x : Code} (hx : co[i]? = some x) (h : goodC x ((co.length - 1 - i : Nat) : Int)) : ¬ badC co i := fun ⟨y, h1, h2⟩ => by
 rw [hx] at h1;obtain rfl := Option.some.inj h1;exact h2 h
theorem badI_hit {co : List Code} {i : Nat} (h : NoI (fun i : Nat => badC co i) i) (hi : i < co.length) (hb : badC co i) : badI co = i := by
 unfold badI;rw [List.find?_range_eq_some.2 ⟨tf_true hb, List.mem_range.2 hi, fun j hj => Z22⟩];rfl
theorem check_ne {fu : Int} {co : List Code} : ¬ checkI fu co = -2 := by
 unfold checkI;split <;> omega
theorem check_at {fu : Int} {co : List Code} {i : Nat} (hr : rangeP fu co) (h : NoI (fun i : Nat => badC co i) i) (hi : i < co.length) (hb : badC co i) : faultV ((i : Nat) : Int) 5 = checkV fu co := by
 rw [checkV_f (fun q => q.2 i hi hb), checkI, tf_true hr, if_pos rfl, badI_hit h hi hb]
theorem check_range {fu : Int} {co : List Code} (h : ¬ rangeP fu co) : faultV (-1) 5 = checkV fu co := by
 rw [checkV_f (fun q => h q.1), checkI, tf_false h]; rfl
theorem pfault_fn : Tryz.cfg.fn 32 = some Tryz.f32 := Z3
theorem pfault_sc (at_ : Int)  : SC Tryz.prog 135000004004000 32 [.int .i64 at_] (St.empty 0) fun v s' => v = .iface 52 (elt (flatL Z2r ([(at_, 5)])) (0 * 2)) ∧ s'.n ≤ 400 := by
 have hS := Z2q Tryz.cfgOk 300;refine sc_ice0 (N := 400) (v2 := .iface 52 (elt (flatL Z2r ([(at_, 5)])) (0 * 2))) (Q := fun v s' => FS 0 s' v (.iface 52 (elt (flatL Z2r ([(at_, 5)])) (0 * 2))) ∧ s'.n ≤ 400) ?_ (fun _ _ h => h);refine sc_body Tryz.cfgOk pfault_fn rfl ?_;refine Z28 ?_;refine kK Tryz.cfgOk hS ?_;refine Z28 ?_;refine kK Tryz.cfgOk hS ?_;refine Z2a ?_;exact ⟨[.iface 52 (.pointer (some ⟨0, 0, none⟩))], Z3, .iface (fs_ptr1 (ty := none) (cs := [.int .i64 at_, .iface 34 (.int .i64 5)]) (f := Z2r) (x := (at_, 5)) (sz := 2) Zle Z3 (.cons (.same (sub_clo rfl)) (.cons (.same (.iface (sub_clo rfl))) (.nil))) rfl rfl), Zle⟩
noncomputable def con_pfault : Con Tryz.prog 135000004004000 := Con.pure (α := Int) 32 (fun z9 => [.int .i64 z9]) (fun z9 => .iface 52 (elt (flatL Z2r ([(z9, 5)])) (0 * 2))) (fun z9 => True) (by
 intro x y h
 simp only [injA] at h
 first | exact h | (simp only [Prod.ext_iff, h, and_self, and_true, true_and]; done) | simp_all [Prod.ext_iff]) (fun _ => rfl) (fun _ => rfl) 400 (by
 rintro x _
 exact pfault_sc x )
theorem con_pfault_at (at_ : Int)  (s : St) : con_pfault.rel [.int .i64 at_] s (.iface 52 (elt (flatL Z2r ([(at_, 5)])) (0 * 2))) s := con_pure at_ trivial s
theorem check_fn : Tryz.cfg.fn 15 = some Tryz.f15 := Z3
theorem check_sc (fu : Int) (co : List Code) (h0 : co.length ≤ 1000000) : SC Tryz.prog 135000004004000 15 [.agg #[.int .i64 fu, inlL Z29 6 co]] (St.empty 0) fun v s' => v = checkV fu co ∧ s'.n ≤ 400 := by
 obtain ⟨rc, hS, hC⟩ := rc_con (Z2q Tryz.cfgOk 300) [con_within, con_pgood, con_pfault] Z3;have hC31 := hC con_within (.head _);have hC33 := hC con_pgood (.tail _ (.head _));have hC32 := hC con_pfault (.tail _ (.tail _ (.head _)));refine sc_ice0 (N := 400) (v2 := checkV fu co) (Q := fun v s' => FS 0 s' v (checkV fu co) ∧ s'.n ≤ 400) ?_ (fun _ _ h => h);refine sc_body Tryz.cfgOk check_fn rfl ?_;refine Z28 ?_;refine kK Tryz.cfgOk hS ?_;refine Z28 (Z28 ?_);refine Z27 Tryz.cfgOk hS ?_;refine aK 2 ?_;refine aB 31 [.int .i64 fu, .int .i64 1, .int .i64 1000] (decide (1 ≤ fu ∧ fu ≤ 1000)) _ rfl (hC31 _ _ _ _ (con_within_at fu 1 1000  _)) (fun h1 => ?_) (fun h1 => ?_)
 ·have c2 : 1 ≤ fu ∧ fu ≤ 1000 := of_decide_eq_true h1;clear h1;refine aK 4 ?_;refine aM (lenB Tryz.cfg (St.empty 0) 23 (inlL Z29 6 co)) (.int .i64 ((co.length : Nat) : Int)) (len_inl tokC Z3) ?_;refine aB 31 [.int .i64 ((co.length : Nat) : Int), .int .i64 1, .int .i64 32] (decide (1 ≤ ((co.length : Nat) : Int) ∧ ((co.length : Nat) : Int) ≤ 32)) _ rfl (hC31 _ _ _ _ (con_within_at ((co.length : Nat) : Int) 1 32  _)) (fun h3 => ?_) (fun h3 => ?_)
  ·have c4 : 1 ≤ ((co.length : Nat) : Int) ∧ ((co.length : Nat) : Int) ≤ 32 := of_decide_eq_true h3;clear h3;refine aN ?_;refine kF ?_;refine Z2c (Z28 (Z28 ?_));refine Z27 Tryz.cfgOk hS ?_;refine aK 2 ?_;refine aM (lenB Tryz.cfg (St.empty 0) 23 (inlL Z29 6 co)) (.int .i64 ((co.length : Nat) : Int)) (len_inl tokC Z3) ?_;refine aN ?_;refine Z2s ?_;refine sk_live 37 ((fun a : Nat => [(1, .pointer (some ⟨0, 0, none⟩)), (18, inlL Z29 6 co), (19, .int .i64 ((co.length : Nat) : Int)), (20, .int .i64 ((a : Nat) : Int))]) 0) Z3 ⟨Z3, Z3, Z3, Z3, trivial⟩ fun m5 => ?_
   refine sk_st ((fun a : Nat => ((St.empty 0).new (.cells [.int .i64 fu, inlL Z29 6 co]))) 0) Z3 ?_;refine (sk_while (k := 1) (N := 400) (live := (fun a : Nat => [(1, .pointer (some ⟨0, 0, none⟩)), (18, inlL Z29 6 co), (19, .int .i64 ((co.length : Nat) : Int)), (20, .int .i64 ((a : Nat) : Int))])) (M := (fun a : Nat => ((St.empty 0).new (.cells [.int .i64 fu, inlL Z29 6 co])))) (fun a : Nat => (a ≤ co.length) ∧ (NoI (fun a : Nat => badC co a) a)) (fun a : Nat => co.length - a) (fun (a : Nat) (o : Out) (lv : List (Nat × Value)) (M : St) => (o = .exit 0 ∧ (¬ a < co.length) ∧ lv = [(1, .pointer (some ⟨0, 0, none⟩)), (18, inlL Z29 6 co), (19, .int .i64 ((co.length : Nat) : Int)), (20, .int .i64 ((a : Nat) : Int))] ∧ M = ((St.empty 0).new (.cells [.int .i64 fu, inlL Z29 6 co]))) ∨ (o = .ret ∧ (a < co.length ∧ (badC co a)) ∧ lv = [(2, .iface 52 (elt (flatL Z2r ([(((a : Nat) : Int), 5)])) (0 * 2)))] ∧ M = ((St.empty 0).new (.cells [.int .i64 fu, inlL Z29 6 co])))) (Nat.zero_le _) (fun a ha => ?_) (fun a ha => ?_) (fun a m ha => ?_) (fun a m ha => ?_) 0 m5 ?_).up ?_
   ·exact ⟨Z3, ((Z2d 0).new _), (selfs (all_cons (o := .cells [.int .i64 fu, inlL Z29 6 co]) Z3 (OSub.cells (.cons (sub_clo rfl) (.cons (sub_clo rfl) .nil))) (Z2g)))⟩
   ·exact ⟨.ptr ⟨Zj, rfl⟩, sub_clo rfl, sub_clo rfl, sub_clo rfl, trivial⟩
   ·exact ⟨Z3, Z3, Z3, Z3, trivial⟩
   ·obtain ⟨i, ea⟩ : ∃ z, z = a := ⟨_, rfl⟩;subst ea;obtain ⟨i0, i1⟩ := ha;refine Z28 ?_;refine Z27 Tryz.cfgOk hS ?_;refine aT (fun h6 => ?_) (fun h6 => ?_)
    ·have c7e : (decide ((((i : Nat) : Int) : Int) < ((co.length : Nat) : Int))) = true := Eq.trans Z3 h6;clear h6;have c7 : (((i : Nat) : Int) : Int) < ((co.length : Nat) : Int) := of_decide_eq_true c7e;clear c7e;refine Z2f ?_;refine Z28 ?_;refine kT ?_;refine Z2c (Z28 (Z2s (Z28 ?_)));refine Z27 Tryz.cfgOk hS ?_;refine aK 1 ?_;refine aM (indexAddrV Tryz.cfg 23 (inlL Z29 6 co) (.int .i64 ((i : Nat) : Int))) (elt (flatL Z29 co) (i * 6)) (idx_inlL tokC Z3 Z13) ?_;have hx8l : i < co.length := by omega
     refine Exists.elim (get_ex hx8l) fun x8 hx8 => ?_
     clear hx8l;refine aM (loadV Tryz.cfg (St.empty 0) 40 (elt (flatL Z29 co) (i * 6))) (.agg #[.int .i64 x8.1, .int .i64 x8.2.1, .int .i64 x8.2.2.1, .int .i64 x8.2.2.2.1, .int .i64 x8.2.2.2.2.1, .int .i64 x8.2.2.2.2.2]) (load_el tokC Z3 ccells_len hx8) ?_;refine aN ?_;refine Z28 ?_;refine Z27 Tryz.cfgOk hS ?_;refine aK 3 ?_;refine aM (lenB Tryz.cfg (St.empty 0) 23 (inlL Z29 6 co)) (.int .i64 ((co.length : Nat) : Int)) (len_inl tokC Z3) ?_;refine aE (v := .int .i64 (IntKind.wrap .i64 (((co.length : Nat) : Int) - 1))) (.int .i64 ((co.length - 1 : Nat) : Int)) (congrArg (Value.int .i64) (Z2t Z4 Z4)) ?_;refine aK 1 ?_;refine aE (v := .int .i64 (IntKind.wrap .i64 (((co.length - 1 : Nat) : Int) - ((i : Nat) : Int)))) (.int .i64 ((co.length - 1 - i : Nat) : Int)) (congrArg (Value.int .i64) (Z2t Z4 Z4)) ?_;refine aB 33 [.agg #[.int .i64 x8.1, .int .i64 x8.2.1, .int .i64 x8.2.2.1, .int .i64 x8.2.2.2.1, .int .i64 x8.2.2.2.2.1, .int .i64 x8.2.2.2.2.2], .int .i64 ((co.length - 1 - i : Nat) : Int)] (tf (goodC (x8.1, x8.2.1, x8.2.2.1, x8.2.2.2.1, x8.2.2.2.2.1, x8.2.2.2.2.2) ((co.length - 1 - i : Nat) : Int))) _ rfl (hC33 _ _ _ _ (con_pgood_at x8.1 x8.2.1 x8.2.2.1 x8.2.2.2.1 x8.2.2.2.2.1 x8.2.2.2.2.2 ((co.length - 1 - i : Nat) : Int)  _)) (fun h9 => ?_) (fun h9 => ?_)
     ·have c10 : goodC (x8.1, x8.2.1, x8.2.2.1, x8.2.2.2.1, x8.2.2.2.2.1, x8.2.2.2.2.2) ((co.length - 1 - i : Nat) : Int) := tf_t h9;clear h9;refine aN ?_;refine kF ?_;refine Z2c ?_;refine Z27 Tryz.cfgOk hS ?_;refine aE (v := .int .i64 (IntKind.wrap .i64 (((i : Nat) : Int) + 1))) (.int .i64 ((i + 1 : Nat) : Int)) (congrArg (Value.int .i64) (Z2t Z4 Z4)) ?_;refine aN ?_;refine .inl ⟨i + 1, rfl, ⟨?_, ?_⟩, ?_, ⟨Z3, ⟨Z3, Z3, Z3, Z3, trivial⟩, ⟨.ptr ⟨Zj, rfl⟩, sub_clo rfl, sub_clo rfl, sub_clo rfl, trivial⟩, Zle, ⟨Z3, ((Z2d 0).new _), (selfs (all_cons (o := .cells [.int .i64 fu, inlL Z29 6 co]) Z3 (OSub.cells (.cons (sub_clo rfl) (.cons (sub_clo rfl) .nil))) (Z2g)))⟩, Z2n Z3⟩⟩
      ·(try dsimp only); omega
      ·(try dsimp only); exact NoI.succ (p := (fun i : Nat => badC co i)) Z2 (by first | exact badC_not Z2 Z2 | exact ⟨_, Z2, Z2⟩)
      ·omega
     ·have c10 : ¬ (goodC (x8.1, x8.2.1, x8.2.2.1, x8.2.2.2.1, x8.2.2.2.2.1, x8.2.2.2.2.2) ((co.length - 1 - i : Nat) : Int)) := tf_f h9;clear h9;refine aN ?_;refine kT ?_;refine Z28 ?_;refine Z27 Tryz.cfgOk hS ?_;refine aK 1 ?_;refine aC 32 [.int .i64 ((i : Nat) : Int)] (.iface 52 (elt (flatL Z2r ([(((i : Nat) : Int), 5)])) (0 * 2))) _ rfl (hC32 _ _ _ _ (con_pfault_at ((i : Nat) : Int)  _)) ?_;refine aN ?_;refine Z2a ?_;refine .inr ⟨_, _, (fun h => Z02), .inr ⟨rfl, ?_, rfl, rfl⟩, ⟨Z3, ⟨Z3, trivial⟩, ⟨.iface (sub_clo rfl), trivial⟩, Zle, ⟨Z3, ((Z2d 0).new _), (selfs (all_cons (o := .cells [.int .i64 fu, inlL Z29 6 co]) Z3 (OSub.cells (.cons (sub_clo rfl) (.cons (sub_clo rfl) .nil))) (Z2g)))⟩, Z2n Z3⟩⟩
      ·exact ⟨Z4, _, Z2, Z2⟩
    ·have c7e : (decide ((((i : Nat) : Int) : Int) < ((co.length : Nat) : Int))) = false := Eq.trans Z3 h6;clear h6;have c7 : ¬ (((i : Nat) : Int) : Int) < ((co.length : Nat) : Int) := of_decide_eq_false c7e;clear c7e;refine Z2f ?_;refine Z28 ?_;refine kF ?_;refine sk_exit ?_;dsimp only;refine .inr ⟨_, _, (fun h => Z02), .inl ⟨rfl, ?_, rfl, rfl⟩, ⟨Z3, ⟨Z3, Z3, Z3, Z3, trivial⟩, ⟨.ptr ⟨Zj, rfl⟩, sub_clo rfl, sub_clo rfl, sub_clo rfl, trivial⟩, Zle, ⟨Z3, ((Z2d 0).new _), (selfs (all_cons (o := .cells [.int .i64 fu, inlL Z29 6 co]) Z3 (OSub.cells (.cons (sub_clo rfl) (.cons (sub_clo rfl) .nil))) (Z2g)))⟩, Z2n Z3⟩⟩
     ·omega
   ·exact ⟨Zx, Z0n⟩
   rintro o e1 s1 ⟨a, lv1, M1, m5, ha, (⟨rfl, hx, rfl, rfl⟩ | ⟨rfl, hx, rfl, rfl⟩), rfl, rfl⟩
   ·
    obtain ⟨i, ea⟩ : ∃ z, z = a := ⟨_, rfl⟩;subst ea;obtain ⟨i0, i1⟩ := ha;dsimp only;try rw [if_pos rfl]
    refine Z28 ?_;refine kK Tryz.cfgOk hS ?_;refine Z2a ?_;exact ⟨[.nilIface], Z3, fs_to (.same (sub_clo rfl)) (show (.nilIface : Value) = checkV fu co by first | exact (checkV_t ⟨⟨Z2, Z2⟩, fun i h => NoI.none Z2 hx ⟨i, h, ·⟩⟩).symm | exact (checkV_t ⟨⟨Z2, Z2⟩, fun i h q => NoI.none Z2 hx ⟨i, h, q⟩⟩).symm | exact check_at ⟨Z2, Z2⟩ Z2 hx.1 hx.2 | exact check_range (fun q => absurd q.1 Z2) | exact check_range (fun q => absurd q.2 Z2)), Zle⟩
   ·
    obtain ⟨i, ea⟩ : ∃ z, z = a := ⟨_, rfl⟩;subst ea;obtain ⟨i0, i1⟩ := ha;dsimp only;exact ⟨[.iface 52 (elt (flatL Z2r ([(((i : Nat) : Int), 5)])) (0 * 2))], Z3, fs_to (.same (.iface (sub_clo rfl))) (show (.iface 52 (elt (flatL Z2r ([(((i : Nat) : Int), 5)])) (0 * 2)) : Value) = checkV fu co by first | exact (checkV_t ⟨⟨Z2, Z2⟩, fun i h => NoI.none Z2 hx ⟨i, h, ·⟩⟩).symm | exact (checkV_t ⟨⟨Z2, Z2⟩, fun i h q => NoI.none Z2 hx ⟨i, h, q⟩⟩).symm | exact check_at ⟨Z2, Z2⟩ Z2 hx.1 hx.2 | exact check_range (fun q => absurd q.1 Z2) | exact check_range (fun q => absurd q.2 Z2)), Zle⟩
  ·have c4 : ¬ (1 ≤ ((co.length : Nat) : Int) ∧ ((co.length : Nat) : Int) ≤ 32) := of_decide_eq_false h3;clear h3;refine aN ?_;refine kT ?_;refine Z28 ?_;refine Z27 Tryz.cfgOk hS ?_;refine aC 32 [.int .i64 (-1)] (.iface 52 (elt (flatL Z2r ([((-1), 5)])) (0 * 2))) _ rfl (hC32 _ _ _ _ (con_pfault_at (-1)  _)) ?_;refine aN ?_;refine Z2a ?_;exact ⟨[.iface 52 (elt (flatL Z2r ([((-1), 5)])) (0 * 2))], Z3, fs_to (.same (.iface (sub_clo rfl))) (show (.iface 52 (elt (flatL Z2r ([((-1), 5)])) (0 * 2)) : Value) = checkV fu co by first | exact (checkV_t ⟨⟨Z2, Z2⟩, fun i h => NoI.none Z2 hx ⟨i, h, ·⟩⟩).symm | exact (checkV_t ⟨⟨Z2, Z2⟩, fun i h q => NoI.none Z2 hx ⟨i, h, q⟩⟩).symm | exact check_at ⟨Z2, Z2⟩ Z2 hx.1 hx.2 | exact check_range (fun q => absurd q.1 Z2) | exact check_range (fun q => absurd q.2 Z2)), Zle⟩
 ·have c2 : ¬ (1 ≤ fu ∧ fu ≤ 1000) := of_decide_eq_false h1;clear h1;refine aN ?_;refine kT ?_;refine Z28 ?_;refine Z27 Tryz.cfgOk hS ?_;refine aC 32 [.int .i64 (-1)] (.iface 52 (elt (flatL Z2r ([((-1), 5)])) (0 * 2))) _ rfl (hC32 _ _ _ _ (con_pfault_at (-1)  _)) ?_;refine aN ?_;refine Z2a ?_;exact ⟨[.iface 52 (elt (flatL Z2r ([((-1), 5)])) (0 * 2))], Z3, fs_to (.same (.iface (sub_clo rfl))) (show (.iface 52 (elt (flatL Z2r ([((-1), 5)])) (0 * 2)) : Value) = checkV fu co by first | exact (checkV_t ⟨⟨Z2, Z2⟩, fun i h => NoI.none Z2 hx ⟨i, h, ·⟩⟩).symm | exact (checkV_t ⟨⟨Z2, Z2⟩, fun i h q => NoI.none Z2 hx ⟨i, h, q⟩⟩).symm | exact check_at ⟨Z2, Z2⟩ Z2 hx.1 hx.2 | exact check_range (fun q => absurd q.1 Z2) | exact check_range (fun q => absurd q.2 Z2)), Zle⟩
noncomputable def con_check : Con Tryz.prog 135000004004000 := Con.pure (α := Int × (List Code)) 15 (fun z9 => [.agg #[.int .i64 z9.1, inlL Z29 6 z9.2]]) (fun z9 => checkV z9.1 z9.2) (fun z9 => (z9.2.length ≤ 1000000)) (by
 rintro ⟨a0, a1⟩ ⟨b0, b1⟩ h
 simp only [injA, ccells_iff] at h
 first | exact h | (simp only [Prod.ext_iff, h, and_self, and_true, true_and]; done) | simp_all [Prod.ext_iff]) (fun _ => rfl) (fun z9 => checkV_clo z9.1 z9.2) 400 (by
 rintro ⟨a0, a1⟩ p0
 exact check_sc a0 a1 p0)
theorem con_check_at (fu : Int) (co : List Code) (h0 : co.length ≤ 1000000) (s : St) : con_check.rel [.agg #[.int .i64 fu, inlL Z29 6 co]] s (checkV fu co) s := con_pure (fu, co) h0 s
end Go.Proofs.YtgplkbfjlidinabGreatDoor