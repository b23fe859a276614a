/- The line of an instruction. -/
import Derived.Test.YtgplkbfjlidinabGreatDoorWord
import Derived.Test.YtgplkbfjlidinabGreatDoorAiHit
import Derived.Test.YtgplkbfjlidinabGreatDoorKit
set_option linter.unusedVariables false
set_option linter.unusedSimpArgs false
set_option linter.unnecessarySimpa false
set_option maxHeartbeats 4000000
set_option maxRecDepth 100000
namespace Go.Proofs.YtgplkbfjlidinabGreatDoor
open Go.Ai
theorem word_t {op : Int} (h : 0 ≤ op ∧ op < 16) : (.tuple #[.string (bstr (wordB op)), .bool (decide (0 ≤ op ∧ op < 16))] : Value) = .tuple #[.string (bstr (wordB op)), .bool true] := by rw [decide_eq_true h]
theorem row_succ {c : Code} {o : List (List UInt8)} {i : Nat} {x : UInt8} (hx : (shp c.1)[i]? = some x) (ho : o = wordB c.1 :: ((shp c.1).take i).map fun x => wordP x (fld x c)) : o ++ [wordP x (fld x c)] = wordB c.1 :: ((shp c.1).take (i + 1)).map fun x => wordP x (fld x c) := by
 rw [ho, List.take_add_one, hx];simp
theorem join_tail (c : Code) (l : List UInt8) : Lib.joinTail [32] (l.map fun x => wordP x (fld x c)) = tailB l c := by
 unfold Lib.joinTail tailB;rw [List.map_map];rfl
theorem join_line {c : Code} {o : List (List UInt8)} {i : Nat} (ho : o = wordB c.1 :: ((shp c.1).take i).map fun x => wordP x (fld x c)) (h : ¬ i < (shp c.1).length) : Lib.join o [32] = lineR c := by
 rw [ho, List.take_of_length_le Z4, Lib.join_cons, join_tail];rfl
theorem lineR_len {c : Code} (h : inC c) : (lineR c).length ≤ 200 := line_len (i := (shp c.1).length) h (by rw [List.take_of_length_le Z4]; rfl)
theorem ajoin_sc (l : List (List UInt8)) (h0 : l.length ≤ 1000) (h1 : (Lib.join l [32]).length ≤ 140737488355328) : SC Tryz.prog 135000004004000 45 [slL 0 1 l.length, .string (bstr [32])] ((St.empty 0).new (rowL Z2h l)) fun v s' => v = .string (bstr (Lib.join l [32])) ∧ s'.n ≤ 400 ∧ ∀ a, a < 1 → s'.get a = some (objL [rowL Z2h l] a) := by
 refine (join_sc join_lays join_extra (f := 45) rfl l [32] Z4 h1).up fun v s' h => ?_
 obtain ⟨rfl, rfl⟩ := h;exact ⟨rfl, Zle, all1 Z3⟩
noncomputable def sm_ajoin : Small Tryz.prog 135000004004000 45 ((List (List UInt8))) where
 k := 1
 A := fun z9 ρ => [slL (ρ 0) 1 z9.length, .string (bstr [32])]
 M := fun z9 ρ => objL [rowL Z2h z9]
 M1 := fun z9 ρ => objL [rowL Z2h z9]
 V := fun z9 ρ => .string (bstr (Lib.join z9 [32]))
 Pre := fun z9 => (z9.length ≤ 1000) ∧ ((Lib.join z9 [32]).length ≤ 140737488355328)
 ch := []
 N := 400
 s0 := fun z9 => ((St.empty 0).new (rowL Z2h z9))
 hch := by decide
 hsame := fun x ρ => all1 (fun _ => rfl)
 hG := rfl
 hn := fun x => rfl
 hwf := fun x => ((Z2d 0).new _)
 hget := fun x => all1 (by kernel_rfl)
 noloop := fun x ρ => all1 (fun h => h.elim)
 inA := fun x ρ R hR => .cons (.slice (hR 0 _ (by decide))) (.cons (sub_clo rfl) .nil)
 inM := fun x ρ R hR => all1 (OSub.arr (subs_clo (Z2o tcells_clo)))
 outM := fun x ρ R hR => all1 (OSub.arr (subs_clo (Z2o tcells_clo)))
 outV := fun x ρ R hR => sub_clo rfl
 dom := by
  intro x ρ a ha
  cases ha
 sc := by
  rintro x ⟨p0, p1⟩
  exact ajoin_sc x p0 p1
 det := by
  rintro x ρ y σ s h hm hm'
  simp only [injA, injB, tcells_row] at h
  have q0 : ρ 0 = σ 0 := by simp_all
  have e0 := (hm 0 (by decide)).symm.trans ((congrArg s.get q0).trans (hm' 0 (by decide)))
  simp only [objL, List.getD_cons_zero, List.getD_cons_succ, injA, injB, tcells_row] at e0
  have q : ∀ a, a < 1 → ρ a = σ a := all1 q0
  clear hm hm'
  exact ⟨by first | rfl | (simp_all [Prod.ext_iff]; done) | exact e0, q⟩
 par := by
  intro x ρ σ h
  have h0 := h 0 (by decide)
  exact ⟨by first | rfl | simp only [h0], by first | exact fun _ _ => rfl | (intro a ha; simp only [h0])⟩
noncomputable def con_ajoin : Con Tryz.prog 135000004004000 := sm_ajoin.con
theorem con_ajoin_at (l : List (List UInt8)) (i0 : Nat) (h0 : l.length ≤ 1000) (h1 : (Lib.join l [32]).length ≤ 140737488355328) (s : St) (hn : nodupB [i0] = true) (m0 : s.get i0 = some (rowL Z2h l)) : con_ajoin.rel [slL i0 1 l.length, .string (bstr [32])] s (.string (bstr (Lib.join l [32]))) s :=
 sm_ajoin.at_ l [i0] s _ ⟨h0, h1⟩ rfl hn rfl (all1 m0) rfl rfl
theorem lineGood_fn : Tryz.cfg.fn 22 = some Tryz.f22 := Z3
theorem lineGood_sc (op : Int) (qa : Int) (qb : Int) (qc : Int) (qt : Int) (qn : Int) (h0 : inC (op, qa, qb, qc, qt, qn)) (h1 : 0 ≤ op ∧ op < 16) : SC Tryz.prog 135000004004000 22 [.agg #[.int .i64 op, .int .i64 qa, .int .i64 qb, .int .i64 qc, .int .i64 qt, .int .i64 qn]] (St.empty 0) fun v s' => v = .tuple #[.string (bstr (lineR (op, qa, qb, qc, qt, qn))), .nilIface] ∧ s'.n ≤ 400 := by
 obtain ⟨rc, hS, hC⟩ := rc_con (Z2q Tryz.cfgOk 300) [con_aword, con_shape, con_word, con_ajoin] Z3;have hC43 := hC con_aword (.head _);have hC28 := hC con_shape (.tail _ (.head _));have hC44 := hC con_word (.tail _ (.tail _ (.head _)));have hC45 := hC con_ajoin (.tail _ (.tail _ (.tail _ (.head _))));refine sc_ice0 (N := 400) (v2 := .tuple #[.string (bstr (lineR (op, qa, qb, qc, qt, qn))), .nilIface]) (Q := fun v s' => FS 0 s' v (.tuple #[.string (bstr (lineR (op, qa, qb, qc, qt, qn))), .nilIface]) ∧ s'.n ≤ 400) ?_ (fun _ _ h => h);refine sc_body Tryz.cfgOk lineGood_fn rfl ?_;refine Z28 ?_;refine kK Tryz.cfgOk hS ?_;refine Z28 ?_;refine Z27 Tryz.cfgOk hS ?_;refine aK 2 ?_;by_cases q1 : 0 ≤ op ∧ op < 16
 ·
  refine aC 43 [.int .i64 op] (.tuple #[.string (bstr (wordB op)), .bool true]) _ rfl (rc_eq (hC43 _ _ _ _ (con_aword_at op  _)) (word_t q1)) ?_;refine aN ?_;refine Z28 ?_;refine Z27 Tryz.cfgOk hS ?_;refine aK 2 ?_;refine aC 28 [.int .i64 op] (.tuple #[.string (bstr (shp op)), .bool (decide (0 ≤ op ∧ op ≤ 15))]) _ rfl (hC28 _ _ _ _ (con_shape_at op  _)) ?_;refine aN ?_;refine Z28 (Z28 ?_);refine kK Tryz.cfgOk hS ?_;refine kF ?_;refine Z2c (Z28 ?_);refine kK Tryz.cfgOk hS ?_;refine Z28 (Z28 ?_);refine kK Tryz.cfgOk hS ?_;refine Z2s ?_;refine sk_live 44 ((fun a : Nat × (List (List UInt8)) => [(1, .pointer (some ⟨0, 0, none⟩)), (6, .string (bstr (shp op))), (8, slL 1 1 a.2.length), (29, .int .i64 (((shp op).length : Nat) : Int)), (30, .int .i64 ((a.1 : Nat) : Int))]) (0, [wordB op])) Z3 ⟨Z3, Z3, Z3, Z3, Z3, trivial⟩ fun m2 => ?_
  refine sk_st ((fun a : Nat × (List (List UInt8)) => (((St.empty 0).new (.cells [.int .i64 op, .int .i64 qa, .int .i64 qb, .int .i64 qc, .int .i64 qt, .int .i64 qn])).new (rowL Z2h a.2))) (0, [wordB op])) Z3 ?_;refine (sk_while (k := 2) (N := 400) (live := (fun a : Nat × (List (List UInt8)) => [(1, .pointer (some ⟨0, 0, none⟩)), (6, .string (bstr (shp op))), (8, slL 1 1 a.2.length), (29, .int .i64 (((shp op).length : Nat) : Int)), (30, .int .i64 ((a.1 : Nat) : Int))])) (M := (fun a : Nat × (List (List UInt8)) => (((St.empty 0).new (.cells [.int .i64 op, .int .i64 qa, .int .i64 qb, .int .i64 qc, .int .i64 qt, .int .i64 qn])).new (rowL Z2h a.2)))) (fun a : Nat × (List (List UInt8)) => (a.1 ≤ (shp op).length) ∧ (a.2 = wordB op :: ((shp op).take a.1).map fun x => wordP x (fld x (op, qa, qb, qc, qt, qn))) ∧ ((shp op).length ≤ 5) ∧ (a.2.length = a.1 + 1)) (fun a : Nat × (List (List UInt8)) => (shp op).length - a.1) (fun (a : Nat × (List (List UInt8))) (o : Out) (lv : List (Nat × Value)) (M : St) => (o = .exit 0 ∧ (¬ a.1 < (shp op).length) ∧ lv = [(1, .pointer (some ⟨0, 0, none⟩)), (6, .string (bstr (shp op))), (8, slL 1 1 a.2.length), (29, .int .i64 (((shp op).length : Nat) : Int)), (30, .int .i64 ((a.1 : Nat) : Int))] ∧ M = (((St.empty 0).new (.cells [.int .i64 op, .int .i64 qa, .int .i64 qb, .int .i64 qc, .int .i64 qt, .int .i64 qn])).new (rowL Z2h a.2)))) (Nat.zero_le _) (fun a ha => ?_) (fun a ha => ?_) (fun a m ha => ?_) (fun a m ha => ?_) (0, [wordB op]) m2 ?_).up ?_
  ·exact ⟨Z3, (((Z2d 0).new _).new _), (selfs (all_cons (o := .cells [.int .i64 op, .int .i64 qa, .int .i64 qb, .int .i64 qc, .int .i64 qt, .int .i64 qn]) Z3 (OSub.cells (.cons (sub_clo rfl) (.cons (sub_clo rfl) (.cons (sub_clo rfl) (.cons (sub_clo rfl) (.cons (sub_clo rfl) (.cons (sub_clo rfl) .nil))))))) (all_cons (o := rowL Z2h a.2) Z3 (OSub.arr (subs_clo (Z2o tcells_clo))) (Z2g))))⟩
  ·exact ⟨.ptr ⟨Zj, rfl⟩, sub_clo rfl, .slice ⟨Zj, rfl⟩, sub_clo rfl, sub_clo rfl, trivial⟩
  ·exact ⟨Z3, Z3, Z3, Z3, Z3, trivial⟩
  ·obtain ⟨i, o⟩ := a;obtain ⟨i0, i1, i2, i3⟩ := ha;dsimp only at i0 i1 i2 i3;refine Z28 ?_;refine Z27 Tryz.cfgOk hS ?_;refine aT (fun h3 => ?_) (fun h3 => ?_)
   ·have c4e : (decide ((((i : Nat) : Int) : Int) < (((shp op).length : Nat) : Int))) = true := Eq.trans Z3 h3;clear h3;have c4 : (((i : Nat) : Int) : Int) < (((shp op).length : Nat) : Int) := of_decide_eq_true c4e;clear c4e;refine Z2f ?_;refine Z28 ?_;refine kT ?_;refine Z2c (Z28 (Z2s (Z28 ?_)));refine kK Tryz.cfgOk hS ?_;have hx5l : i < (shp op).length := by omega
    refine Exists.elim (get_ex hx5l) fun x5 hx5 => ?_
    clear hx5l;refine sk_drawL Tryz.cfgOk hS ?_;refine dK 4 ?_;refine dM (indexV Tryz.cfg 9 (.string (bstr (shp op))) (.int .i64 ((i : Nat) : Int))) (.int .u8 ((x5.toNat : Nat) : Int)) (Z2k Z3 hx5) ?_;refine dC 44 [.agg #[.int .i64 op, .int .i64 qa, .int .i64 qb, .int .i64 qc, .int .i64 qt, .int .i64 qn], .int .u8 ((x5.toNat : Nat) : Int)] (.string (bstr (wordP x5 (fld x5 (op, qa, qb, qc, qt, qn))))) _ rfl (hC44 _ _ _ _ (con_word_at x5 op qa qb qc qt qn Z0f _)) ?_;refine dK 1 ?_;refine ald_opF (v := slL 1 1 (o ++ [wordP x5 (fld x5 (op, qa, qb, qc, qt, qn))]).length) (s1 := ((((St.empty 0).new (.cells [.int .i64 op, .int .i64 qa, .int .i64 qb, .int .i64 qc, .int .i64 qt, .int .i64 qn])).new (rowL Z2h o)).new (.arr [.string (bstr (wordP x5 (fld x5 (op, qa, qb, qc, qt, qn))))] 0 false)).set 1 (rowL Z2h (o ++ [wordP x5 (fld x5 (op, qa, qb, qc, qt, qn))]))) Z3 Z3 (Eq.trans (b := appendV Tryz.cfg ((((St.empty 0).new (.cells [.int .i64 op, .int .i64 qa, .int .i64 qb, .int .i64 qc, .int .i64 qt, .int .i64 qn])).new (rowL Z2h o)).new (.arr [.string (bstr (wordP x5 (fld x5 (op, qa, qb, qc, qt, qn))))] 0 false)) 41 (slL 1 1 o.length) (.slice (some ⟨2, 0, some 1⟩) 1 1)) Z3 (app_rowL (l := o) (l2 := [wordP x5 (fld x5 (op, qa, qb, qc, qt, qn))]) (bytes := 16) tokC Z3 tcells_len tcells_one Z3 Z3 Z3 (by (try simp only [List.length_cons, List.length_nil, List.length_append]); omega))) Z3 ?_;refine dK 1 ?_;refine ald_nil ?_;refine Z27 Tryz.cfgOk hS ?_;refine aE (v := .int .i64 (IntKind.wrap .i64 (((i : Nat) : Int) + 1))) (.int .i64 ((i + 1 : Nat) : Int)) (congrArg (Value.int .i64) (Z2t Z4 Z4)) ?_;refine aN ?_;refine .inl ⟨(i + 1, (o ++ [wordP x5 (fld x5 (op, qa, qb, qc, qt, qn))])), rfl, ⟨?_, ?_, ?_, ?_⟩, ?_, ⟨Z3, ⟨Z3, Z3, Z3, Z3, Z3, trivial⟩, ⟨.ptr ⟨Zj, rfl⟩, sub_clo rfl, .slice ⟨Zj, rfl⟩, sub_clo rfl, sub_clo rfl, trivial⟩, Zle, ⟨Z3, (((Z2d 0).new _).new _), (selfs (all_cons (o := .cells [.int .i64 op, .int .i64 qa, .int .i64 qb, .int .i64 qc, .int .i64 qt, .int .i64 qn]) Z3 (OSub.cells (.cons (sub_clo rfl) (.cons (sub_clo rfl) (.cons (sub_clo rfl) (.cons (sub_clo rfl) (.cons (sub_clo rfl) (.cons (sub_clo rfl) .nil))))))) (all_cons (o := rowL Z2h (o ++ [wordP x5 (fld x5 (op, qa, qb, qc, qt, qn))])) Z3 (OSub.arr (subs_clo (Z2o tcells_clo))) (Z2g))))⟩, Z2n Z3⟩⟩
    ·(try dsimp only); omega
    ·(try dsimp only); exact row_succ (c := (op, qa, qb, qc, qt, qn)) Z2 i1
    ·(try dsimp only); assumption
    ·(try dsimp only); simp only [List.length_append, List.length_cons, List.length_nil]; omega
    ·omega
   ·have c4e : (decide ((((i : Nat) : Int) : Int) < (((shp op).length : Nat) : Int))) = false := Eq.trans Z3 h3;clear h3;have c4 : ¬ (((i : Nat) : Int) : Int) < (((shp op).length : Nat) : Int) := of_decide_eq_false c4e;clear c4e;refine Z2f ?_;refine Z28 ?_;refine kF ?_;refine sk_exit ?_;dsimp only;refine .inr ⟨_, _, (fun h => Z02), ⟨rfl, ?_, rfl, rfl⟩, ⟨Z3, ⟨Z3, Z3, Z3, Z3, Z3, trivial⟩, ⟨.ptr ⟨Zj, rfl⟩, sub_clo rfl, .slice ⟨Zj, rfl⟩, sub_clo rfl, sub_clo rfl, trivial⟩, Zle, ⟨Z3, (((Z2d 0).new _).new _), (selfs (all_cons (o := .cells [.int .i64 op, .int .i64 qa, .int .i64 qb, .int .i64 qc, .int .i64 qt, .int .i64 qn]) Z3 (OSub.cells (.cons (sub_clo rfl) (.cons (sub_clo rfl) (.cons (sub_clo rfl) (.cons (sub_clo rfl) (.cons (sub_clo rfl) (.cons (sub_clo rfl) .nil))))))) (all_cons (o := rowL Z2h o) Z3 (OSub.arr (subs_clo (Z2o tcells_clo))) (Z2g))))⟩, Z2n Z3⟩⟩
    ·omega
  ·exact ⟨Zx, by ((try dsimp only); first | done | (simp)), Z16, Z04⟩
  rintro o e1 s1 ⟨a, lv1, M1, m2, ha, ⟨rfl, hx, rfl, rfl⟩, rfl, rfl⟩;obtain ⟨i, o⟩ := a;obtain ⟨i0, i1, i2, i3⟩ := ha;dsimp only at hx i0 i1 i2 i3;dsimp only;try rw [if_pos rfl]
  refine Z28 ?_;refine Z27 Tryz.cfgOk hS ?_;refine aK 1 ?_;refine aC 45 [slL 1 1 o.length, .string (bstr [32])] (.string (bstr (Lib.join o [32]))) _ rfl (hC45 _ _ _ _ (con_ajoin_at o 1 Z0f Z0f _ Z3 Z3 )) ?_;refine aN ?_;refine Z2a ?_;exact ⟨[.string (bstr (Lib.join o [32])), .nilIface], Z3, .tuple (.cons (fs_to (Z2b rfl) (congrArg Value.string (by exact congrArg bstr (join_line (c := (op, qa, qb, qc, qt, qn)) i1 hx)))) (.cons (.same (sub_clo rfl)) (.nil))), Zle⟩
 ·
  exact absurd q1 Z4
end Go.Proofs.YtgplkbfjlidinabGreatDoor