/- Instructions are read. -/
import Derived.Test.YtegigohhnplomaaReads
import Derived.Test.YtegigohhnplomaaRead
import Derived.Test.YtegigohhnplomaaProgEnc
import Derived.Test.YtegigohhnplomaaKit
set_option linter.unusedVariables false
set_option linter.unusedSimpArgs false
set_option linter.unnecessarySimpa false
set_option maxHeartbeats 4000000
set_option maxRecDepth 100000
namespace Go.Proofs.Ytegigohhnplomaa
open Go.Ai
def setf (x : UInt8) (v : Int) (c : Code) : Code := if x.toNat = 97 ∨ x.toNat = 115 then (c.1, v, c.2.2) else if x.toNat = 98 then (c.1, c.2.1, v, c.2.2.2) else if x.toNat = 99 then (c.1, c.2.1, c.2.2.1, v, c.2.2.2.2) else if x.toNat = 116 then (c.1, c.2.1, c.2.2.1, c.2.2.2.1, v, c.2.2.2.2.2) else (c.1, c.2.1, c.2.2.1, c.2.2.2.1, c.2.2.2.2.1, v)
theorem setf_at (x : UInt8) (v : Int) (c : Code) : splice (Z1w c) (offL x) [.int .i64 v] = Z1w (setf x v c) := by unfold offL setf; (repeat' split) <;> rfl
def setN (v : Int) (c : Code) : Code := (c.1, c.2.1, c.2.2.1, c.2.2.2.1, c.2.2.2.2.1, v)
theorem setf_n {x : UInt8} {v : Int} {c : Code} (h : x.toNat = 110) : setf x v c = setN v c := by unfold setf; rw [if_neg Z5, if_neg Z5, if_neg Z5, if_neg Z5]; rfl
theorem setf_in {x : UInt8} {v : Int} {c : Code} (h : inC c) (hv : in64 v) : inC (setf x v c) := by
 unfold setf
 (repeat' split) <;> exact ⟨h.1, by first | exact hv | exact h.2.1, by first | exact hv | exact h.2.2.1, by first | exact hv | exact h.2.2.2.1, by first | exact hv | exact h.2.2.2.2.1, by first | exact hv | exact h.2.2.2.2.2⟩
noncomputable def rdF (x : UInt8) (q : Code × List UInt8 × Bool) : Code × List UInt8 × Bool := (setf x (if x.toNat = 110 then unf (rdV q.2.1 q.2.2) else ((rdV q.2.1 q.2.2 % 4611686018427387904 : Nat) : Int)) q.1, rdR q.2.1 q.2.2, rdB q.2.1 q.2.2)
noncomputable def codeR (l : List UInt8) (q : Code × List UInt8 × Bool) : Code × List UInt8 × Bool := l.foldl (fun q x => rdF x q) q
theorem codeR_succ {l : List UInt8} {i : Nat} {x : UInt8} {q : Code × List UInt8 × Bool} (h : l[i]? = some x) : codeR (l.take (i + 1)) q = rdF x (codeR (l.take i) q) := by
 rw [List.take_add_one, h];simp [codeR]
theorem rdF_n {x : UInt8} {c : Code} {b : List UInt8} {bad : Bool} (h : ((x.toNat : Nat) : Int) = 110) : rdF x (c, b, bad) = (setN (unf (rdV b bad)) c, rdR b bad, rdB b bad) := by
 have h : x.toNat = 110 := Z5
 unfold rdF;rw [if_pos h, setf_n h]
theorem rdF_c {x : UInt8} {c : Code} {b : List UInt8} {bad : Bool} (h : ¬ ((x.toNat : Nat) : Int) = 110) : rdF x (c, b, bad) = (setf x ((rdV b bad % 4611686018427387904 : Nat) : Int) c, rdR b bad, rdB b bad) := by
 have h : ¬ x.toNat = 110 := Z5
 unfold rdF;rw [if_neg h]
noncomputable def rcode (b : List UInt8) (bad : Bool) : Code × List UInt8 × Bool := codeR (shp (((byV b bad).toNat : Nat) : Int)) (((((byV b bad).toNat : Nat) : Int), 0, 0, 0, 0, 0), tkR b bad, tkB b bad)
theorem small_in (n : Nat) : in64 ((n % 4611686018427387904 : Nat) : Int) := by unfold in64; omega
theorem codeR_all : ∀ (l : List UInt8) (q : Code × List UInt8 × Bool), inC q.1 → RdI q.2.1 q.2.2 → inC (codeR l q).1 ∧ (codeR l q).2.1.length ≤ q.2.1.length ∧ RdI (codeR l q).2.1 (codeR l q).2.2
  | [], q, h1, h2 => ⟨h1, Nat.le_refl _, h2⟩
  | x :: l, q, h1, h2 => by
    have h3 : inC (rdF x q).1 := setf_in h1 (by split; exact unf_in _ (rdV_lt _ _); exact small_in _);obtain ⟨r1, r2, r3⟩ := codeR_all l (rdF x q) h3 (rdI_step h2);exact ⟨r1, Nat.le_trans r2 (rdR_le _ _), r3⟩
theorem tkI' {b : List UInt8} {bad : Bool} (h : RdI b bad) : RdI (tkR b bad) (tkB b bad) := tkI h
theorem rcode_all {b : List UInt8} {bad : Bool} (h : RdI b bad) : inC (rcode b bad).1 ∧ (rcode b bad).2.1.length ≤ (tkR b bad).length ∧ RdI (rcode b bad).2.1 (rcode b bad).2.2 :=
 codeR_all _ _ (by have := (byV b bad).toNat_lt; refine ⟨?_, ?_, ?_, ?_, ?_, ?_⟩ <;> (unfold in64; simp only; omega)) (tkI' h)
theorem tkR_lt {b : List UInt8} {bad : Bool} (h : RdI b bad) (hb : ¬ b = []) : (tkR b bad).length < b.length := by
 cases hbad : bad
 ·unfold tkR;have := List.length_pos_iff.2 hb;simp only [Bool.false_eq_true, if_false, List.length_drop];omega
 ·exact absurd (h hbad) hb
theorem rdcode_fn : Try.cfg.fn 70 = some Try.f70 := Z1
theorem rdcode_sc (b : List UInt8) (bad : Bool) (h0 : b.length ≤ 1000000000) (h1 : RdI b bad) : SC Try.prog 0 70 [.pointer (some ⟨0, 0, none⟩)] ((St.empty 0).new (.cells [inlL Z1s 1 b, .bool bad])) fun v s' => v = .agg #[.int .i64 (((rcode b bad).1).1), .int .i64 (((rcode b bad).1).2.1), .int .i64 (((rcode b bad).1).2.2.1), .int .i64 (((rcode b bad).1).2.2.2.1), .int .i64 (((rcode b bad).1).2.2.2.2.1), .int .i64 (((rcode b bad).1).2.2.2.2.2)] ∧ s'.n ≤ 400 ∧ ∀ a, a < 1 → s'.get a = some (objL [.cells [inlL Z1s 1 ((rcode b bad).2.1), .bool ((rcode b bad).2.2)]] a) := by
 obtain ⟨rc, hS, hC⟩ := rc_con (Z24 Try.cfgOk 300) [con_rbyte, con_shape, con_rdnum, con_field, con_psmall] Z1;have hC67 := hC con_rbyte (.head _);have hC62 := hC con_shape (.tail _ (.head _));have hC50 := hC con_rdnum (.tail _ (.tail _ (.head _)));have hC63 := hC con_field (.tail _ (.tail _ (.tail _ (.head _))));have hC69 := hC con_psmall (.tail _ (.tail _ (.tail _ (.tail _ (.head _)))));refine Z2d Try.cfgOk rdcode_fn rfl ?_;refine Z1u ?_;refine kK Try.cfgOk hS ?_;refine Z1u ?_;refine Z1t Try.cfgOk hS ?_;refine aK 1 ?_;refine aC 67 [.pointer (some ⟨0, 0, none⟩)] (.int .u8 (((byV b bad).toNat : Nat) : Int)) _ rfl (hC67 _ _ _ _ (con_rbyte_at b bad 0 Z0w _ Z1 Z1 )) ?_;refine aE (v := .int .i64 (IntKind.wrap .i64 (((byV b bad).toNat : Nat) : Int))) (.int .i64 (((byV b bad).toNat : Nat) : Int)) (congrArg (Value.int .i64) (wrap64 (by have q := (byV b bad).toNat_lt; omega))) ?_;refine aN ?_;refine Z1u ?_;refine Z1t Try.cfgOk hS ?_;refine aK 2 ?_;refine aC 62 [.int .i64 (((byV b bad).toNat : Nat) : Int)] (.tuple #[.string (bstr (shp (((byV b bad).toNat : Nat) : Int))), .bool (decide (0 ≤ (((byV b bad).toNat : Nat) : Int) ∧ (((byV b bad).toNat : Nat) : Int) ≤ 15))]) _ rfl (hC62 _ _ _ _ (con_shape_at (((byV b bad).toNat : Nat) : Int)  _)) ?_;refine aN ?_;refine Z1u (Z1u ?_);refine kK Try.cfgOk hS ?_;refine Z2f ?_;refine sk_live 38 ((fun a : Nat × Code × (List UInt8) × Bool => [(0, .pointer (some ⟨0, 0, none⟩)), (2, .pointer (some ⟨1, 0, none⟩)), (3, .pointer (some ⟨2, 0, none⟩)), (4, .string (bstr (shp (((byV b bad).toNat : Nat) : Int)))), (18, .int .i64 (((shp (((byV b bad).toNat : Nat) : Int)).length : Nat) : Int)), (19, .int .i64 ((a.1 : Nat) : Int))]) (0, ((((byV b bad).toNat : Nat) : Int), 0, 0, 0, 0, 0), (tkR b bad), (tkB b bad))) Z1 ⟨Z1, Z1, Z1, Z1, Z1, Z1, trivial⟩ fun m1 => ?_
 refine sk_st ((fun a : Nat × Code × (List UInt8) × Bool => ((((St.empty 0).new (.cells [inlL Z1s 1 a.2.2.1, .bool a.2.2.2])).new (.cells [.int .i64 0, .int .i64 0, .int .i64 0, .int .i64 0, .int .i64 0, .int .i64 0])).new (.cells (Z1w a.2.1)))) (0, ((((byV b bad).toNat : Nat) : Int), 0, 0, 0, 0, 0), (tkR b bad), (tkB b bad))) Z1 ?_;refine (sk_while (k := 3) (N := 400) (live := (fun a : Nat × Code × (List UInt8) × Bool => [(0, .pointer (some ⟨0, 0, none⟩)), (2, .pointer (some ⟨1, 0, none⟩)), (3, .pointer (some ⟨2, 0, none⟩)), (4, .string (bstr (shp (((byV b bad).toNat : Nat) : Int)))), (18, .int .i64 (((shp (((byV b bad).toNat : Nat) : Int)).length : Nat) : Int)), (19, .int .i64 ((a.1 : Nat) : Int))])) (M := (fun a : Nat × Code × (List UInt8) × Bool => ((((St.empty 0).new (.cells [inlL Z1s 1 a.2.2.1, .bool a.2.2.2])).new (.cells [.int .i64 0, .int .i64 0, .int .i64 0, .int .i64 0, .int .i64 0, .int .i64 0])).new (.cells (Z1w a.2.1))))) (fun a : Nat × Code × (List UInt8) × Bool => (a.1 ≤ (shp (((byV b bad).toNat : Nat) : Int)).length) ∧ ((a.2.1, a.2.2.1, a.2.2.2) = codeR ((shp (((byV b bad).toNat : Nat) : Int)).take a.1) (((((byV b bad).toNat : Nat) : Int), 0, 0, 0, 0, 0), tkR b bad, tkB b bad)) ∧ (a.2.2.1.length ≤ b.length) ∧ (RdI a.2.2.1 a.2.2.2) ∧ ((shp (((byV b bad).toNat : Nat) : Int)).length ≤ 5)) (fun a : Nat × Code × (List UInt8) × Bool => (shp (((byV b bad).toNat : Nat) : Int)).length - a.1) (fun (a : Nat × Code × (List UInt8) × Bool) (o : Out) (lv : List (Nat × Value)) (M : St) => (o = .exit 0 ∧ (¬ a.1 < (shp (((byV b bad).toNat : Nat) : Int)).length) ∧ lv = [(0, .pointer (some ⟨0, 0, none⟩)), (2, .pointer (some ⟨1, 0, none⟩)), (3, .pointer (some ⟨2, 0, none⟩)), (4, .string (bstr (shp (((byV b bad).toNat : Nat) : Int)))), (18, .int .i64 (((shp (((byV b bad).toNat : Nat) : Int)).length : Nat) : Int)), (19, .int .i64 ((a.1 : Nat) : Int))] ∧ M = ((((St.empty 0).new (.cells [inlL Z1s 1 a.2.2.1, .bool a.2.2.2])).new (.cells [.int .i64 0, .int .i64 0, .int .i64 0, .int .i64 0, .int .i64 0, .int .i64 0])).new (.cells (Z1w a.2.1))))) (Nat.zero_le _) (fun a ha => ?_) (fun a ha => ?_) (fun a m ha => ?_) (fun a m ha => ?_) (0, ((((byV b bad).toNat : Nat) : Int), 0, 0, 0, 0, 0), (tkR b bad), (tkB b bad)) m1 ?_).up ?_
 ·exact ⟨Z1, ((((Z1x 0).new _).new _).new _), (selfs (all_cons (o := .cells [inlL Z1s 1 a.2.2.1, .bool a.2.2.2]) Z1 (OSub.cells (.cons (sub_clo rfl) (.cons (sub_clo rfl) .nil))) (all_cons (o := .cells [.int .i64 0, .int .i64 0, .int .i64 0, .int .i64 0, .int .i64 0, .int .i64 0]) Z1 (OSub.cells (.cons (sub_clo rfl) (.cons (sub_clo rfl) (.cons (sub_clo rfl) (.cons (sub_clo rfl) (.cons (sub_clo rfl) (.cons (sub_clo rfl) .nil))))))) (all_cons (o := .cells (Z1w a.2.1)) Z1 (OSub.cells (subs_clo (ccells_clo _))) (Z25)))))⟩
 ·exact ⟨.ptr ⟨Ze, rfl⟩, .ptr ⟨Ze, rfl⟩, .ptr ⟨Ze, rfl⟩, sub_clo rfl, sub_clo rfl, sub_clo rfl, trivial⟩
 ·exact ⟨Z1, Z1, Z1, Z1, Z1, Z1, trivial⟩
 ·obtain ⟨j, cd, cb, cbad⟩ := a;obtain ⟨i0, i1, i2, i3, i4⟩ := ha;dsimp only at i0 i1 i2 i3 i4;refine Z1u ?_;refine Z1t Try.cfgOk hS ?_;refine aT (fun h2 => ?_) (fun h2 => ?_)
  ·have c3e : (decide ((((j : Nat) : Int) : Int) < (((shp (((byV b bad).toNat : Nat) : Int)).length : Nat) : Int))) = true := Eq.trans Z1 h2;clear h2;have c3 : (((j : Nat) : Int) : Int) < (((shp (((byV b bad).toNat : Nat) : Int)).length : Nat) : Int) := of_decide_eq_true c3e;clear c3e;refine Z29 ?_;refine Z1u ?_;refine kT ?_;refine Z26 (Z1u (Z2f (Z1u ?_)));refine kK Try.cfgOk hS ?_;refine Z1u ?_;have hx4l : j < (shp (((byV b bad).toNat : Nat) : Int)).length := by omega
   refine Exists.elim (get_ex hx4l) fun x4 hx4 => ?_
   clear hx4l;refine Z1t Try.cfgOk hS ?_;refine aK 2 ?_;refine aM (indexV Try.cfg 9 (.string (bstr (shp (((byV b bad).toNat : Nat) : Int)))) (.int .i64 ((j : Nat) : Int))) (.int .u8 ((x4.toNat : Nat) : Int)) (index_bstr Z1 hx4) ?_;refine aT (fun h5 => ?_) (fun h5 => ?_)
   ·have c6e : ((((x4.toNat : Nat) : Int) : Int) == 110) = true := Eq.trans Z1 h5;clear h5;have c6 : (((x4.toNat : Nat) : Int) : Int) = 110 := eq_of_beq c6e;clear c6e;refine Z29 ?_;refine kT ?_;refine Z1t Try.cfgOk hS ?_;refine aK 1 ?_;refine aC 50 [.pointer (some ⟨0, 0, none⟩)] (.int .i64 (unf (rdV cb cbad))) _ rfl (hC50 _ _ _ _ (con_rdnum_at cb cbad 0 Z0w _ Z1 Z1 )) ?_;refine aN ?_;refine Z1t Try.cfgOk hS ?_;refine aE (v := .int .i64 (IntKind.wrap .i64 (((j : Nat) : Int) + 1))) (.int .i64 ((j + 1 : Nat) : Int)) (congrArg (Value.int .i64) (wrap_to Z5 Z5)) ?_;refine aN ?_;refine .inl ⟨(j + 1, (setN (unf (rdV cb cbad)) cd), (rdR cb cbad), (rdB cb cbad)), rfl, ⟨?_, ?_, ?_, ?_, ?_⟩, ?_, ⟨Z1, ⟨Z1, Z1, Z1, Z1, Z1, Z1, trivial⟩, ⟨.ptr ⟨Ze, rfl⟩, .ptr ⟨Ze, rfl⟩, .ptr ⟨Ze, rfl⟩, sub_clo rfl, sub_clo rfl, sub_clo rfl, trivial⟩, Zle, ⟨Z1, ((((Z1x 0).new _).new _).new _), (selfs (all_cons (o := .cells [inlL Z1s 1 (rdR cb cbad), .bool (rdB cb cbad)]) Z1 (OSub.cells (.cons (sub_clo rfl) (.cons (sub_clo rfl) .nil))) (all_cons (o := .cells [.int .i64 0, .int .i64 0, .int .i64 0, .int .i64 0, .int .i64 0, .int .i64 0]) Z1 (OSub.cells (.cons (sub_clo rfl) (.cons (sub_clo rfl) (.cons (sub_clo rfl) (.cons (sub_clo rfl) (.cons (sub_clo rfl) (.cons (sub_clo rfl) .nil))))))) (all_cons (o := .cells (Z1w (setN (unf (rdV cb cbad)) cd))) Z1 (OSub.cells (subs_clo (ccells_clo _))) (Z25)))))⟩, Z2b Z1⟩⟩
    ·(try dsimp only); omega
    ·(try dsimp only); rw [codeR_succ Z2, ← i1]; first | exact (rdF_n Z2).symm | exact (rdF_c Z2).symm
    ·(try dsimp only); have q := rdR_le cb cbad; omega
    ·(try dsimp only); exact rdI_step i3
    ·(try dsimp only); assumption
    ·omega
   ·have c6e : ((((x4.toNat : Nat) : Int) : Int) == 110) = false := Eq.trans Z1 h5;clear h5;have c6 : ¬ (((x4.toNat : Nat) : Int) : Int) = 110 := ne_of_beq_false c6e;clear c6e;refine Z29 ?_;refine kF ?_;refine Z1t Try.cfgOk hS ?_;refine aK 2 ?_;refine aM (indexV Try.cfg 9 (.string (bstr (shp (((byV b bad).toNat : Nat) : Int)))) (.int .i64 ((j : Nat) : Int))) (.int .u8 ((x4.toNat : Nat) : Int)) (index_bstr Z1 hx4) ?_;refine aC 63 [.pointer (some ⟨2, 0, none⟩), .int .u8 ((x4.toNat : Nat) : Int)] (.pointer (some ⟨2, (offL x4), none⟩)) _ rfl (hC63 _ _ _ _ (con_field_at x4 cd 2  _ Z1 Z1 )) ?_;refine aK 1 ?_;refine aC 69 [.pointer (some ⟨0, 0, none⟩)] (.int .i64 ((rdV cb cbad % 4611686018427387904 : Nat) : Int)) _ rfl (hC69 _ _ _ _ (con_psmall_at cb cbad 0 Z0w _ Z1 Z1 )) ?_;refine aK 1 ?_;refine al_opF (v := undef) (s1 := ((((St.empty 0).new (.cells [inlL Z1s 1 (rdR cb cbad), .bool (rdB cb cbad)])).new (.cells [.int .i64 0, .int .i64 0, .int .i64 0, .int .i64 0, .int .i64 0, .int .i64 0])).new (.cells (Z1w cd))).set 2 (.cells (Z1w (setf x4 ((rdV cb cbad % 4611686018427387904 : Nat) : Int) cd)))) Z1 Z1 (Eq.trans (b := (storeV Try.cfg ((((St.empty 0).new (.cells [inlL Z1s 1 (rdR cb cbad), .bool (rdB cb cbad)])).new (.cells [.int .i64 0, .int .i64 0, .int .i64 0, .int .i64 0, .int .i64 0, .int .i64 0])).new (.cells (Z1w cd))) 3 (.pointer (some ⟨2, (offL x4), none⟩)) (.int .i64 ((rdV cb cbad % 4611686018427387904 : Nat) : Int))).map fun s8 => (undef, s8)) Z1 (congrArg (Option.map fun s8 => (undef, s8)) (store_sym Z1 (cs := Z1w cd) (cs2 := Z1w (setf x4 ((rdV cb cbad % 4611686018427387904 : Nat) : Int) cd)) rfl rfl Z1 (offL_lt x4) (setf_at x4 ((rdV cb cbad % 4611686018427387904 : Nat) : Int) cd)))) ?_;refine Z29 ?_;refine Z1t Try.cfgOk hS ?_;refine aE (v := .int .i64 (IntKind.wrap .i64 (((j : Nat) : Int) + 1))) (.int .i64 ((j + 1 : Nat) : Int)) (congrArg (Value.int .i64) (wrap_to Z5 Z5)) ?_;refine aN ?_;refine .inl ⟨(j + 1, (setf x4 ((rdV cb cbad % 4611686018427387904 : Nat) : Int) cd), (rdR cb cbad), (rdB cb cbad)), rfl, ⟨?_, ?_, ?_, ?_, ?_⟩, ?_, ⟨Z1, ⟨Z1, Z1, Z1, Z1, Z1, Z1, trivial⟩, ⟨.ptr ⟨Ze, rfl⟩, .ptr ⟨Ze, rfl⟩, .ptr ⟨Ze, rfl⟩, sub_clo rfl, sub_clo rfl, sub_clo rfl, trivial⟩, Zle, ⟨Z1, ((((Z1x 0).new _).new _).new _), (selfs (all_cons (o := .cells [inlL Z1s 1 (rdR cb cbad), .bool (rdB cb cbad)]) Z1 (OSub.cells (.cons (sub_clo rfl) (.cons (sub_clo rfl) .nil))) (all_cons (o := .cells [.int .i64 0, .int .i64 0, .int .i64 0, .int .i64 0, .int .i64 0, .int .i64 0]) Z1 (OSub.cells (.cons (sub_clo rfl) (.cons (sub_clo rfl) (.cons (sub_clo rfl) (.cons (sub_clo rfl) (.cons (sub_clo rfl) (.cons (sub_clo rfl) .nil))))))) (all_cons (o := .cells (Z1w (setf x4 ((rdV cb cbad % 4611686018427387904 : Nat) : Int) cd))) Z1 (OSub.cells (subs_clo (ccells_clo _))) (Z25)))))⟩, Z2b Z1⟩⟩
    ·(try dsimp only); omega
    ·(try dsimp only); rw [codeR_succ Z2, ← i1]; first | exact (rdF_n Z2).symm | exact (rdF_c Z2).symm
    ·(try dsimp only); have q := rdR_le cb cbad; omega
    ·(try dsimp only); exact rdI_step i3
    ·(try dsimp only); assumption
    ·omega
  ·have c3e : (decide ((((j : Nat) : Int) : Int) < (((shp (((byV b bad).toNat : Nat) : Int)).length : Nat) : Int))) = false := Eq.trans Z1 h2;clear h2;have c3 : ¬ (((j : Nat) : Int) : Int) < (((shp (((byV b bad).toNat : Nat) : Int)).length : Nat) : Int) := of_decide_eq_false c3e;clear c3e;refine Z29 ?_;refine Z1u ?_;refine kF ?_;refine sk_exit ?_;dsimp only;refine .inr ⟨_, _, (fun h => Zw), ⟨rfl, ?_, rfl, rfl⟩, ⟨Z1, ⟨Z1, Z1, Z1, Z1, Z1, Z1, trivial⟩, ⟨.ptr ⟨Ze, rfl⟩, .ptr ⟨Ze, rfl⟩, .ptr ⟨Ze, rfl⟩, sub_clo rfl, sub_clo rfl, sub_clo rfl, trivial⟩, Zle, ⟨Z1, ((((Z1x 0).new _).new _).new _), (selfs (all_cons (o := .cells [inlL Z1s 1 cb, .bool cbad]) Z1 (OSub.cells (.cons (sub_clo rfl) (.cons (sub_clo rfl) .nil))) (all_cons (o := .cells [.int .i64 0, .int .i64 0, .int .i64 0, .int .i64 0, .int .i64 0, .int .i64 0]) Z1 (OSub.cells (.cons (sub_clo rfl) (.cons (sub_clo rfl) (.cons (sub_clo rfl) (.cons (sub_clo rfl) (.cons (sub_clo rfl) (.cons (sub_clo rfl) .nil))))))) (all_cons (o := .cells (Z1w cd)) Z1 (OSub.cells (subs_clo (ccells_clo _))) (Z25)))))⟩, Z2b Z1⟩⟩
   ·omega
 ·exact ⟨Zy, Z0e, by ((try dsimp only); first | done | (exact tkR_le b bad)), by ((try dsimp only); first | done | (exact tkI' h1)), Z1g⟩
 rintro o e1 s1 ⟨a, lv1, M1, m1, ha, ⟨rfl, hx, rfl, rfl⟩, rfl, rfl⟩;obtain ⟨j, cd, cb, cbad⟩ := a;obtain ⟨i0, i1, i2, i3, i4⟩ := ha;dsimp only at hx i0 i1 i2 i3 i4;dsimp only;try rw [if_pos rfl]
 refine Z1u ?_;refine kK Try.cfgOk hS ?_;refine Z1z ?_;exact ⟨[.agg #[.int .i64 cd.1, .int .i64 cd.2.1, .int .i64 cd.2.2.1, .int .i64 cd.2.2.2.1, .int .i64 cd.2.2.2.2.1, .int .i64 cd.2.2.2.2.2]], Z1, (show (.agg #[.int .i64 cd.1, .int .i64 cd.2.1, .int .i64 cd.2.2.1, .int .i64 cd.2.2.2.1, .int .i64 cd.2.2.2.2.1, .int .i64 cd.2.2.2.2.2] : Value) = .agg #[.int .i64 (((rcode b bad).1).1), .int .i64 (((rcode b bad).1).2.1), .int .i64 (((rcode b bad).1).2.2.1), .int .i64 (((rcode b bad).1).2.2.2.1), .int .i64 (((rcode b bad).1).2.2.2.2.1), .int .i64 (((rcode b bad).1).2.2.2.2.2)] by have q := i1; rw [List.take_of_length_le Z5] at q; rw [rcode, ← q]), Zle, all1 (Eq.trans (b := some (.cells [inlL Z1s 1 cb, .bool cbad])) Z1 (congrArg some (show ((.cells [inlL Z1s 1 cb, .bool cbad]) : AObj) = .cells [inlL Z1s 1 ((rcode b bad).2.1), .bool ((rcode b bad).2.2)] by have q := i1; rw [List.take_of_length_le Z5] at q; rw [rcode, ← q])))⟩
noncomputable def sm_rdcode : Small Try.prog 0 70 ((List UInt8) × Bool) where
 k := 1
 A := fun z9 ρ => [.pointer (some ⟨(ρ 0), 0, none⟩)]
 M := fun z9 ρ => objL [.cells [inlL Z1s 1 z9.1, .bool z9.2]]
 M1 := fun z9 ρ => objL [.cells [inlL Z1s 1 ((rcode z9.1 z9.2).2.1), .bool ((rcode z9.1 z9.2).2.2)]]
 V := fun z9 ρ => .agg #[.int .i64 (((rcode z9.1 z9.2).1).1), .int .i64 (((rcode z9.1 z9.2).1).2.1), .int .i64 (((rcode z9.1 z9.2).1).2.2.1), .int .i64 (((rcode z9.1 z9.2).1).2.2.2.1), .int .i64 (((rcode z9.1 z9.2).1).2.2.2.2.1), .int .i64 (((rcode z9.1 z9.2).1).2.2.2.2.2)]
 Pre := fun z9 => (z9.1.length ≤ 1000000000) ∧ (RdI z9.1 z9.2)
 ch := [0]
 N := 400
 s0 := fun z9 => ((St.empty 0).new (.cells [inlL Z1s 1 z9.1, .bool z9.2]))
 hch := by decide
 hsame := fun x ρ => all1 (fun h => absurd (by decide) h)
 hG := rfl
 hn := fun x => rfl
 hwf := fun x => ((Z1x 0).new _)
 hget := fun x => all1 (by kernel_rfl)
 noloop := fun x ρ => all1 (fun h => h.elim)
 inA := fun x ρ R hR => .cons (.ptr (hR 0 _ (by decide))) .nil
 inM := fun x ρ R hR => all1 (OSub.cells (.cons (sub_clo rfl) (.cons (sub_clo rfl) .nil)))
 outM := fun x ρ R hR => all1 (OSub.cells (.cons (sub_clo rfl) (.cons (sub_clo rfl) .nil)))
 outV := fun x ρ R hR => .agg (.cons (sub_clo rfl) (.cons (sub_clo rfl) (.cons (sub_clo rfl) (.cons (sub_clo rfl) (.cons (sub_clo rfl) (.cons (sub_clo rfl) .nil))))))
 dom := by
  intro x ρ a ha
  obtain rfl := List.mem_singleton.1 ha
  refine .inl fun β y h => ?_
  obtain ⟨_, _, _, h, _⟩ := h.cons_inv
  exact h.dom_ptr
 sc := by
  rintro ⟨a0, a1⟩ ⟨p0, p1⟩
  exact rdcode_sc a0 a1 p0 p1
 det := by
  rintro ⟨a0, a1⟩ ρ ⟨b0, b1⟩ σ s h hm hm'
  simp only [injA, injB, Z28] at h
  have q0 : ρ 0 = σ 0 := by simp_all
  have e0 := (hm 0 (by decide)).symm.trans ((congrArg s.get q0).trans (hm' 0 (by decide)))
  simp only [objL, List.getD_cons_zero, List.getD_cons_succ, injA, injB, Z28] at e0
  have q : ∀ a, a < 1 → ρ a = σ a := all1 q0
  clear hm hm'
  exact ⟨by first | rfl | (simp_all [Prod.ext_iff]; done) | exact e0, q⟩
 par := by
  intro x ρ σ h
  have h0 := h 0 (by decide)
  exact ⟨by first | rfl | simp only [h0], by first | exact fun _ _ => rfl | (intro a ha; simp only [h0])⟩
noncomputable def con_rdcode : Con Try.prog 0 := sm_rdcode.con
theorem con_rdcode_at (b : List UInt8) (bad : Bool) (i0 : Nat) (h0 : b.length ≤ 1000000000) (h1 : RdI b bad) (s : St) (hn : nodupB [i0] = true) (m0 : s.get i0 = some (.cells [inlL Z1s 1 b, .bool bad])) : con_rdcode.rel [.pointer (some ⟨i0, 0, none⟩)] s (.agg #[.int .i64 (((rcode b bad).1).1), .int .i64 (((rcode b bad).1).2.1), .int .i64 (((rcode b bad).1).2.2.1), .int .i64 (((rcode b bad).1).2.2.2.1), .int .i64 (((rcode b bad).1).2.2.2.2.1), .int .i64 (((rcode b bad).1).2.2.2.2.2)]) (s.set i0 (.cells [inlL Z1s 1 ((rcode b bad).2.1), .bool ((rcode b bad).2.2)])) :=
 sm_rdcode.at_ (b, bad) [i0] s _ ⟨h0, h1⟩ rfl hn rfl (all1 m0) rfl rfl
end Go.Proofs.Ytegigohhnplomaa