/- The instruction of a line. -/
import Derived.Test.YtgplkbfjlidinabGreatDoorWords
import Derived.Test.YtgplkbfjlidinabGreatDoorAiCon
import Derived.Test.YtgplkbfjlidinabGreatDoorAiTab
import Derived.Test.YtgplkbfjlidinabGreatDoorAiComp
import Derived.Test.YtgplkbfjlidinabGreatDoorAiAtoi
import Derived.Test.YtgplkbfjlidinabGreatDoorKit
set_option linter.unusedVariables false
set_option linter.unusedSimpArgs false
set_option linter.unnecessarySimpa false
set_option maxHeartbeats 4000000
set_option maxRecDepth 100000
namespace Go.Proofs.YtgplkbfjlidinabGreatDoor
open Go.Ai
theorem splitS_sc (tx : List UInt8) (h0 : tx.length ≤ 100000) : SC Tryz.prog 135000004004000 24 [.string (bstr tx), .string (bstr [32])] (St.empty 0) fun v s' => ∃ σ : Nat → Nat, (∀ a, a < 0 → σ a = a) ∧ (∀ a, 0 ≤ a → a < 0 + 1 → 0 ≤ σ a ∧ σ a < s'.n) ∧ (∀ a b, a < 0 + 1 → b < 0 + 1 → σ a = σ b → a = b) ∧ v = slL (σ 0) 1 ((Z2e 32 tx).length) ∧ s'.n ≤ 400 ∧ ∀ a, a < 0 + 1 → s'.get (σ a) = some (objL [rowL Z2h (Z2e 32 tx)] a) := by
 refine (split_sc split_lays Z3 (f := 24) rfl 32 tx Z4 rfl).up fun v s' h => ?_
 obtain ⟨rfl, rfl⟩ := h;exact ⟨id, fun _ _ => rfl, fun a h1 h2 => ⟨h1, by rw [St.n_new]; exact h2⟩, fun _ _ _ _ h => h, rfl, Zle, all1 Z3⟩
noncomputable def sm_splitS : SmallN Tryz.prog 135000004004000 24 ((List UInt8)) where
 k := 0
 m := 1
 A := fun z9 ρ => [.string (bstr z9), .string (bstr [32])]
 M := fun z9 ρ => objL []
 M1 := fun z9 ρ => objL [rowL Z2h (Z2e 32 z9)]
 V := fun z9 ρ => slL (ρ 0) 1 ((Z2e 32 z9).length)
 Pre := fun z9 => (z9.length ≤ 100000)
 ch := []
 N := 400
 s0 := fun z9 => (St.empty 0)
 hch := by decide
 hsame := fun x ρ => all0
 hG := rfl
 hn := fun x => rfl
 hwf := fun x => (Z2d 0)
 hget := fun x => all0
 noloop := fun x ρ => all0
 inA := fun x ρ R hR => .cons (sub_clo rfl) (.cons (sub_clo rfl) .nil)
 inM := fun x ρ R hR => all0
 outM := fun x σ ρ R hR => all1 (OSub.arr (subs_clo (Z2o tcells_clo)))
 outV := fun x σ ρ R hR => .slice (hR 0 _ (by decide))
 dom := by
  intro x ρ a ha
  cases ha
 sc := by
  rintro x p0
  exact splitS_sc x p0
 det := by
  rintro x ρ y σ s h hm hm'
  simp only [injA, injB, bstr_iff] at h
  have q : ∀ a, a < 0 → ρ a = σ a := all0
  clear hm hm'
  exact ⟨by first | rfl | exact h | (simp_all [Prod.ext_iff]; done) | exact e0, q⟩
 par := by
  intro x ρ σ h
  have h0 := h 0 (by decide)
  exact ⟨by first | rfl | simp only [h0], by first | exact fun _ _ => rfl | (intro a ha; simp only [h0])⟩
noncomputable def con_splitS : Con Tryz.prog 135000004004000 := sm_splitS.con
theorem con_splitS_at (tx : List UInt8) (i0 : Nat) (h0 : tx.length ≤ 100000) (s : St) (hn : nodupB [] = true)  (n0 : i0 = s.n + 0) : con_splitS.rel [.string (bstr tx), .string (bstr [32])] s (slL i0 1 ((Z2e 32 tx).length)) (s.new (rowL Z2h (Z2e 32 tx))) :=
 sm_splitS.at_ tx [i0] s _ h0 rfl hn rfl (all0 ) (new_all (p := fun a b => rhoL [i0] a = s.n + b) (all1 n0)) rfl rfl
theorem splitN_sc (tx : List UInt8) (h0 : tx.length ≤ 100000) : SC Tryz.prog 135000004004000 24 [.string (bstr tx), .string (bstr [10])] (St.empty 0) fun v s' => ∃ σ : Nat → Nat, (∀ a, a < 0 → σ a = a) ∧ (∀ a, 0 ≤ a → a < 0 + 1 → 0 ≤ σ a ∧ σ a < s'.n) ∧ (∀ a b, a < 0 + 1 → b < 0 + 1 → σ a = σ b → a = b) ∧ v = slL (σ 0) 1 ((Z2e 10 tx).length) ∧ s'.n ≤ 400 ∧ ∀ a, a < 0 + 1 → s'.get (σ a) = some (objL [rowL Z2h (Z2e 10 tx)] a) := by
 refine (split_sc split_lays Z3 (f := 24) rfl 10 tx Z4 rfl).up fun v s' h => ?_
 obtain ⟨rfl, rfl⟩ := h;exact ⟨id, fun _ _ => rfl, fun a h1 h2 => ⟨h1, by rw [St.n_new]; exact h2⟩, fun _ _ _ _ h => h, rfl, Zle, all1 Z3⟩
noncomputable def sm_splitN : SmallN Tryz.prog 135000004004000 24 ((List UInt8)) where
 k := 0
 m := 1
 A := fun z9 ρ => [.string (bstr z9), .string (bstr [10])]
 M := fun z9 ρ => objL []
 M1 := fun z9 ρ => objL [rowL Z2h (Z2e 10 z9)]
 V := fun z9 ρ => slL (ρ 0) 1 ((Z2e 10 z9).length)
 Pre := fun z9 => (z9.length ≤ 100000)
 ch := []
 N := 400
 s0 := fun z9 => (St.empty 0)
 hch := by decide
 hsame := fun x ρ => all0
 hG := rfl
 hn := fun x => rfl
 hwf := fun x => (Z2d 0)
 hget := fun x => all0
 noloop := fun x ρ => all0
 inA := fun x ρ R hR => .cons (sub_clo rfl) (.cons (sub_clo rfl) .nil)
 inM := fun x ρ R hR => all0
 outM := fun x σ ρ R hR => all1 (OSub.arr (subs_clo (Z2o tcells_clo)))
 outV := fun x σ ρ R hR => .slice (hR 0 _ (by decide))
 dom := by
  intro x ρ a ha
  cases ha
 sc := by
  rintro x p0
  exact splitN_sc x p0
 det := by
  rintro x ρ y σ s h hm hm'
  simp only [injA, injB, bstr_iff] at h
  have q : ∀ a, a < 0 → ρ a = σ a := all0
  clear hm hm'
  exact ⟨by first | rfl | exact h | (simp_all [Prod.ext_iff]; done) | exact e0, q⟩
 par := by
  intro x ρ σ h
  have h0 := h 0 (by decide)
  exact ⟨by first | rfl | simp only [h0], by first | exact fun _ _ => rfl | (intro a ha; simp only [h0])⟩
noncomputable def con_splitN : Con Tryz.prog 135000004004000 := sm_splitN.con
theorem con_splitN_at (tx : List UInt8) (i0 : Nat) (h0 : tx.length ≤ 100000) (s : St) (hn : nodupB [] = true)  (n0 : i0 = s.n + 0) : con_splitN.rel [.string (bstr tx), .string (bstr [10])] s (slL i0 1 ((Z2e 10 tx).length)) (s.new (rowL Z2h (Z2e 10 tx))) :=
 sm_splitN.at_ tx [i0] s _ h0 rfl hn rfl (all0 ) (new_all (p := fun a b => rhoL [i0] a = s.n + b) (all1 n0)) rfl rfl
def wdW (s : List UInt8) (i : Nat) : List UInt8 := ((Z2e 32 s)[i]?).getD []
theorem wdW_at {s : List UInt8} {i : Nat} (h : i < (Z2e 32 s).length) : (Z2e 32 s)[i]? = some (wdW s i) := by
 unfold wdW;rw [List.getElem?_eq_getElem h];rfl
theorem split_pos (b : UInt8) (s : List UInt8) : 0 < (Z2e b s).length := by rw [splitL_len]; omega
theorem split_piece {b : UInt8} {s w : List UInt8} (h : w ∈ Z2e b s) : w.length ≤ s.length := pcs_len (by rw [← split_pcs]; exact h)
theorem wdW_len (s : List UInt8) (i : Nat) : (wdW s i).length ≤ s.length := by
 unfold wdW;cases h : (Z2e 32 s)[i]? with
 | none => exact Nat.zero_le _
 | some w => exact split_piece (List.mem_of_getElem? h)
def setF (x : UInt8) (n : Int) (c : Code) : Code := if x.toNat = 97 ∨ x.toNat = 115 then (c.1, n, c.2.2) else if x.toNat = 98 then (c.1, c.2.1, n, c.2.2.2) else if x.toNat = 99 then (c.1, c.2.1, c.2.2.1, n, c.2.2.2.2) else if x.toNat = 116 then (c.1, c.2.1, c.2.2.1, c.2.2.2.1, n, c.2.2.2.2.2) else (c.1, c.2.1, c.2.2.1, c.2.2.2.1, c.2.2.2.2.1, n)
theorem setF_at (x : UInt8) (n : Int) (c : Code) : splice (Z29 c) (offL x) [.int .i64 n] = Z29 (setF x n c) := by unfold offL setF; (repeat' split) <;> rfl
noncomputable def cF (op : Int) (s : List UInt8) : Nat → Code
  | 0 => (op, 0, 0, 0, 0, 0)
  | i + 1 => match (shp op)[i]? with
    | some x => setF x (takN x (wdW s (1 + i))) (cF op s i)
    | none => cF op s i
theorem cF_succ {op : Int} {s : List UInt8} {i : Nat} {x : UInt8} (h : (shp op)[i]? = some x) : cF op s (i + 1) = setF x (takN x (wdW s (1 + i))) (cF op s i) := by
 show (match (shp op)[i]? with | some x => setF x (takN x (wdW s (1 + i))) (cF op s i) | none => cF op s i) = _;rw [h]
abbrev badT (s : List UInt8) (i : Nat) : Prop := ∃ x, (shp (opN (wdW s 0)))[i]? = some x ∧ ¬ takP x (wdW s (1 + i))
def codeP (s : List UInt8) : Prop := (0 ≤ (opN (wdW s 0)) ∧ (opN (wdW s 0)) ≤ 15) ∧ (Z2e 32 s).length = 1 + (shp (opN (wdW s 0))).length ∧ ∀ i, i < (shp (opN (wdW s 0))).length → ¬ badT s i
noncomputable def cV (s : List UInt8) : Code := cF (opN (wdW s 0)) s (shp (opN (wdW s 0))).length
noncomputable def codeR (s : List UInt8) : Value := if tf (codeP s) = true then .tuple #[.agg #[.int .i64 (cV s).1, .int .i64 (cV s).2.1, .int .i64 (cV s).2.2.1, .int .i64 (cV s).2.2.2.1, .int .i64 (cV s).2.2.2.2.1, .int .i64 (cV s).2.2.2.2.2], .bool true] else .tuple #[.agg #[.int .i64 0, .int .i64 0, .int .i64 0, .int .i64 0, .int .i64 0, .int .i64 0], .bool false]
theorem codeR_clo (s : List UInt8) : clo (codeR s) = true := by unfold codeR; split <;> rfl
theorem codeR_t {s : List UInt8} (h : codeP s) : codeR s = .tuple #[.agg #[.int .i64 (cV s).1, .int .i64 (cV s).2.1, .int .i64 (cV s).2.2.1, .int .i64 (cV s).2.2.2.1, .int .i64 (cV s).2.2.2.2.1, .int .i64 (cV s).2.2.2.2.2], .bool true] := by rw [codeR, tf_true h, if_pos rfl]
theorem codeR_f {s : List UInt8} (h : ¬ codeP s) : codeR s = .tuple #[.agg #[.int .i64 0, .int .i64 0, .int .i64 0, .int .i64 0, .int .i64 0, .int .i64 0], .bool false] := by rw [codeR, tf_false h]; rfl
theorem cF_end {s : List UInt8} {i : Nat} (h : i ≤ (shp (opN (wdW s 0))).length) (hx : ¬ i < (shp (opN (wdW s 0))).length) : cF (opN (wdW s 0)) s i = cV s := by
 have e : i = (shp (opN (wdW s 0))).length := Z4
 rw [e]; rfl
theorem badT_not {s : List UInt8} {i : Nat} {x : UInt8} (hx : (shp (opN (wdW s 0)))[i]? = some x) (h : takP x (wdW s (1 + i))) : ¬ badT s i := fun ⟨y, h1, h2⟩ => by
 rw [hx] at h1;obtain rfl := Option.some.inj h1;exact h2 h
theorem codeR_end {s : List UInt8} {i : Nat} {r : Code} (h1 : 0 ≤ opN (wdW s 0) ∧ opN (wdW s 0) ≤ 15) (h2 : (Z2e 32 s).length = 1 + (shp (opN (wdW s 0))).length) (h3 : i ≤ (shp (opN (wdW s 0))).length) (h4 : NoI (fun i : Nat => badT s i) i) (hx : ¬ i < (shp (opN (wdW s 0))).length) (hr : r = cF (opN (wdW s 0)) s i) : codeR s = .tuple #[.agg #[.int .i64 r.1, .int .i64 r.2.1, .int .i64 r.2.2.1, .int .i64 r.2.2.2.1, .int .i64 r.2.2.2.2.1, .int .i64 r.2.2.2.2.2], .bool true] := by
 rw [codeR_t ⟨h1, h2, fun j hj => h4 j Z4⟩, hr, cF_end h3 hx]
theorem codew_fn : Tryz.cfg.fn 14 = some Tryz.f14 := Z3
theorem codew_sc (tx : List UInt8) (h0 : tx.length ≤ 100000) (h1 : 0 < (Z2e 32 tx).length) (h2 : (shp (opN (wdW tx 0))).length ≤ 5) : SC Tryz.prog 135000004004000 14 [.string (bstr tx)] (St.empty 0) fun v s' => v = codeR tx ∧ s'.n ≤ 400 := by
 obtain ⟨rc, hS, hC⟩ := rc_con (Z2q Tryz.cfgOk 300) [con_splitS, con_opw, con_shape, con_taken, con_field] Z3;have hC24 := hC con_splitS (.head _);have hC27 := hC con_opw (.tail _ (.head _));have hC28 := hC con_shape (.tail _ (.tail _ (.head _)));have hC29 := hC con_taken (.tail _ (.tail _ (.tail _ (.head _))));have hC30 := hC con_field (.tail _ (.tail _ (.tail _ (.tail _ (.head _)))));refine sc_ice0 (N := 400) (v2 := codeR tx) (Q := fun v s' => FS 0 s' v (codeR tx) ∧ s'.n ≤ 400) ?_ (fun _ _ h => h);refine sc_body Tryz.cfgOk codew_fn rfl ?_;refine Z28 ?_;refine kK Tryz.cfgOk hS ?_;refine Z28 ?_;refine Z27 Tryz.cfgOk hS ?_;refine aK 1 ?_;refine aC 24 [.string (bstr tx), .string (bstr [32])] (slL 1 1 ((Z2e 32 tx).length)) _ rfl (hC24 _ _ _ _ (con_splitS_at tx 1 Z0l _ Z3 Z3 )) ?_;refine aN ?_;refine Z28 ?_;refine Z27 Tryz.cfgOk hS ?_;refine aK 1 ?_;refine aM (indexAddrV Tryz.cfg 41 (slL 1 1 ((Z2e 32 tx).length)) (.int .i64 0)) (.pointer (some ⟨1, 0 * 1, some (((Z2e 32 tx).length) * 1)⟩)) (idx_rowL Z3 Z4) ?_;refine aM (loadV Tryz.cfg (((St.empty 0).new (.cells [.int .i64 0, .int .i64 0, .int .i64 0, .int .i64 0, .int .i64 0, .int .i64 0])).new (rowL Z2h (Z2e 32 tx))) 9 (.pointer (some ⟨1, 0 * 1, some (((Z2e 32 tx).length) * 1)⟩))) (.string (bstr (wdW tx 0))) (load_rowL1 (o := 0) (l := Z2e 32 tx) Z3 tcells_len Z3 (wdW_at (i := 0) Z0w) rfl) ?_;refine aC 27 [.string (bstr (wdW tx 0))] (.int .i64 (opN (wdW tx 0))) _ rfl (hC27 _ _ _ _ (con_opw_at (wdW tx 0)  _)) ?_;refine aN ?_;refine Z28 ?_;refine Z27 Tryz.cfgOk hS ?_;refine aK 2 ?_;by_cases q1 : 0 ≤ (opN (wdW tx 0)) ∧ (opN (wdW tx 0)) ≤ 15
 ·
  refine aC 28 [.int .i64 (opN (wdW tx 0))] (.tuple #[.string (bstr (shp (opN (wdW tx 0)))), .bool true]) _ rfl (rc_eq (hC28 _ _ _ _ (con_shape_at (opN (wdW tx 0))  _)) (shape_t q1)) ?_;refine aN ?_;refine Z28 (Z28 ?_);refine Z27 Tryz.cfgOk hS ?_;refine aK 7 ?_;refine aE (v := .int .i64 (IntKind.wrap .i64 (1 + (((shp (opN (wdW tx 0))).length : Nat) : Int)))) (.int .i64 ((1 + (shp (opN (wdW tx 0))).length : Nat) : Int)) (congrArg (Value.int .i64) (Z2t Z4 Z4)) ?_;refine aT (fun h2 => ?_) (fun h2 => ?_)
  ·have c3e : (((((Z2e 32 tx).length : Nat) : Int) : Int) != ((1 + (shp (opN (wdW tx 0))).length : Nat) : Int)) = true := Eq.trans Z3 h2;clear h2;have c3 : ¬ ((((Z2e 32 tx).length : Nat) : Int) : Int) = ((1 + (shp (opN (wdW tx 0))).length : Nat) : Int) := bne_iff_ne.1 c3e;clear c3e;refine aN ?_;refine kT ?_;refine Z28 ?_;refine kK Tryz.cfgOk hS ?_;refine Z2a ?_;exact ⟨[.agg #[.int .i64 0, .int .i64 0, .int .i64 0, .int .i64 0, .int .i64 0, .int .i64 0], .bool false], Z3, fs_to (.tuple (.cons (.agg (.cons (.same (sub_clo rfl)) (.cons (.same (sub_clo rfl)) (.cons (.same (sub_clo rfl)) (.cons (.same (sub_clo rfl)) (.cons (.same (sub_clo rfl)) (.cons (.same (sub_clo rfl)) (.nil)))))))) (.cons (.same (sub_clo rfl)) (.nil)))) (show (.tuple #[.agg #[.int .i64 0, .int .i64 0, .int .i64 0, .int .i64 0, .int .i64 0, .int .i64 0], .bool false] : Value) = codeR tx by first | exact (codeR_end Z2 Z4 Z2 Z2 hx Z2).symm | exact (codeR_f (fun q => q.2.2 _ hx.1 hx.2)).symm | exact (codeR_f (fun q => absurd q.1 Z2)).symm | exact (codeR_f (fun q => absurd q.2.1 Z4)).symm), Zle⟩
  ·have c3e : (((((Z2e 32 tx).length : Nat) : Int) : Int) != ((1 + (shp (opN (wdW tx 0))).length : Nat) : Int)) = false := Eq.trans Z3 h2;clear h2;have c3 : ((((Z2e 32 tx).length : Nat) : Int) : Int) = ((1 + (shp (opN (wdW tx 0))).length : Nat) : Int) := bne_eq_false_iff_eq.1 c3e;clear c3e;refine aN ?_;refine kF ?_;refine Z2c (Z28 (Z28 ?_));refine kK Tryz.cfgOk hS ?_;refine Z2s ?_;refine sk_live 63 ((fun a : Nat × Code => [(2, .pointer (some ⟨0, 0, none⟩)), (4, slL 1 1 ((Z2e 32 tx).length)), (5, .pointer (some ⟨2, 0, none⟩)), (6, .string (bstr (shp (opN (wdW tx 0))))), (36, .int .i64 (((shp (opN (wdW tx 0))).length : Nat) : Int)), (37, .int .i64 ((a.1 : Nat) : Int))]) (0, (opN (wdW tx 0), 0, 0, 0, 0, 0))) Z3 ⟨Z3, Z3, Z3, Z3, Z3, Z3, trivial⟩ fun m4 => ?_
   refine sk_st ((fun a : Nat × Code => ((((St.empty 0).new (.cells [.int .i64 0, .int .i64 0, .int .i64 0, .int .i64 0, .int .i64 0, .int .i64 0])).new (rowL Z2h (Z2e 32 tx))).new (.cells (Z29 a.2)))) (0, (opN (wdW tx 0), 0, 0, 0, 0, 0))) Z3 ?_;refine (sk_while (k := 3) (N := 400) (live := (fun a : Nat × Code => [(2, .pointer (some ⟨0, 0, none⟩)), (4, slL 1 1 ((Z2e 32 tx).length)), (5, .pointer (some ⟨2, 0, none⟩)), (6, .string (bstr (shp (opN (wdW tx 0))))), (36, .int .i64 (((shp (opN (wdW tx 0))).length : Nat) : Int)), (37, .int .i64 ((a.1 : Nat) : Int))])) (M := (fun a : Nat × Code => ((((St.empty 0).new (.cells [.int .i64 0, .int .i64 0, .int .i64 0, .int .i64 0, .int .i64 0, .int .i64 0])).new (rowL Z2h (Z2e 32 tx))).new (.cells (Z29 a.2))))) (fun a : Nat × Code => (a.1 ≤ (shp (opN (wdW tx 0))).length) ∧ (NoI (fun z : Nat => badT tx z) a.1) ∧ (a.2 = cF (opN (wdW tx 0)) tx a.1)) (fun a : Nat × Code => (shp (opN (wdW tx 0))).length - a.1) (fun (a : Nat × Code) (o : Out) (lv : List (Nat × Value)) (M : St) => (o = .exit 0 ∧ (¬ a.1 < (shp (opN (wdW tx 0))).length) ∧ lv = [(2, .pointer (some ⟨0, 0, none⟩)), (4, slL 1 1 ((Z2e 32 tx).length)), (5, .pointer (some ⟨2, 0, none⟩)), (6, .string (bstr (shp (opN (wdW tx 0))))), (36, .int .i64 (((shp (opN (wdW tx 0))).length : Nat) : Int)), (37, .int .i64 ((a.1 : Nat) : Int))] ∧ M = ((((St.empty 0).new (.cells [.int .i64 0, .int .i64 0, .int .i64 0, .int .i64 0, .int .i64 0, .int .i64 0])).new (rowL Z2h (Z2e 32 tx))).new (.cells (Z29 a.2)))) ∨ (o = .ret ∧ (a.1 < (shp (opN (wdW tx 0))).length ∧ badT tx a.1) ∧ lv = [(2, .pointer (some ⟨0, 0, none⟩)), (3, .bool false)] ∧ M = ((((St.empty 0).new (.cells [.int .i64 0, .int .i64 0, .int .i64 0, .int .i64 0, .int .i64 0, .int .i64 0])).new (rowL Z2h (Z2e 32 tx))).new (.cells (Z29 a.2))))) (Nat.zero_le _) (fun a ha => ?_) (fun a ha => ?_) (fun a m ha => ?_) (fun a m ha => ?_) (0, (opN (wdW tx 0), 0, 0, 0, 0, 0)) m4 ?_).up ?_
   ·exact ⟨Z3, ((((Z2d 0).new _).new _).new _), (selfs (all_cons (o := .cells [.int .i64 0, .int .i64 0, .int .i64 0, .int .i64 0, .int .i64 0, .int .i64 0]) Z3 (OSub.cells (.cons (sub_clo rfl) (.cons (sub_clo rfl) (.cons (sub_clo rfl) (.cons (sub_clo rfl) (.cons (sub_clo rfl) (.cons (sub_clo rfl) .nil))))))) (all_cons (o := rowL Z2h (Z2e 32 tx)) Z3 (OSub.arr (subs_clo (Z2o tcells_clo))) (all_cons (o := .cells (Z29 a.2)) Z3 (OSub.cells (subs_clo (Z2i _))) (Z2g)))))⟩
   ·exact ⟨.ptr ⟨Zj, rfl⟩, .slice ⟨Zj, rfl⟩, .ptr ⟨Zj, rfl⟩, sub_clo rfl, sub_clo rfl, sub_clo rfl, trivial⟩
   ·exact ⟨Z3, Z3, Z3, Z3, Z3, Z3, trivial⟩
   ·obtain ⟨i, r⟩ := a;obtain ⟨i0, i1, i2⟩ := ha;dsimp only at i0 i1 i2;refine Z28 ?_;refine Z27 Tryz.cfgOk hS ?_;refine aT (fun h5 => ?_) (fun h5 => ?_)
    ·have c6e : (decide ((((i : Nat) : Int) : Int) < (((shp (opN (wdW tx 0))).length : Nat) : Int))) = true := Eq.trans Z3 h5;clear h5;have c6 : (((i : Nat) : Int) : Int) < (((shp (opN (wdW tx 0))).length : Nat) : Int) := of_decide_eq_true c6e;clear c6e;refine Z2f ?_;refine Z28 ?_;refine kT ?_;refine Z2c (Z28 (Z2s (Z28 ?_)));refine kK Tryz.cfgOk hS ?_;refine Z28 ?_;refine sk_drawL Tryz.cfgOk hS ?_;refine dK 2 ?_;refine dE (v := .int .i64 (IntKind.wrap .i64 (1 + ((i : Nat) : Int)))) (.int .i64 ((1 + i : Nat) : Int)) (congrArg (Value.int .i64) (Z2t Z4 Z4)) ?_;refine dM (indexAddrV Tryz.cfg 41 (slL 1 1 ((Z2e 32 tx).length)) (.int .i64 ((1 + i : Nat) : Int))) (.pointer (some ⟨1, (1 + i) * 1, some (((Z2e 32 tx).length) * 1)⟩)) (idx_rowL Z3 Z4) ?_;refine dM (loadV Tryz.cfg ((((St.empty 0).new (.cells [.int .i64 0, .int .i64 0, .int .i64 0, .int .i64 0, .int .i64 0, .int .i64 0])).new (rowL Z2h (Z2e 32 tx))).new (.cells (Z29 r))) 9 (.pointer (some ⟨1, (1 + i) * 1, some (((Z2e 32 tx).length) * 1)⟩))) (.string (bstr (wdW tx (1 + i)))) (load_rowL1 (o := 0) (l := Z2e 32 tx) Z3 tcells_len Z3 (wdW_at (i := (1 + i)) Z0w) rfl) ?_;have hx7l : i < (shp (opN (wdW tx 0))).length := by first | exact split_pos _ _ | omega
     refine Exists.elim (get_ex hx7l) fun x7 hx7 => ?_
     clear hx7l;refine dK 2 ?_;refine dM (indexV Tryz.cfg 9 (.string (bstr (shp (opN (wdW tx 0))))) (.int .i64 ((i : Nat) : Int))) (.int .u8 ((x7.toNat : Nat) : Int)) (Z2k Z3 hx7) ?_;by_cases q8 : takP x7 (wdW tx (1 + i))
     ·
      refine dC 29 [.string (bstr (wdW tx (1 + i))), .int .u8 ((x7.toNat : Nat) : Int)] (.tuple #[.int .i64 (takN x7 (wdW tx (1 + i))), .bool true]) _ rfl (rc_eq (hC29 _ _ _ _ (con_taken_at (wdW tx (1 + i)) x7 Z0l _)) (taken_t q8)) ?_;refine dK 5 ?_;refine ald_nil ?_;refine Z28 (Z28 ?_);refine kK Tryz.cfgOk hS ?_;refine kF ?_;refine Z2c ?_;refine Z27 Tryz.cfgOk hS ?_;refine aK 2 ?_;refine aM (indexV Tryz.cfg 9 (.string (bstr (shp (opN (wdW tx 0))))) (.int .i64 ((i : Nat) : Int))) (.int .u8 ((x7.toNat : Nat) : Int)) (Z2k Z3 hx7) ?_;refine aC 30 [.pointer (some ⟨2, 0, none⟩), .int .u8 ((x7.toNat : Nat) : Int)] (.pointer (some ⟨2, (offL x7), none⟩)) _ rfl (hC30 _ _ _ _ (con_field_at x7 r 2  _ Z3 Z3 )) ?_;refine aK 2 ?_;refine al_opF (v := undef) (s1 := ((((St.empty 0).new (.cells [.int .i64 0, .int .i64 0, .int .i64 0, .int .i64 0, .int .i64 0, .int .i64 0])).new (rowL Z2h (Z2e 32 tx))).new (.cells (Z29 r))).set 2 (.cells (Z29 (setF x7 (takN x7 (wdW tx (1 + i))) r)))) Z3 Z3 (Eq.trans (b := (storeV Tryz.cfg ((((St.empty 0).new (.cells [.int .i64 0, .int .i64 0, .int .i64 0, .int .i64 0, .int .i64 0, .int .i64 0])).new (rowL Z2h (Z2e 32 tx))).new (.cells (Z29 r))) 3 (.pointer (some ⟨2, (offL x7), none⟩)) (.int .i64 (takN x7 (wdW tx (1 + i))))).map fun s8 => (undef, s8)) Z3 (congrArg (Option.map fun s8 => (undef, s8)) (store_sym Z3 (cs := Z29 r) (cs2 := Z29 (setF x7 (takN x7 (wdW tx (1 + i))) r)) rfl rfl Z3 (offL_lt x7) (setF_at x7 (takN x7 (wdW tx (1 + i))) r)))) ?_;refine Z2f ?_;refine Z27 Tryz.cfgOk hS ?_;refine aE (v := .int .i64 (IntKind.wrap .i64 (((i : Nat) : Int) + 1))) (.int .i64 ((i + 1 : Nat) : Int)) (congrArg (Value.int .i64) (Z2t Z4 Z4)) ?_;refine aN ?_;refine .inl ⟨(i + 1, (setF x7 (takN x7 (wdW tx (1 + i))) r)), rfl, ⟨?_, ?_, ?_⟩, ?_, ⟨Z3, ⟨Z3, Z3, Z3, Z3, Z3, Z3, trivial⟩, ⟨.ptr ⟨Zj, rfl⟩, .slice ⟨Zj, rfl⟩, .ptr ⟨Zj, rfl⟩, sub_clo rfl, sub_clo rfl, sub_clo rfl, trivial⟩, Zle, ⟨Z3, ((((Z2d 0).new _).new _).new _), (selfs (all_cons (o := .cells [.int .i64 0, .int .i64 0, .int .i64 0, .int .i64 0, .int .i64 0, .int .i64 0]) Z3 (OSub.cells (.cons (sub_clo rfl) (.cons (sub_clo rfl) (.cons (sub_clo rfl) (.cons (sub_clo rfl) (.cons (sub_clo rfl) (.cons (sub_clo rfl) .nil))))))) (all_cons (o := rowL Z2h (Z2e 32 tx)) Z3 (OSub.arr (subs_clo (Z2o tcells_clo))) (all_cons (o := .cells (Z29 (setF x7 (takN x7 (wdW tx (1 + i))) r))) Z3 (OSub.cells (subs_clo (Z2i _))) (Z2g)))))⟩, Z2n Z3⟩⟩
      ·(try dsimp only); omega
      ·(try dsimp only); exact NoI.succ (p := fun z : Nat => badT tx z) Z2 (badT_not Z2 Z2)
      ·(try dsimp only); rw [i2]; exact (cF_succ Z2).symm
      ·omega
     ·
      refine dC 29 [.string (bstr (wdW tx (1 + i))), .int .u8 ((x7.toNat : Nat) : Int)] (.tuple #[.int .i64 (takN x7 (wdW tx (1 + i))), .bool false]) _ rfl (rc_eq (hC29 _ _ _ _ (con_taken_at (wdW tx (1 + i)) x7 Z0l _)) (taken_f q8)) ?_;refine dK 5 ?_;refine ald_nil ?_;refine Z28 (Z28 ?_);refine kK Tryz.cfgOk hS ?_;refine kT ?_;refine Z28 ?_;refine kK Tryz.cfgOk hS ?_;refine Z2a ?_;refine .inr ⟨_, _, (fun h => Z02), .inr ⟨rfl, ?_, rfl, rfl⟩, ⟨Z3, ⟨Z3, Z3, trivial⟩, ⟨.ptr ⟨Zj, rfl⟩, sub_clo rfl, trivial⟩, Zle, ⟨Z3, ((((Z2d 0).new _).new _).new _), (selfs (all_cons (o := .cells [.int .i64 0, .int .i64 0, .int .i64 0, .int .i64 0, .int .i64 0, .int .i64 0]) Z3 (OSub.cells (.cons (sub_clo rfl) (.cons (sub_clo rfl) (.cons (sub_clo rfl) (.cons (sub_clo rfl) (.cons (sub_clo rfl) (.cons (sub_clo rfl) .nil))))))) (all_cons (o := rowL Z2h (Z2e 32 tx)) Z3 (OSub.arr (subs_clo (Z2o tcells_clo))) (all_cons (o := .cells (Z29 r)) Z3 (OSub.cells (subs_clo (Z2i _))) (Z2g)))))⟩, Z2n Z3⟩⟩
      ·exact ⟨Z4, _, Z2, Z2⟩
    ·have c6e : (decide ((((i : Nat) : Int) : Int) < (((shp (opN (wdW tx 0))).length : Nat) : Int))) = false := Eq.trans Z3 h5;clear h5;have c6 : ¬ (((i : Nat) : Int) : Int) < (((shp (opN (wdW tx 0))).length : Nat) : Int) := of_decide_eq_false c6e;clear c6e;refine Z2f ?_;refine Z28 ?_;refine kF ?_;refine sk_exit ?_;dsimp only;refine .inr ⟨_, _, (fun h => Z02), .inl ⟨rfl, ?_, rfl, rfl⟩, ⟨Z3, ⟨Z3, Z3, Z3, Z3, Z3, Z3, trivial⟩, ⟨.ptr ⟨Zj, rfl⟩, .slice ⟨Zj, rfl⟩, .ptr ⟨Zj, rfl⟩, sub_clo rfl, sub_clo rfl, sub_clo rfl, trivial⟩, Zle, ⟨Z3, ((((Z2d 0).new _).new _).new _), (selfs (all_cons (o := .cells [.int .i64 0, .int .i64 0, .int .i64 0, .int .i64 0, .int .i64 0, .int .i64 0]) Z3 (OSub.cells (.cons (sub_clo rfl) (.cons (sub_clo rfl) (.cons (sub_clo rfl) (.cons (sub_clo rfl) (.cons (sub_clo rfl) (.cons (sub_clo rfl) .nil))))))) (all_cons (o := rowL Z2h (Z2e 32 tx)) Z3 (OSub.arr (subs_clo (Z2o tcells_clo))) (all_cons (o := .cells (Z29 r)) Z3 (OSub.cells (subs_clo (Z2i _))) (Z2g)))))⟩, Z2n Z3⟩⟩
     ·omega
   ·exact ⟨Zx, Z0n, Z04⟩
   rintro o e1 s1 ⟨a, lv1, M1, m4, ha, (⟨rfl, hx, rfl, rfl⟩ | ⟨rfl, hx, rfl, rfl⟩), rfl, rfl⟩
   ·
    obtain ⟨i, r⟩ := a;obtain ⟨i0, i1, i2⟩ := ha;dsimp only at hx i0 i1 i2;dsimp only;try rw [if_pos rfl]
    refine Z28 ?_;refine kK Tryz.cfgOk hS ?_;refine Z2a ?_;exact ⟨[.agg #[.int .i64 r.1, .int .i64 r.2.1, .int .i64 r.2.2.1, .int .i64 r.2.2.2.1, .int .i64 r.2.2.2.2.1, .int .i64 r.2.2.2.2.2], .bool true], Z3, fs_to (.tuple (.cons (.agg (.cons (.same (sub_clo rfl)) (.cons (.same (sub_clo rfl)) (.cons (.same (sub_clo rfl)) (.cons (.same (sub_clo rfl)) (.cons (.same (sub_clo rfl)) (.cons (.same (sub_clo rfl)) (.nil)))))))) (.cons (.same (sub_clo rfl)) (.nil)))) (show (.tuple #[.agg #[.int .i64 r.1, .int .i64 r.2.1, .int .i64 r.2.2.1, .int .i64 r.2.2.2.1, .int .i64 r.2.2.2.2.1, .int .i64 r.2.2.2.2.2], .bool true] : Value) = codeR tx by first | exact (codeR_end Z2 Z4 Z2 Z2 hx Z2).symm | exact (codeR_f (fun q => q.2.2 _ hx.1 hx.2)).symm | exact (codeR_f (fun q => absurd q.1 Z2)).symm | exact (codeR_f (fun q => absurd q.2.1 Z4)).symm), Zle⟩
   ·
    obtain ⟨i, r⟩ := a;obtain ⟨i0, i1, i2⟩ := ha;dsimp only at hx i0 i1 i2;dsimp only;exact ⟨[.agg #[.int .i64 0, .int .i64 0, .int .i64 0, .int .i64 0, .int .i64 0, .int .i64 0], .bool false], Z3, fs_to (.tuple (.cons (.agg (.cons (.same (sub_clo rfl)) (.cons (.same (sub_clo rfl)) (.cons (.same (sub_clo rfl)) (.cons (.same (sub_clo rfl)) (.cons (.same (sub_clo rfl)) (.cons (.same (sub_clo rfl)) (.nil)))))))) (.cons (.same (sub_clo rfl)) (.nil)))) (show (.tuple #[.agg #[.int .i64 0, .int .i64 0, .int .i64 0, .int .i64 0, .int .i64 0, .int .i64 0], .bool false] : Value) = codeR tx by first | exact (codeR_end Z2 Z4 Z2 Z2 hx Z2).symm | exact (codeR_f (fun q => q.2.2 _ hx.1 hx.2)).symm | exact (codeR_f (fun q => absurd q.1 Z2)).symm | exact (codeR_f (fun q => absurd q.2.1 Z4)).symm), Zle⟩
 ·
  refine aC 28 [.int .i64 (opN (wdW tx 0))] (.tuple #[.string (bstr (shp (opN (wdW tx 0)))), .bool false]) _ rfl (rc_eq (hC28 _ _ _ _ (con_shape_at (opN (wdW tx 0))  _)) (shape_f q1)) ?_;refine aN ?_;refine Z28 (Z28 ?_);refine kK Tryz.cfgOk hS ?_;refine kT ?_;refine Z28 ?_;refine kK Tryz.cfgOk hS ?_;refine Z2a ?_;exact ⟨[.agg #[.int .i64 0, .int .i64 0, .int .i64 0, .int .i64 0, .int .i64 0, .int .i64 0], .bool false], Z3, fs_to (.tuple (.cons (.agg (.cons (.same (sub_clo rfl)) (.cons (.same (sub_clo rfl)) (.cons (.same (sub_clo rfl)) (.cons (.same (sub_clo rfl)) (.cons (.same (sub_clo rfl)) (.cons (.same (sub_clo rfl)) (.nil)))))))) (.cons (.same (sub_clo rfl)) (.nil)))) (show (.tuple #[.agg #[.int .i64 0, .int .i64 0, .int .i64 0, .int .i64 0, .int .i64 0, .int .i64 0], .bool false] : Value) = codeR tx by first | exact (codeR_end Z2 Z4 Z2 Z2 hx Z2).symm | exact (codeR_f (fun q => q.2.2 _ hx.1 hx.2)).symm | exact (codeR_f (fun q => absurd q.1 Z2)).symm | exact (codeR_f (fun q => absurd q.2.1 Z4)).symm), Zle⟩
noncomputable def con_codew : Con Tryz.prog 135000004004000 := Con.pure (α := (List UInt8)) 14 (fun z9 => [.string (bstr z9)]) (fun z9 => codeR z9) (fun z9 => (z9.length ≤ 100000) ∧ (0 < (Z2e 32 z9).length) ∧ ((shp (opN (wdW z9 0))).length ≤ 5)) (by
 intro x y h
 simp only [injA, bstr_iff] at h
 first | exact h | (simp only [Prod.ext_iff, h, and_self, and_true, true_and]; done) | simp_all [Prod.ext_iff]) (fun _ => rfl) (fun z9 => codeR_clo z9) 400 (by
 rintro x ⟨p0, p1, p2⟩
 exact codew_sc x p0 p1 p2)
theorem con_codew_at (tx : List UInt8) (h0 : tx.length ≤ 100000) (h1 : 0 < (Z2e 32 tx).length) (h2 : (shp (opN (wdW tx 0))).length ≤ 5) (s : St) : con_codew.rel [.string (bstr tx)] s (codeR tx) s := con_pure tx ⟨h0, h1, h2⟩ s
end Go.Proofs.YtgplkbfjlidinabGreatDoor