/- The line of an instruction. -/
import Derived.Test.YtgplkbfjlidinabGreatDoorLine
import Derived.Test.YtgplkbfjlidinabGreatDoorAiCon
import Derived.Test.YtgplkbfjlidinabGreatDoorAiTab
import Derived.Test.YtgplkbfjlidinabGreatDoorKit
set_option linter.unusedVariables false
set_option linter.unusedSimpArgs false
set_option linter.unnecessarySimpa false
set_option maxHeartbeats 4000000
set_option maxRecDepth 100000
namespace Go.Proofs.YtgplkbfjlidinabGreatDoor
open Go.Ai
theorem words_split : Z2e 32 [115, 101, 116, 32, 109, 111, 118, 101, 32, 97, 100, 100, 32, 115, 117, 98, 32, 109, 117, 108, 32, 100, 105, 118, 32, 109, 111, 100, 32, 103, 101, 116, 32, 104, 97, 115, 32, 112, 117, 116, 32, 100, 101, 108, 32, 115, 117, 109, 32, 99, 111, 117, 110, 116, 32, 115, 107, 105, 112, 32, 97, 98, 111, 114, 116, 32, 111, 117, 116] = wordsL := Z3
theorem splitw_sc   : SC Tryz.prog 135000004004000 24 [.string (bstr [115, 101, 116, 32, 109, 111, 118, 101, 32, 97, 100, 100, 32, 115, 117, 98, 32, 109, 117, 108, 32, 100, 105, 118, 32, 109, 111, 100, 32, 103, 101, 116, 32, 104, 97, 115, 32, 112, 117, 116, 32, 100, 101, 108, 32, 115, 117, 109, 32, 99, 111, 117, 110, 116, 32, 115, 107, 105, 112, 32, 97, 98, 111, 114, 116, 32, 111, 117, 116]), .string (bstr [32])] (St.empty 0) fun v s' => ∃ σ : Nat → Nat, (∀ a, a < 0 → σ a = a) ∧ (∀ a, 0 ≤ a → a < 0 + 1 → 0 ≤ σ a ∧ σ a < s'.n) ∧ (∀ a b, a < 0 + 1 → b < 0 + 1 → σ a = σ b → a = b) ∧ v = slL (σ 0) 1 wordsL.length ∧ s'.n ≤ 400 ∧ ∀ a, a < 0 + 1 → s'.get (σ a) = some (objL [rowL Z2h wordsL] a) := by
 refine (split_sc split_lays Z3 (f := 24) rfl 32 [115, 101, 116, 32, 109, 111, 118, 101, 32, 97, 100, 100, 32, 115, 117, 98, 32, 109, 117, 108, 32, 100, 105, 118, 32, 109, 111, 100, 32, 103, 101, 116, 32, 104, 97, 115, 32, 112, 117, 116, 32, 100, 101, 108, 32, 115, 117, 109, 32, 99, 111, 117, 110, 116, 32, 115, 107, 105, 112, 32, 97, 98, 111, 114, 116, 32, 111, 117, 116] Zj rfl).up fun v s' h => ?_
 rw [words_split] at h;obtain ⟨rfl, rfl⟩ := h;exact ⟨id, fun _ _ => rfl, fun a h1 h2 => ⟨h1, by rw [St.n_new]; exact h2⟩, fun _ _ _ _ h => h, rfl, Zle, all1 Z3⟩
noncomputable def sm_splitw : SmallN Tryz.prog 135000004004000 24 (Unit) where
 k := 0
 m := 1
 A := fun z9 ρ => [.string (bstr [115, 101, 116, 32, 109, 111, 118, 101, 32, 97, 100, 100, 32, 115, 117, 98, 32, 109, 117, 108, 32, 100, 105, 118, 32, 109, 111, 100, 32, 103, 101, 116, 32, 104, 97, 115, 32, 112, 117, 116, 32, 100, 101, 108, 32, 115, 117, 109, 32, 99, 111, 117, 110, 116, 32, 115, 107, 105, 112, 32, 97, 98, 111, 114, 116, 32, 111, 117, 116]), .string (bstr [32])]
 M := fun z9 ρ => objL []
 M1 := fun z9 ρ => objL [rowL Z2h wordsL]
 V := fun z9 ρ => slL (ρ 0) 1 wordsL.length
 Pre := fun z9 => True
 ch := []
 N := 400
 s0 := fun z9 => (St.empty 0)
 hch := by decide
 hsame := fun x ρ => all0
 hG := rfl
 hn := fun x => rfl
 hwf := fun x => (Z2d 0)
 hget := fun x => all0
 noloop := fun x ρ => all0
 inA := fun x ρ R hR => .cons (sub_clo rfl) (.cons (sub_clo rfl) .nil)
 inM := fun x ρ R hR => all0
 outM := fun x σ ρ R hR => all1 (OSub.arr (subs_clo (Z2o tcells_clo)))
 outV := fun x σ ρ R hR => .slice (hR 0 _ (by decide))
 dom := by
  intro x ρ a ha
  cases ha
 sc := by
  rintro x _
  exact splitw_sc
 det := by
  rintro x ρ y σ s h hm hm'
  simp only [injA, injB] at h
  have q : ∀ a, a < 0 → ρ a = σ a := all0
  clear hm hm'
  exact ⟨by first | rfl | exact h | (simp_all [Prod.ext_iff]; done) | exact e0, q⟩
 par := by
  intro x ρ σ h
  have h0 := h 0 (by decide)
  exact ⟨by first | rfl | simp only [h0], by first | exact fun _ _ => rfl | (intro a ha; simp only [h0])⟩
noncomputable def con_splitw : Con Tryz.prog 135000004004000 := sm_splitw.con
theorem con_splitw_at  (i0 : Nat)  (s : St) (hn : nodupB [] = true)  (n0 : i0 = s.n + 0) : con_splitw.rel [.string (bstr [115, 101, 116, 32, 109, 111, 118, 101, 32, 97, 100, 100, 32, 115, 117, 98, 32, 109, 117, 108, 32, 100, 105, 118, 32, 109, 111, 100, 32, 103, 101, 116, 32, 104, 97, 115, 32, 112, 117, 116, 32, 100, 101, 108, 32, 115, 117, 109, 32, 99, 111, 117, 110, 116, 32, 115, 107, 105, 112, 32, 97, 98, 111, 114, 116, 32, 111, 117, 116]), .string (bstr [32])] s (slL i0 1 wordsL.length) (s.new (rowL Z2h wordsL)) :=
 sm_splitw.at_ () [i0] s _ trivial rfl hn rfl (all0 ) (new_all (p := fun a b => rhoL [i0] a = s.n + b) (all1 n0)) rfl rfl
theorem aword_fn : Tryz.cfg.fn 43 = some Tryz.f43 := Z3
theorem aword_sc (op : Int)  : SC Tryz.prog 135000004004000 43 [.int .i64 op] (St.empty 0) fun v s' => v = .tuple #[.string (bstr (wordB op)), .bool (decide (0 ≤ op ∧ op < 16))] ∧ s'.n ≤ 400 := by
 obtain ⟨rc, hS, hC⟩ := rc_con (Z2q Tryz.cfgOk 300) [con_splitw] Z3;have hC24 := hC con_splitw (.head _);refine sc_ice0 (N := 400) (v2 := .tuple #[.string (bstr (wordB op)), .bool (decide (0 ≤ op ∧ op < 16))]) (Q := fun v s' => FS 0 s' v (.tuple #[.string (bstr (wordB op)), .bool (decide (0 ≤ op ∧ op < 16))]) ∧ s'.n ≤ 400) ?_ (fun _ _ h => h);refine sc_body Tryz.cfgOk aword_fn rfl ?_;refine Z28 ?_;refine kK Tryz.cfgOk hS ?_;refine Z28 ?_;refine Z27 Tryz.cfgOk hS ?_;refine aC 24 [.string (bstr [115, 101, 116, 32, 109, 111, 118, 101, 32, 97, 100, 100, 32, 115, 117, 98, 32, 109, 117, 108, 32, 100, 105, 118, 32, 109, 111, 100, 32, 103, 101, 116, 32, 104, 97, 115, 32, 112, 117, 116, 32, 100, 101, 108, 32, 115, 117, 109, 32, 99, 111, 117, 110, 116, 32, 115, 107, 105, 112, 32, 97, 98, 111, 114, 116, 32, 111, 117, 116]), .string (bstr [32])] (slL 0 1 wordsL.length) _ rfl (hC24 _ _ _ _ (con_splitw_at  0  _ Z3 Z3 )) ?_;refine aN ?_;refine Z28 (Z28 ?_);refine Z27 Tryz.cfgOk hS ?_;refine aK 1 ?_;refine aT (fun h1 => ?_) (fun h1 => ?_)
 ·have c2e : (decide ((op : Int) < 0)) = true := Eq.trans Z3 h1;clear h1;have c2 : (op : Int) < 0 := of_decide_eq_true c2e;clear c2e;refine aN ?_;refine kT ?_;refine Z28 ?_;refine kK Tryz.cfgOk hS ?_;refine Z2a ?_;exact ⟨[.string (bstr []), .bool false], Z3, .tuple (.cons (fs_to (Z2b rfl) (congrArg Value.string Zm)) (.cons (fs_to (Z2b rfl) (congrArg Value.bool Zm)) (.nil))), Zle⟩
 ·have c2e : (decide ((op : Int) < 0)) = false := Eq.trans Z3 h1;clear h1;have c2 : ¬ (op : Int) < 0 := of_decide_eq_false c2e;clear c2e;refine aK 4 ?_;refine aT (fun h3 => ?_) (fun h3 => ?_)
  ·have c4e : (decide ((op : Int) ≥ ((wordsL.length : Nat) : Int))) = true := Eq.trans Z3 h3;clear h3;have c4 : (op : Int) ≥ ((wordsL.length : Nat) : Int) := of_decide_eq_true c4e;clear c4e;refine aN ?_;refine kT ?_;refine Z28 ?_;refine kK Tryz.cfgOk hS ?_;refine Z2a ?_;exact ⟨[.string (bstr []), .bool false], Z3, .tuple (.cons (fs_to (Z2b rfl) (congrArg Value.string Zm)) (.cons (fs_to (Z2b rfl) (congrArg Value.bool Zm)) (.nil))), Zle⟩
  ·have c4e : (decide ((op : Int) ≥ ((wordsL.length : Nat) : Int))) = false := Eq.trans Z3 h3;clear h3;have c4 : ¬ (op : Int) ≥ ((wordsL.length : Nat) : Int) := of_decide_eq_false c4e;clear c4e;refine aN ?_;refine kF ?_;refine Z2c (Z28 ?_);refine Z27 Tryz.cfgOk hS ?_;refine aK 2 ?_;refine aM (indexAddrV Tryz.cfg 41 (slL 0 1 wordsL.length) (.int .i64 op)) (.pointer (some ⟨0, op.toNat * 1, some (wordsL.length * 1)⟩)) (idx_rowI Z3 Z4 Z03) ?_;have hx5l : op.toNat < wordsL.length := by have := wordsL_len; omega
   refine Exists.elim (get_ex hx5l) fun x5 hx5 => ?_
   clear hx5l;refine aM (loadV Tryz.cfg ((St.empty 0).new (rowL Z2h wordsL)) 9 (.pointer (some ⟨0, op.toNat * 1, some (wordsL.length * 1)⟩))) (.string (bstr x5)) (load_rowL1 (o := 0) (l := wordsL) Z3 tcells_len Z3 hx5 rfl) ?_;refine aN ?_;refine Z2a ?_;exact ⟨[.string (bstr x5), .bool true], Z3, .tuple (.cons (fs_to (Z2b rfl) (congrArg Value.string Zm)) (.cons (fs_to (Z2b rfl) (congrArg Value.bool Zm)) (.nil))), Zle⟩
noncomputable def con_aword : Con Tryz.prog 135000004004000 := Con.pure (α := Int) 43 (fun z9 => [.int .i64 z9]) (fun z9 => .tuple #[.string (bstr (wordB z9)), .bool (decide (0 ≤ z9 ∧ z9 < 16))]) (fun z9 => True) (by
 intro x y h
 simp only [injA] at h
 first | exact h | (simp only [Prod.ext_iff, h, and_self, and_true, true_and]; done) | simp_all [Prod.ext_iff]) (fun _ => rfl) (fun _ => rfl) 400 (by
 rintro x _
 exact aword_sc x )
theorem con_aword_at (op : Int)  (s : St) : con_aword.rel [.int .i64 op] s (.tuple #[.string (bstr (wordB op)), .bool (decide (0 ≤ op ∧ op < 16))]) s := con_pure op trivial s
end Go.Proofs.YtgplkbfjlidinabGreatDoor