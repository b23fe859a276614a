/- The document's instruction of a line is the program's: plain Lean. -/
import Derived.Test.YtgplkbfjlidinabGreatDoorRCode
import Derived.Test.YtgplkbfjlidinabGreatDoorKit
set_option linter.unusedVariables false
set_option linter.unusedSimpArgs false
set_option linter.unnecessarySimpa false
namespace Go.Proofs.YtgplkbfjlidinabGreatDoor
open Go.Ai
theorem rop_hit (w : List UInt8) : ∀ i, rOpI w i = -1 ∨ (0 ≤ rOpI w i ∧ wordB (rOpI w i) = w)
  | 0 => .inl rfl
  | i + 1 => by
    rw [rOpI];split
    · rename_i h; exact .inr ⟨Z4, h⟩
    · exact rop_hit w i
theorem rop_none {w : List UInt8} : ∀ i, rOpI w i = -1 → ∀ j, j < i → ¬ wordB ((j : Nat) : Int) = w
  | 0, _, j, hj => absurd hj (Nat.not_lt_zero _)
  | i + 1, h, j, hj => by
    rw [rOpI] at h;split at h
    · omega
    · rename_i hn
      by_cases e : j = i
      · subst e; exact hn
      · exact rop_none i h j Z4
theorem opN_spec (w : List UInt8) : opN w = -1 ∨ (0 ≤ opN w ∧ opN w < 16 ∧ wordB (opN w) = w) := by
 by_cases h : w ∈ wordsL
 ·obtain ⟨i, hi⟩ := List.getElem?_of_mem h;have hl := (List.getElem?_eq_some_iff.1 hi).1;rw [wordsL_len] at hl;have e : wordB ((i : Nat) : Int) = w := wordB_at Z4 Z1z;have q := op_word (op := ((i : Nat) : Int)) ⟨Z4, Z4⟩;rw [e] at q;exact .inr ⟨Z4, Z4, by rw [q]; exact e⟩
 ·exact .inl (fidx_none fun ⟨x, h1, h2⟩ => h (h2 ▸ h1))
theorem rop_opN (s : List UInt8) : rop s = opN (wdW s 0) := by
 unfold rop;rcases rop_hit (wdW s 0) 16 with h | ⟨h1, h2⟩
 ·rcases opN_spec (wdW s 0) with g | ⟨g0, g1, g2⟩
  ·rw [h, g]
  ·have := rop_none 16 h (opN (wdW s 0)).toNat Z4;rw [Int.toNat_of_nonneg g0] at this;exact absurd g2 this
 ·have := rop_lt (wdW s 0) 16;have q := op_word (op := rOpI (wdW s 0) 16) ⟨h1, Z4⟩;rw [h2] at q;exact q.symm
abbrev letP (x : UInt8) : Prop := x.toNat = 97 ∨ x.toNat = 98 ∨ x.toNat = 99 ∨ x.toNat = 115 ∨ x.toNat = 116 ∨ x.toNat = 107 ∨ x.toNat = 106 ∨ x.toNat = 110
theorem shp_let {op : Int} {x : UInt8} (h : x ∈ shp op) : letP x := by
 by_cases h0 : 0 ≤ op ∧ op ≤ 15
 ·revert h
  revert x
  rcases shp_ops h0 with rfl | rfl | rfl | rfl | rfl | rfl | rfl | rfl | rfl | rfl | rfl | rfl | rfl | rfl | rfl | rfl <;> decide
 ·rw [shp_none h0] at h; cases h
theorem shp_pw (op : Int) : (shp op).Pairwise fun a b => offL a ≠ offL b := by
 by_cases h0 : 0 ≤ op ∧ op ≤ 15
 ·rcases shp_ops h0 with rfl | rfl | rfl | rfl | rfl | rfl | rfl | rfl | rfl | rfl | rfl | rfl | rfl | rfl | rfl | rfl <;> decide
 ·rw [shp_none h0]; exact .nil
theorem mark_drop {b : UInt8} {w : List UInt8} (h : markP [b] w) : w.drop 1 = cutR [b] w := by rw [cutR, if_pos h.1]; rfl
theorem mark_back {b : UInt8} {w : List UInt8} (h : markP [b] w) : b :: Lib.itoa (atN (cutR [b] w)) = w := by
 rw [(num_ok h.2).2];obtain ⟨⟨r, rfl⟩, _⟩ := h;rw [cut_pre];rfl
theorem rel_back {w : List UInt8} (h : relP w) : relB (relN w) = w ∧ rSg w (rnN w) 4 = relN w := by
 obtain ⟨n, h0, h1, rfl⟩ := h;rw [(rel_rel ⟨h0, h1⟩).2];refine ⟨rfl, ?_⟩;generalize rnN (relB n) = c
 rcases (by omega : n = 0 ∨ n = 1 ∨ n = 2 ∨ n = 3) with rfl | rfl | rfl | rfl <;> rfl
theorem rtak_takN {x : UInt8} {w : List UInt8} (hx : letP x) (h : takP x w) : rTak x w = takN x w := by
 unfold takP at h;unfold takN rTak;rcases hx with e | e | e | e | e | e | e | e
 ·rw [if_pos Z4] at h; rw [if_neg Z4, if_neg Z4, if_pos Z4, mark_drop h, rn_t h.2]
 ·rw [if_pos Z4] at h; rw [if_neg Z4, if_neg Z4, if_pos Z4, mark_drop h, rn_t h.2]
 ·rw [if_pos Z4] at h; rw [if_neg Z4, if_neg Z4, if_pos Z4, mark_drop h, rn_t h.2]
 ·rw [if_neg Z4, if_neg Z4, if_neg Z4] at h; rw [if_neg Z4, if_pos Z4, if_neg Z4, if_neg Z4, if_neg Z4, rn_t h]
 ·rw [if_neg Z4, if_pos Z4] at h; rw [if_neg Z4, if_neg Z4, if_neg Z4, if_pos Z4, mark_drop h, rn_t h.2]
 ·rw [if_neg Z4, if_neg Z4, if_neg Z4] at h; rw [if_neg Z4, if_pos Z4, if_neg Z4, if_neg Z4, if_neg Z4, rn_t h]
 ·rw [if_neg Z4, if_neg Z4, if_pos Z4] at h; rw [if_pos Z4, if_neg Z4, if_neg Z4, if_pos Z4]; exact (rel_back h).2
 ·rw [if_neg Z4, if_neg Z4, if_neg Z4] at h; rw [if_neg Z4, if_pos Z4, if_neg Z4, if_neg Z4, if_neg Z4, rn_t h]
theorem take_back {x : UInt8} {w : List UInt8} (h : takP x w) : wordP x (takN x w) = w := by
 unfold takP at h;unfold takN wordP;split
 ·rename_i e; rw [if_pos e] at h; exact mark_back h
 ·rename_i e;rw [if_neg e] at h;split
  ·rename_i e1; rw [if_pos e1] at h; exact mark_back h
  ·rename_i e1;rw [if_neg e1] at h;split
   ·rename_i e2; rw [if_pos e2] at h; exact (rel_back h).1
   ·rename_i e2; rw [if_neg e2] at h; exact (num_ok h).2
theorem takP_word {x : UInt8} {n : Int} (hn : in64 n) (hj : x.toNat = 106 → 0 ≤ n ∧ n ≤ 3) : takP x (wordP x n) := by
 unfold takP wordP;split
 ·exact (mark_itoa (m := [114]) hn).1
 ·split
  ·exact (mark_itoa (m := [116]) hn).1
  ·split
   ·rename_i e; exact (rel_rel (hj e)).1
   ·exact ⟨n, hn, rfl⟩
def gF (T : UInt8 → List UInt8 → Int) (op : Int) (s : List UInt8) : Nat → Code
  | 0 => (op, 0, 0, 0, 0, 0)
  | i + 1 => match (shp op)[i]? with
    | some x => setF x (T x (wdW s (1 + i))) (gF T op s i)
    | none => gF T op s i
theorem gF_succ {T : UInt8 → List UInt8 → Int} {op : Int} {s : List UInt8} {i : Nat} {x : UInt8} (h : (shp op)[i]? = some x) : gF T op s (i + 1) = setF x (T x (wdW s (1 + i))) (gF T op s i) := by
 show (match (shp op)[i]? with | some x => setF x (T x (wdW s (1 + i))) (gF T op s i) | none => gF T op s i) = _;rw [h]
theorem cF_g (op : Int) (s : List UInt8) : ∀ i, cF op s i = gF takN op s i
  | 0 => rfl
  | i + 1 => by
    show (match (shp op)[i]? with | some x => setF x (takN x (wdW s (1 + i))) (cF op s i) | none => cF op s i) = (match (shp op)[i]? with | some x => setF x (takN x (wdW s (1 + i))) (gF takN op s i) | none => gF takN op s i);rw [cF_g op s i]
theorem rF_g (op : Int) (s : List UInt8) : ∀ i, rF op s i = gF rTak op s i
  | 0 => rfl
  | i + 1 => by
    show (match (shp op)[i]? with | some x => setF x (rTak x (wdW s (1 + i))) (rF op s i) | none => rF op s i) = (match (shp op)[i]? with | some x => setF x (rTak x (wdW s (1 + i))) (gF rTak op s i) | none => gF rTak op s i);rw [rF_g op s i]
theorem setF_op (x : UInt8) (n : Int) (c : Code) : (setF x n c).1 = c.1 := by unfold setF; (repeat' split) <;> rfl
theorem gF_op (T : UInt8 → List UInt8 → Int) (op : Int) (s : List UInt8) : ∀ i, (gF T op s i).1 = op
  | 0 => rfl
  | i + 1 => by
    show (match (shp op)[i]? with | some x => setF x (T x (wdW s (1 + i))) (gF T op s i) | none => gF T op s i).1 = op;split
    · rw [setF_op, gF_op T op s i]
    · exact gF_op T op s i
theorem fld_same (x : UInt8) (n : Int) (c : Code) : fld x (setF x n c) = n := by unfold fld setF; (repeat' split) <;> rfl
theorem fld_other {x y : UInt8} {n : Int} {c : Code} (h : offL x ≠ offL y) : fld x (setF y n c) = fld x c := by
 unfold offL at h;unfold fld setF
 (repeat' split) <;> first | rfl | (exfalso; (repeat' split at h) <;> omega)
theorem gF_fld {T : UInt8 → List UInt8 → Int} {op : Int} {s : List UInt8} : ∀ k i x, k ≤ (shp op).length → i < k → (shp op)[i]? = some x → fld x (gF T op s k) = T x (wdW s (1 + i))
  | 0, _, _, _, h, _ => absurd h (Nat.not_lt_zero _)
  | k + 1, i, x, hk, hi, hx => by
    obtain ⟨y, hy⟩ : ∃ y, (shp op)[k]? = some y := ⟨_, List.getElem?_eq_getElem Z4⟩;rw [gF_succ hy];by_cases e : i = k
    · subst e
      obtain rfl : x = y := Option.some.inj (hx.symm.trans hy);exact fld_same _ _ _
    · have hp := List.pairwise_iff_getElem.1 (shp_pw op) i k Z4 Z4 Z4
      rw [(List.getElem?_eq_some_iff.1 hx).2, (List.getElem?_eq_some_iff.1 hy).2] at hp;rw [fld_other hp];exact gF_fld k i x Z4 Z4 hx
theorem un_inj {b : UInt8} {s t : List UInt8} (h : Z2e b s = Z2e b t) : s = t := by
 rw [split_pcs, split_pcs] at h;rw [← pcs_un b s, h, pcs_un]
theorem not_bad {s : List UInt8} {i : Nat} {x : UInt8} (h : codeP s) (hx : (shp (opN (wdW s 0)))[i]? = some x) : takP x (wdW s (1 + i)) := by
 have hi := (List.getElem?_eq_some_iff.1 hx).1;refine Classical.byContradiction fun q => h.2.2 i hi ⟨x, hx, q⟩
theorem line_code {s : List UInt8} (h : codeP s) : lineR (cV s) = s := by
  have ho : (cV s).1 = opN (wdW s 0) := by rw [cV, cF_g, gF_op]
  have hs : shp (cV s).1 ≠ [] := by rw [ho]; exact shp_ne h.1
  have hw : wordB (opN (wdW s 0)) = wdW s 0 := by
    rcases opN_spec (wdW s 0) with g | g
    · have := h.1.1; omega
    · exact g.2.2
  refine un_inj (b := 32) ?_;rw [split_line hs, ho, hw];refine List.ext_getElem? fun i => ?_
  cases i with
  | zero => rw [wdW_at (split_pos 32 s)]; rfl
  | succ i =>
    rw [List.getElem?_cons_succ, List.getElem?_map];by_cases hi : i < (shp (opN (wdW s 0))).length
    · obtain ⟨x, hx⟩ : ∃ x, (shp (opN (wdW s 0)))[i]? = some x := ⟨_, List.getElem?_eq_getElem hi⟩
      rw [hx, Nat.add_comm i 1, wdW_at (by rw [h.2.1]; omega)];show some (wordP x (fld x (cV s))) = _;rw [cV, cF_g, gF_fld _ _ _ (Nat.le_refl _) hi hx, take_back (not_bad h hx)]
    · rw [List.getElem?_eq_none Z4, List.getElem?_eq_none (by rw [h.2.1]; omega)]
      rfl
theorem rF_cF {s : List UInt8} (h : codeP s) : ∀ k, k ≤ (shp (opN (wdW s 0))).length → rF (opN (wdW s 0)) s k = cF (opN (wdW s 0)) s k
  | 0, _ => rfl
  | k + 1, hk => by
    obtain ⟨x, hx⟩ : ∃ x, (shp (opN (wdW s 0)))[k]? = some x := ⟨_, List.getElem?_eq_getElem Z4⟩;rw [rF_succ hx, cF_succ hx, rF_cF h k Z4, rtak_takN (shp_let (List.mem_of_getElem? hx)) (not_bad h hx)]
theorem rok_code {s : List UInt8} (h : codeP s) : rokP s := ⟨by rw [rop_opN]; exact h.1.1, by rw [rop_opN]; exact h.2.1⟩
theorem rc_code {s : List UInt8} (h : codeP s) : rcC s = cV s := by rw [rcC, tf_true (rok_code h), if_pos rfl, rop_opN, rF_cF h _ (Nat.le_refl _)]; rfl
theorem rn_63 : rnN [63] = 0 := (rn_no (fun ⟨n, _, h⟩ => by
 have := itoa_all n 63 (by rw [h]; exact List.mem_singleton.2 rfl);revert this
 decide)).symm
theorem relB_63 {n : Int} (h : ¬ (0 ≤ n ∧ n ≤ 3)) : relB n = [63] := by unfold relB; rw [if_neg Z4, if_neg Z4, if_neg Z4, if_neg Z4]
theorem code_rc {s : List UInt8} (h : rcP s) : codeP s := by
 obtain ⟨⟨h0, hl⟩, hs⟩ := h;have hr : rcC s = gF rTak (rop s) s (shp (rop s)).length := by rw [rcC, tf_true ⟨h0, hl⟩, if_pos rfl, rF_g]
 have ho : (rcC s).1 = rop s := by rw [hr, gF_op]
 have hop := rop_lt (wdW s 0) 16;have hrng : 0 ≤ rop s ∧ rop s ≤ 15 := ⟨h0, by unfold rop; omega⟩;have hne : shp (rcC s).1 ≠ [] := by rw [ho]; exact shp_ne hrng
 have key : ∀ i x, (shp (rop s))[i]? = some x → takP x (wdW s (1 + i)) := fun i x hx => by
  have q := wd_line hne (i := i) (x := x) (by rw [ho]; exact hx);rw [hs] at q;have hf : fld x (rcC s) = rTak x (wdW s (1 + i)) := by rw [hr, gF_fld _ _ _ (Nat.le_refl _) (List.getElem?_eq_some_iff.1 hx).1 hx]
  rw [hf] at q;rw [q];refine takP_word (rtak_in _ _) fun hj => Classical.byContradiction fun hn => ?_
  have hw : wdW s (1 + i) = [63] := by
   rw [q, wordP, if_neg Z4, if_neg Z4, if_pos hj, relB_63 hn]
  rw [hw, rTak, if_pos hj, rn_63] at hn;exact hn Zj
 rw [rop_opN] at *
 exact ⟨hrng, hl, fun i hi ⟨x, h1, h2⟩ => h2 (key i x h1)⟩
theorem rc_iff {s : List UInt8} : rcP s ↔ codeP s := ⟨code_rc, fun h => ⟨rok_code h, by rw [rc_code h]; exact line_code h⟩⟩
theorem rcode_t {tx : List UInt8} (h : codeP tx) : rcodeV tx = .tuple #[.agg #[.int .i64 (cV tx).1, .int .i64 (cV tx).2.1, .int .i64 (cV tx).2.2.1, .int .i64 (cV tx).2.2.2.1, .int .i64 (cV tx).2.2.2.2.1, .int .i64 (cV tx).2.2.2.2.2], .bool true] := by
 rw [rcodeV, tf_true (rc_iff.2 h), rc_code h]
theorem rcode_f {tx : List UInt8} (h : ¬ codeP tx) : rcodeV tx = .tuple #[.agg #[.int .i64 (rcC tx).1, .int .i64 (rcC tx).2.1, .int .i64 (rcC tx).2.2.1, .int .i64 (rcC tx).2.2.2.1, .int .i64 (rcC tx).2.2.2.2.1, .int .i64 (rcC tx).2.2.2.2.2], .bool false] := by
 rw [rcodeV, tf_false (fun q => h (rc_iff.1 q))]
theorem gF_in {T : UInt8 → List UInt8 → Int} (hT : ∀ x w, in64 (T x w)) {op : Int} {s : List UInt8} (h : in64 op) : ∀ i, inC (gF T op s i)
  | 0 => by
    have z : in64 0 := by unfold in64; omega
    exact ⟨h, z, z, z, z, z⟩
  | i + 1 => by
    show inC (match (shp op)[i]? with | some x => setF x (T x (wdW s (1 + i))) (gF T op s i) | none => gF T op s i);split
    · exact setF_in (gF_in hT h i) (hT _ _)
    · exact gF_in hT h i
theorem cV_in (s : List UInt8) : inC (cV s) := by
 have := rop_lt (wdW s 0) 16;have e := rop_opN s;rw [cV, cF_g];refine gF_in (fun x w => ?_) (by rw [← e]; exact rop_in s) _;have z : in64 0 := by unfold in64; omega
 unfold takN;split
 ·exact atN_in _
 ·split
  ·exact atN_in _
  ·split
   ·unfold relN
    (repeat' split) <;> (unfold in64; omega)
   ·exact atN_in _
end Go.Proofs.YtgplkbfjlidinabGreatDoor