/- What is printed is parsed to the same: plain Lean. -/
import Derived.Test.YtgplkbfjlidinabDoorParse
import Derived.Test.YtgplkbfjlidinabDoorInj
import Derived.Test.YtgplkbfjlidinabDoorKit
set_option linter.unusedVariables false
set_option linter.unusedSimpArgs false
set_option linter.unnecessarySimpa false
namespace Go.Proofs.YtgplkbfjlidinabDoor
open Go.Ai
theorem split_lines : ∀ co : List Code, pcs 10 (linesB co) = co.map lineR ++ [[]]
  | [] => rfl
  | c :: co => by
    rw [lines_cons, pcs_app (line_all c), split_lines co];rfl
theorem split_print (fu : Int) (co : List Code) : Z24 10 (printR fu co) = ([102, 117, 101, 108, 32] ++ Lib.itoa fu) :: (co.map lineR ++ [[]]) := by
 rw [split_pcs, ← split_lines];refine pcs_app (a := [102, 117, 101, 108, 32] ++ Lib.itoa fu) fun x hx => ?_
 rcases List.mem_append.1 hx with hx | hx
 ·exact (by decide : ∀ y ∈ ([102, 117, 101, 108, 32] : List UInt8), y ≠ 10) x hx
 ·exact ne_of_ge (k := 10) (by have := itoa_all fu x hx; omega) Zi
theorem print_pieces (fu : Int) (co : List Code) : (Z24 10 (printR fu co)).length = co.length + 2 := by rw [split_print]; simp
theorem print_end (fu : Int) (co : List Code) : lnS (printR fu co) ((Z24 10 (printR fu co)).length - 1) = [] := by
 unfold lnS;rw [print_pieces, split_print];show ((([102, 117, 101, 108, 32] ++ Lib.itoa fu) :: (co.map lineR ++ [[]]))[co.length + 1]?).getD [] = [];rw [List.getElem?_cons_succ, List.getElem?_append_right Z0p];simp
theorem print_lines (fu : Int) (co : List Code) : Z28 (printR fu co) = ([102, 117, 101, 108, 32] ++ Lib.itoa fu) :: co.map lineR := by
 rw [Z28, if_pos (print_end fu co), print_pieces, split_print];show ([102, 117, 101, 108, 32] ++ Lib.itoa fu) :: ((co.map lineR ++ [[]]).take co.length) = _;rw [List.take_append_of_le_length Z0p, List.take_of_length_le Z0p]
theorem print_whole (fu : Int) (co : List Code) : wholeP (printR fu co) := ⟨print_end fu co, by rw [print_pieces]; omega⟩
theorem split_tail (c : Code) : ∀ (l : List UInt8), pcs 32 (tailB l c) = [] :: l.map fun x => wordP x (fld x c)
  | [] => rfl
  | z :: l => by
    have h := split_tail c l;rw [tail_cons];have e : ∀ r, pcs 32 (32 :: r) = [] :: pcs 32 r := fun r => by
      show (if (32 : UInt8) = 32 then _ else _) = _;rw [if_pos rfl]
    rw [e];have hw : ∀ x ∈ wordP z (fld z c), x ≠ 32 := fun w hw => ne_of_ge (k := 32) (wordP_all _ _ w hw) Zi
    cases l with
    | nil => rw [show tailB [] c = [] from rfl, List.append_nil, pcs_no hw]; rfl
    | cons y l =>
      rw [tail_cons] at h ⊢;rw [pcs_app hw];rw [e] at h;have h := (List.cons.inj h).2;rw [h];rfl
theorem split_line {c : Code} (hs : shp c.1 ≠ []) : Z24 32 (lineR c) = wordB c.1 :: (shp c.1).map fun x => wordP x (fld x c) := by
  rw [split_pcs];unfold lineR;have hw : ∀ x ∈ wordB c.1, x ≠ 32 := fun w hw => ne_of_ge (k := 32) (wordB_all _ w hw) Zi
  have h := split_tail c (shp c.1);cases hl : shp c.1 with
  | nil => exact absurd hl hs
  | cons z l =>
    rw [hl] at h;rw [tail_cons] at h ⊢;rw [pcs_app hw];have e : ∀ r, pcs 32 (32 :: r) = [] :: pcs 32 r := fun r => by
      show (if (32 : UInt8) = 32 then _ else _) = _;rw [if_pos rfl]
    rw [e] at h;rw [(List.cons.inj h).2]
theorem shp_ne {op : Int} (h : 0 ≤ op ∧ op ≤ 15) : shp op ≠ [] := by
 rcases shp_ops h with rfl | rfl | rfl | rfl | rfl | rfl | rfl | rfl | rfl | rfl | rfl | rfl | rfl | rfl | rfl | rfl <;> decide
theorem op_word {op : Int} (h : 0 ≤ op ∧ op ≤ 15) : opN (wordB op) = op := by
 rcases shp_ops h with rfl | rfl | rfl | rfl | rfl | rfl | rfl | rfl | rfl | rfl | rfl | rfl | rfl | rfl | rfl | rfl <;> rfl
theorem mark_itoa {m : List UInt8} {n : Int} (h : in64 n) : markP m (m ++ Lib.itoa n) ∧ atN (cutR m (m ++ Lib.itoa n)) = n := by
 refine ⟨⟨List.prefix_append _ _, ?_⟩, ?_⟩
 ·rw [cut_pre]; exact ⟨n, h, rfl⟩
 ·rw [cut_pre, atN_itoa h]
theorem rel_rel {n : Int} (h : 0 ≤ n ∧ n ≤ 3) : relP (relB n) ∧ relN (relB n) = n := by
 refine ⟨⟨n, h.1, h.2, rfl⟩, ?_⟩;rcases (by omega : n = 0 ∨ n = 1 ∨ n = 2 ∨ n = 3) with rfl | rfl | rfl | rfl <;> rfl
theorem take_word {x : UInt8} {n bh : Int} (h : in64 n) (hs : soundP x n bh) : takP x (wordP x n) ∧ takN x (wordP x n) = n := by
 unfold takP takN wordP;split
 ·exact mark_itoa (m := [114]) h
 ·rename_i h1;split
  ·exact mark_itoa (m := [116]) h
  ·rename_i h2;split
   ·rename_i h3;unfold soundP at hs;rw [if_neg h1, if_neg h2, if_neg Z4, if_neg Z4, if_pos h3] at hs;exact rel_rel hs
   ·exact ⟨⟨n, h, rfl⟩, atN_itoa h⟩
def cH (c : Code) : List UInt8 → Code → Code
 | [], r => r
 | x :: l, r => cH c l (setF x (fld x c) r)
theorem cF_cH {c : Code} {s : List UInt8} {op : Int} (key : ∀ i x, (shp op)[i]? = some x → takN x (wdW s (1 + i)) = fld x c) : ∀ k, k ≤ (shp op).length → cH c ((shp op).drop k) (cF op s k) = cH c (shp op) (op, 0, 0, 0, 0, 0)
  | 0, _ => rfl
  | k + 1, hk => by
    have ih := cF_cH key k Z4;obtain ⟨x, hx⟩ : ∃ x, (shp op)[k]? = some x := ⟨_, List.getElem?_eq_getElem Z4⟩;rw [cF_succ hx, key k x hx, ← ih, List.drop_eq_getElem_cons (by omega : k < (shp op).length)];have e : (shp op)[k] = x := by rw [List.getElem?_eq_getElem Z4] at hx; exact Option.some.inj hx
    rw [e];rfl
theorem cH_good {c : Code} {bh : Int} (h : goodC c bh) : cH c (shp c.1) (c.1, 0, 0, 0, 0, 0) = c := by
 obtain ⟨op, a, b, cc, t, n⟩ := c;obtain ⟨h1, _, h3⟩ := h;rcases shp_ops h1 with rfl | rfl | rfl | rfl | rfl | rfl | rfl | rfl | rfl | rfl | rfl | rfl | rfl | rfl | rfl | rfl <;>
  (simp [shp, zer, clr] at h3; simp [cH, shp, setF, fld, h3])
theorem wd_line0 {c : Code} (hs : shp c.1 ≠ []) : wdW (lineR c) 0 = wordB c.1 := by unfold wdW; rw [split_line hs]; rfl
theorem wd_line {c : Code} (hs : shp c.1 ≠ []) {i : Nat} {x : UInt8} (hx : (shp c.1)[i]? = some x) : wdW (lineR c) (1 + i) = wordP x (fld x c) := by
 unfold wdW;rw [split_line hs, Nat.add_comm, List.getElem?_cons_succ, List.getElem?_map, hx];rfl
theorem code_line {c : Code} {bh : Int} (h : goodC c bh) (hc : inC c) : codeP (lineR c) ∧ cV (lineR c) = c := by
 have hs := shp_ne h.1;have hop : opN (wdW (lineR c) 0) = c.1 := by rw [wd_line0 hs, op_word h.1]
 have tk : ∀ i x, (shp c.1)[i]? = some x → takP x (wdW (lineR c) (1 + i)) ∧ takN x (wdW (lineR c) (1 + i)) = fld x c := fun i x hx => by
  rw [wd_line hs hx];exact take_word (fld_in hc) (h.2.1 x (List.mem_of_getElem? hx))
 refine ⟨⟨by rw [hop]; exact h.1, ?_, fun i hi => ?_⟩, ?_⟩
 ·rw [hop, split_line hs];simp only [List.length_cons, List.length_map];omega
 ·rintro ⟨x, h1, h2⟩;rw [hop] at h1;exact h2 (tk i x h1).1
 ·unfold cV;rw [hop];have := cF_cH (op := c.1) (s := lineR c) (c := c) (fun i x hx => (tk i x hx).2) (shp c.1).length (Nat.le_refl _);rw [List.drop_length, cH_good h] at this;exact this
theorem print_line0 (fu : Int) (co : List Code) : lnW (printR fu co) 0 = [102, 117, 101, 108, 32] ++ Lib.itoa fu := by unfold lnW; rw [print_lines]; rfl
theorem print_line {fu : Int} {co : List Code} {i : Nat} {c : Code} (h : co[i]? = some c) : lnW (printR fu co) (i + 1) = lineR c := by
 unfold lnW;rw [print_lines, List.getElem?_cons_succ, List.getElem?_map, h];rfl
theorem print_form {fu : Int} {co : List Code} (h : checkP fu co) (hf : in64 fu) (hc : ∀ c ∈ co, inC c) : formP (printR fu co) ∧ pFu (printR fu co) = fu ∧ pCo (printR fu co) = co := by
 have hl : (Z28 (printR fu co)).length = co.length + 1 := by rw [print_lines]; simp
 have hm := mark_itoa (m := [102, 117, 101, 108, 32]) hf;have hcode : ∀ i c, co[i]? = some c → codeP (lineR c) ∧ cV (lineR c) = c := fun i c hi => by
  obtain ⟨b, gb⟩ := check_good h (List.mem_of_getElem? hi);exact code_line gb (hc c (List.mem_of_getElem? hi))
 refine ⟨⟨Z4, fun i hi => ?_⟩, ?_, ?_⟩
 ·rintro (⟨_, q⟩ | ⟨rfl, q⟩ | ⟨q0, q⟩)
  ·exact q (print_whole fu co)
  ·rw [print_line0] at q; exact q hm.1
  ·obtain ⟨j, rfl⟩ : ∃ j, i = j + 1 := ⟨i - 1, Z4⟩;obtain ⟨c, hj⟩ : ∃ c, co[j]? = some c := ⟨_, List.getElem?_eq_getElem Z4⟩;rw [print_line hj] at q;exact q (hcode j c hj).1
 ·rw [pFu, pFuI, if_neg Z4, print_line0];exact hm.2
 ·rw [pCo, hl, coI];apply List.ext_getElem?;intro i;rw [List.getElem?_map, show co.length + 1 - 1 = co.length by omega];by_cases hi : i < co.length
  ·obtain ⟨c, hj⟩ : ∃ c, co[i]? = some c := ⟨_, List.getElem?_eq_getElem hi⟩;rw [List.getElem?_range hi, hj];show some (cV (lnW (printR fu co) (i + 1))) = some c;rw [print_line hj, (hcode i c hj).2]
  ·rw [List.getElem?_eq_none Z1s, List.getElem?_eq_none Z4];rfl
end Go.Proofs.YtgplkbfjlidinabDoor