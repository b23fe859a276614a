/- What is printed is parsed to the same: plain Lean. -/
import Derived.Test.YtgplkbfjlidinabGreatDoorParse
import Derived.Test.YtgplkbfjlidinabGreatDoorInj
import Derived.Test.YtgplkbfjlidinabGreatDoorKit
set_option linter.unusedVariables false
set_option linter.unusedSimpArgs false
set_option linter.unnecessarySimpa false
namespace Go.Proofs.YtgplkbfjlidinabGreatDoor
open Go.Ai
theorem split_lines : ∀ co : List Code, pcs 10 (linesB co) = co.map lineR ++ [[]]
  | [] => rfl
  | c :: co => by
    rw [lines_cons, pcs_app (line_all c), split_lines co];rfl
theorem split_print (fu : Int) (co : List Code) : Z2e 10 (printR fu co) = ([102, 117, 101, 108, 32] ++ Lib.itoa fu) :: (co.map lineR ++ [[]]) := by
 rw [split_pcs, ← split_lines];refine pcs_app (a := [102, 117, 101, 108, 32] ++ Lib.itoa fu) fun x hx => ?_
 rcases List.mem_append.1 hx with hx | hx
 ·exact (by decide : ∀ y ∈ ([102, 117, 101, 108, 32] : List UInt8), y ≠ 10) x hx
 ·exact ne_of_ge (k := 10) (by have := itoa_all fu x hx; omega) Zj
theorem split_tail (c : Code) : ∀ (l : List UInt8), pcs 32 (tailB l c) = [] :: l.map fun x => wordP x (fld x c)
  | [] => rfl
  | z :: l => by
    have h := split_tail c l;rw [tail_cons];have e : ∀ r, pcs 32 (32 :: r) = [] :: pcs 32 r := fun r => by
      show (if (32 : UInt8) = 32 then _ else _) = _;rw [if_pos rfl]
    rw [e];have hw : ∀ x ∈ wordP z (fld z c), x ≠ 32 := fun w hw => ne_of_ge (k := 32) (wordP_all _ _ w hw) Zj
    cases l with
    | nil => rw [show tailB [] c = [] from rfl, List.append_nil, pcs_no hw]; rfl
    | cons y l =>
      rw [tail_cons] at h ⊢;rw [pcs_app hw];rw [e] at h;have h := (List.cons.inj h).2;rw [h];rfl
theorem split_line {c : Code} (hs : shp c.1 ≠ []) : Z2e 32 (lineR c) = wordB c.1 :: (shp c.1).map fun x => wordP x (fld x c) := by
  rw [split_pcs];unfold lineR;have hw : ∀ x ∈ wordB c.1, x ≠ 32 := fun w hw => ne_of_ge (k := 32) (wordB_all _ w hw) Zj
  have h := split_tail c (shp c.1);cases hl : shp c.1 with
  | nil => exact absurd hl hs
  | cons z l =>
    rw [hl] at h;rw [tail_cons] at h ⊢;rw [pcs_app hw];have e : ∀ r, pcs 32 (32 :: r) = [] :: pcs 32 r := fun r => by
      show (if (32 : UInt8) = 32 then _ else _) = _;rw [if_pos rfl]
    rw [e] at h;rw [(List.cons.inj h).2]
theorem shp_ne {op : Int} (h : 0 ≤ op ∧ op ≤ 15) : shp op ≠ [] := by
 rcases shp_ops h with rfl | rfl | rfl | rfl | rfl | rfl | rfl | rfl | rfl | rfl | rfl | rfl | rfl | rfl | rfl | rfl <;> decide
theorem op_word {op : Int} (h : 0 ≤ op ∧ op ≤ 15) : opN (wordB op) = op := by
 rcases shp_ops h with rfl | rfl | rfl | rfl | rfl | rfl | rfl | rfl | rfl | rfl | rfl | rfl | rfl | rfl | rfl | rfl <;> rfl
theorem mark_itoa {m : List UInt8} {n : Int} (h : in64 n) : markP m (m ++ Lib.itoa n) ∧ atN (cutR m (m ++ Lib.itoa n)) = n := by
 refine ⟨⟨List.prefix_append _ _, ?_⟩, ?_⟩
 ·rw [cut_pre]; exact ⟨n, h, rfl⟩
 ·rw [cut_pre, atN_itoa h]
theorem rel_rel {n : Int} (h : 0 ≤ n ∧ n ≤ 3) : relP (relB n) ∧ relN (relB n) = n := by
 refine ⟨⟨n, h.1, h.2, rfl⟩, ?_⟩;rcases (by omega : n = 0 ∨ n = 1 ∨ n = 2 ∨ n = 3) with rfl | rfl | rfl | rfl <;> rfl
theorem wd_line {c : Code} (hs : shp c.1 ≠ []) {i : Nat} {x : UInt8} (hx : (shp c.1)[i]? = some x) : wdW (lineR c) (1 + i) = wordP x (fld x c) := by
 unfold wdW;rw [split_line hs, Nat.add_comm, List.getElem?_cons_succ, List.getElem?_map, hx];rfl
end Go.Proofs.YtgplkbfjlidinabGreatDoor