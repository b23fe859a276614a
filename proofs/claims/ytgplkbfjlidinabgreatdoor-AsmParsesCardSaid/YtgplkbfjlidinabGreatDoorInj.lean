/- Unlike good programs have unlike texts: plain Lean. -/
import Derived.Test.YtgplkbfjlidinabGreatDoorPrint
import Derived.Test.YtgplkbfjlidinabGreatDoorKit
set_option linter.unusedVariables false
set_option linter.unusedSimpArgs false
set_option linter.unnecessarySimpa false
namespace Go.Proofs.YtgplkbfjlidinabGreatDoor
open Go.Ai
theorem dig_all (u : Nat) : ∀ x ∈ Lib.decDigits u, 48 ≤ x.toNat ∧ x.toNat ≤ 57 := by
  induction u using Nat.strongRecOn with
  | ind u ih =>
    intro x hx;rw [Lib.decDigits.eq_def] at hx;split at hx
    · obtain rfl := List.mem_singleton.1 hx
      rw [UInt8.toNat_ofNat']; omega
    · rcases List.mem_append.1 hx with hx | hx
      · exact ih _ Z4 x hx
      · obtain rfl := List.mem_singleton.1 hx
        rw [UInt8.toNat_ofNat']; omega
theorem itoa_all (n : Int) : ∀ x ∈ Lib.itoa n, x.toNat = 45 ∨ 48 ≤ x.toNat ∧ x.toNat ≤ 57 := by
 intro x hx;unfold Lib.itoa at hx;split at hx
 ·rcases List.mem_cons.1 hx with rfl | hx
  ·exact .inl rfl
  ·exact .inr (dig_all _ x hx)
 ·exact .inr (dig_all _ x hx)
theorem rel_all (n : Int) : ∀ x ∈ relB n, 60 ≤ x.toNat ∧ x.toNat ≤ 63 := by
 unfold relB
 (repeat' split) <;> decide
theorem wordP_all (z : UInt8) (n : Int) : ∀ x ∈ wordP z n, 45 ≤ x.toNat := by
 intro x hx;unfold wordP at hx;split at hx
 ·rcases List.mem_cons.1 hx with rfl | hx
  ·decide
  ·have := itoa_all n x hx; omega
 ·split at hx
  ·rcases List.mem_cons.1 hx with rfl | hx
   ·decide
   ·have := itoa_all n x hx; omega
  ·split at hx
   ·have := rel_all n x hx; omega
   ·have := itoa_all n x hx; omega
theorem wordB_all (op : Int) : ∀ x ∈ wordB op, 45 ≤ x.toNat := by
 by_cases h : 0 ≤ op ∧ op < 16
 ·have e : wordsL.length = 16 := rfl;obtain ⟨y, hy⟩ : ∃ x, wordsL[op.toNat]? = some x := ⟨_, List.getElem?_eq_getElem Z4⟩;rw [wordB_at h.1 hy];exact (by decide : ∀ y ∈ wordsL, ∀ x ∈ y, 45 ≤ x.toNat) y (List.mem_of_getElem? hy)
 ·rw [wordB_no h]; intro x hx; cases hx
theorem ne_of_ge {x : UInt8} {k : Nat} (h : 45 ≤ x.toNat) (hk : k < 45) : x ≠ UInt8.ofNat k := by
 rintro rfl;rw [UInt8.toNat_ofNat'] at h;omega
theorem tail_cons (z : UInt8) (l : List UInt8) (c : Code) : tailB (z :: l) c = 32 :: (wordP z (fld z c) ++ tailB l c) := by simp [tailB]
theorem tail_all : ∀ (l : List UInt8) (c : Code), ∀ x ∈ tailB l c, x ≠ 10
  | [], _ => fun x hx => by cases hx
  | z :: l, c => fun x hx => by
    rw [tail_cons] at hx;rcases List.mem_cons.1 hx with rfl | hx
    · decide
    · rcases List.mem_append.1 hx with hx | hx
      · exact ne_of_ge (k := 10) (wordP_all _ _ x hx) Zj
      · exact tail_all l c x hx
theorem line_all (c : Code) : ∀ x ∈ lineR c, x ≠ 10 := fun x hx => by
 unfold lineR at hx;rcases List.mem_append.1 hx with hx | hx
 ·exact ne_of_ge (k := 10) (wordB_all _ x hx) Zj
 ·exact tail_all _ c x hx
theorem lines_cons (c : Code) (l : List Code) : linesB (c :: l) = lineR c ++ (10 :: linesB l) := by simp [linesB]
end Go.Proofs.YtgplkbfjlidinabGreatDoor