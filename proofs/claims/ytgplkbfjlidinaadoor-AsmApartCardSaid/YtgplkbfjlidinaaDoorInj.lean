/- Unlike good programs have unlike texts: plain Lean. -/
import Derived.Test.YtgplkbfjlidinaaDoorPrint
set_option linter.unusedVariables false
set_option linter.unusedSimpArgs false
set_option linter.unnecessarySimpa false
namespace Go.Proofs.YtgplkbfjlidinaaDoor
open Go.Ai
def dval (l : List UInt8) : Nat := l.foldl (fun a x => a * 10 + (x.toNat - 48)) 0
theorem dval_app (l : List UInt8) (x : UInt8) : dval (l ++ [x]) = dval l * 10 + (x.toNat - 48) := by simp [dval]
theorem dig_all (u : Nat) : ∀ x ∈ Lib.decDigits u, 48 ≤ x.toNat ∧ x.toNat ≤ 57 := by
  induction u using Nat.strongRecOn with
  | ind u ih =>
    intro x hx
    rw [Lib.decDigits.eq_def] at hx
    split at hx
    · obtain rfl := List.mem_singleton.1 hx
      rw [UInt8.toNat_ofNat']; omega
    · rcases List.mem_append.1 hx with hx | hx
      · exact ih _ (by omega) x hx
      · obtain rfl := List.mem_singleton.1 hx
        rw [UInt8.toNat_ofNat']; omega
theorem dval_dec (u : Nat) : dval (Lib.decDigits u) = u := by
  induction u using Nat.strongRecOn with
  | ind u ih =>
    rw [Lib.decDigits.eq_def]
    split
    · simp [dval, UInt8.toNat_ofNat']; omega
    · rw [dval_app, ih _ (by omega), UInt8.toNat_ofNat']; omega
theorem itoa_all (n : Int) : ∀ x ∈ Lib.itoa n, x.toNat = 45 ∨ 48 ≤ x.toNat ∧ x.toNat ≤ 57 := by
  intro x hx
  unfold Lib.itoa at hx
  split at hx
  · rcases List.mem_cons.1 hx with rfl | hx
    · exact .inl rfl
    · exact .inr (dig_all _ x hx)
  · exact .inr (dig_all _ x hx)
theorem itoa_inj {n m : Int} (h : Lib.itoa n = Lib.itoa m) : n = m := by
  have key : ∀ u v : Nat, (45 : UInt8) :: Lib.decDigits u = Lib.decDigits v → False := fun u v h => by
    have := dig_all v 45 (by rw [← h]; exact List.mem_cons_self ..)
    exact absurd this.1 (by decide)
  unfold Lib.itoa at h
  split at h <;> split at h
  · have := congrArg dval (List.cons.inj h).2
    rw [dval_dec, dval_dec] at this
    omega
  · exact (key _ _ h).elim
  · exact (key _ _ h.symm).elim
  · have := congrArg dval h
    rw [dval_dec, dval_dec] at this
    omega
def Begins (c : UInt8) (t : List UInt8) : Prop := t = [] ∨ ∃ r, t = c :: r
theorem sep_inj {c : UInt8} : ∀ {a b t u : List UInt8}, (∀ x ∈ a, x ≠ c) → (∀ x ∈ b, x ≠ c) → Begins c t → Begins c u → a ++ t = b ++ u → a = b ∧ t = u
  | [], [], t, u, _, _, _, _, h => ⟨rfl, h⟩
  | [], y :: b, t, u, _, hb, ht, _, h => by
    exfalso
    rcases ht with rfl | ⟨r, rfl⟩
    · cases h
    · exact hb y (List.mem_cons_self ..) (List.cons.inj h).1.symm
  | x :: a, [], t, u, ha, _, _, hu, h => by
    exfalso
    rcases hu with rfl | ⟨r, rfl⟩
    · cases h
    · exact ha x (List.mem_cons_self ..) (List.cons.inj h).1
  | x :: a, y :: b, t, u, ha, hb, ht, hu, h => by
    obtain ⟨h1, h2⟩ := List.cons.inj h
    obtain ⟨h3, h4⟩ := sep_inj (fun z hz => ha z (List.mem_cons_of_mem _ hz)) (fun z hz => hb z (List.mem_cons_of_mem _ hz)) ht hu h2
    exact ⟨by rw [h1, h3], h4⟩
theorem rel_all (n : Int) : ∀ x ∈ relB n, 60 ≤ x.toNat ∧ x.toNat ≤ 63 := by
  unfold relB
  (repeat' split) <;> decide
theorem wordP_all (z : UInt8) (n : Int) : ∀ x ∈ wordP z n, 45 ≤ x.toNat := by
  intro x hx
  unfold wordP at hx
  split at hx
  · rcases List.mem_cons.1 hx with rfl | hx
    · decide
    · have := itoa_all n x hx; omega
  · split at hx
    · rcases List.mem_cons.1 hx with rfl | hx
      · decide
      · have := itoa_all n x hx; omega
    · split at hx
      · have := rel_all n x hx; omega
      · have := itoa_all n x hx; omega
theorem wordB_all (op : Int) : ∀ x ∈ wordB op, 45 ≤ x.toNat := by
  by_cases h : 0 ≤ op ∧ op < 16
  · have e : wordsL.length = 16 := rfl
    obtain ⟨y, hy⟩ : ∃ x, wordsL[op.toNat]? = some x := ⟨_, List.getElem?_eq_getElem (by omega)⟩
    rw [wordB_at h.1 hy]
    exact (by decide : ∀ y ∈ wordsL, ∀ x ∈ y, 45 ≤ x.toNat) y (List.mem_of_getElem? hy)
  · rw [wordB_no h]; intro x hx; cases hx
theorem ne_of_ge {x : UInt8} {k : Nat} (h : 45 ≤ x.toNat) (hk : k < 45) : x ≠ UInt8.ofNat k := by
  rintro rfl
  rw [UInt8.toNat_ofNat'] at h
  omega
theorem relB_inj {n m : Int} (hn : 0 ≤ n ∧ n ≤ 3) (hm : 0 ≤ m ∧ m ≤ 3) (h : relB n = relB m) : n = m := by
  rcases (by omega : n = 0 ∨ n = 1 ∨ n = 2 ∨ n = 3) with rfl | rfl | rfl | rfl <;> rcases (by omega : m = 0 ∨ m = 1 ∨ m = 2 ∨ m = 3) with rfl | rfl | rfl | rfl <;> first | rfl | (exact absurd h (by decide))
theorem wordP_inj {z : UInt8} {n m bn bm : Int} (hn : soundP z n bn) (hm : soundP z m bm) (h : wordP z n = wordP z m) : n = m := by
  unfold wordP at h
  split at h
  · exact itoa_inj (List.cons.inj h).2
  · split at h
    · exact itoa_inj (List.cons.inj h).2
    · split at h
      · rename_i h1 h2 h3
        unfold soundP at hn hm
        rw [if_neg h1, if_neg h2, if_neg (by omega), if_neg (by omega), if_pos h3] at hn hm
        exact relB_inj hn hm h
      · exact itoa_inj h
theorem wordB_inj {x y : Int} (hx : 0 ≤ x ∧ x ≤ 15) (hy : 0 ≤ y ∧ y ≤ 15) (h : wordB x = wordB y) : x = y := by
  rcases shp_ops hx with rfl | rfl | rfl | rfl | rfl | rfl | rfl | rfl | rfl | rfl | rfl | rfl | rfl | rfl | rfl | rfl <;> rcases shp_ops hy with rfl | rfl | rfl | rfl | rfl | rfl | rfl | rfl | rfl | rfl | rfl | rfl | rfl | rfl | rfl | rfl <;> first | rfl | (exact absurd h (by decide))
theorem tail_cons (z : UInt8) (l : List UInt8) (c : Code) : tailB (z :: l) c = 32 :: (wordP z (fld z c) ++ tailB l c) := by simp [tailB]
theorem tail_begins (l : List UInt8) (c : Code) : Begins 32 (tailB l c) := by
  cases l with
  | nil => exact .inl rfl
  | cons z l => exact .inr ⟨_, tail_cons z l c⟩
theorem tail_inj {x y : Code} {bx by_ : Int} : ∀ (l : List UInt8), (∀ z ∈ l, soundP z (fld z x) bx) → (∀ z ∈ l, soundP z (fld z y) by_) → tailB l x = tailB l y → ∀ z ∈ l, fld z x = fld z y
  | [], _, _, _ => fun z hz => by cases hz
  | z :: l, gx, gy, h => by
    rw [tail_cons, tail_cons] at h
    obtain ⟨h1, h2⟩ := sep_inj (c := 32) (fun w hw => ne_of_ge (k := 32) (wordP_all _ _ w hw) (by decide)) (fun w hw => ne_of_ge (k := 32) (wordP_all _ _ w hw) (by decide)) (tail_begins l x) (tail_begins l y) (List.cons.inj h).2
    have h3 := tail_inj l (fun w hw => gx w (List.mem_cons_of_mem _ hw)) (fun w hw => gy w (List.mem_cons_of_mem _ hw)) h2
    intro w hw
    rcases List.mem_cons.1 hw with rfl | hw
    · exact wordP_inj (gx w (List.mem_cons_self ..)) (gy w (List.mem_cons_self ..)) h1
    · exact h3 w hw
def fo (k : Nat) (c : Code) : Int := if k = 1 then c.2.1 else if k = 2 then c.2.2.1 else if k = 3 then c.2.2.2.1 else if k = 4 then c.2.2.2.2.1 else c.2.2.2.2.2
theorem fld_fo (x : UInt8) (c : Code) : fld x c = fo (offL x) c := by unfold fld offL fo; (repeat' split) <;> first | rfl | omega
theorem fo_clr {x : UInt8} {k : Nat} {c : Code} (h : ¬ offL x = k) (hk : 1 ≤ k ∧ k ≤ 5) : fo k (clr x c) = fo k c := by
  unfold offL at h
  unfold clr
  by_cases c1 : x.toNat = 97 ∨ x.toNat = 115
  · rw [if_pos c1] at h ⊢; unfold fo; (repeat' split) <;> first | rfl | omega
  rw [if_neg c1] at h ⊢
  by_cases c2 : x.toNat = 98
  · rw [if_pos c2] at h ⊢; unfold fo; (repeat' split) <;> first | rfl | omega
  rw [if_neg c2] at h ⊢
  by_cases c3 : x.toNat = 99
  · rw [if_pos c3] at h ⊢; unfold fo; (repeat' split) <;> first | rfl | omega
  rw [if_neg c3] at h ⊢
  by_cases c4 : x.toNat = 116
  · rw [if_pos c4] at h ⊢; unfold fo; (repeat' split) <;> first | rfl | omega
  rw [if_neg c4] at h ⊢
  unfold fo; (repeat' split) <;> first | rfl | omega
theorem fo_zer {k : Nat} (hk : 1 ≤ k ∧ k ≤ 5) : ∀ (l : List UInt8) (c : Code), (∀ z ∈ l, ¬ offL z = k) → fo k (zer l c) = fo k c
  | [], _, _ => rfl
  | x :: l, c, h => (fo_zer hk l (clr x c) fun z hz => h z (List.mem_cons_of_mem _ hz)).trans (fo_clr (h x (List.mem_cons_self ..)) hk)
theorem code_eq {l : List UInt8} {x y : Code} (h1 : x.1 = y.1) (hf : ∀ z ∈ l, fld z x = fld z y) (hx : (zer l x).2 = (0, 0, 0, 0, 0)) (hy : (zer l y).2 = (0, 0, 0, 0, 0)) : x = y := by
  have z0 : ∀ {k : Nat} {c : Code}, c.2 = (0, 0, 0, 0, 0) → fo k c = 0 := fun {k c} h => by
    obtain ⟨c1, c2⟩ := c
    obtain rfl : c2 = _ := h
    unfold fo
    (repeat' split) <;> rfl
  have key : ∀ k, 1 ≤ k ∧ k ≤ 5 → fo k x = fo k y := fun k hk => by
    by_cases hz : ∃ z ∈ l, offL z = k
    · obtain ⟨z, h2, rfl⟩ := hz
      rw [← fld_fo, ← fld_fo]
      exact hf z h2
    · have hn : ∀ z ∈ l, ¬ offL z = k := fun z h2 h3 => hz ⟨z, h2, h3⟩
      rw [← fo_zer hk l x hn, ← fo_zer hk l y hn, z0 hx, z0 hy]
  exact Prod.ext h1 (Prod.ext (key 1 (by decide)) (Prod.ext (key 2 (by decide)) (Prod.ext (key 3 (by decide)) (Prod.ext (key 4 (by decide)) (key 5 (by decide))))))
theorem line_inj {x y : Code} {bx by_ : Int} (gx : goodC x bx) (gy : goodC y by_) (h : lineR x = lineR y) : x = y := by
  unfold lineR at h
  obtain ⟨h1, h2⟩ := sep_inj (c := 32) (fun w hw => ne_of_ge (k := 32) (wordB_all _ w hw) (by decide)) (fun w hw => ne_of_ge (k := 32) (wordB_all _ w hw) (by decide)) (tail_begins _ x) (tail_begins _ y) h
  have e := wordB_inj gx.1 gy.1 h1
  have g2 := gy.2
  rw [← e] at h2 g2
  exact code_eq e (tail_inj _ gx.2.1 g2.1 h2) gx.2.2 g2.2
theorem tail_all : ∀ (l : List UInt8) (c : Code), ∀ x ∈ tailB l c, x ≠ 10
  | [], _ => fun x hx => by cases hx
  | z :: l, c => fun x hx => by
    rw [tail_cons] at hx
    rcases List.mem_cons.1 hx with rfl | hx
    · decide
    · rcases List.mem_append.1 hx with hx | hx
      · exact ne_of_ge (k := 10) (wordP_all _ _ x hx) (by decide)
      · exact tail_all l c x hx
theorem line_all (c : Code) : ∀ x ∈ lineR c, x ≠ 10 := fun x hx => by
  unfold lineR at hx
  rcases List.mem_append.1 hx with hx | hx
  · exact ne_of_ge (k := 10) (wordB_all _ x hx) (by decide)
  · exact tail_all _ c x hx
theorem lines_cons (c : Code) (l : List Code) : linesB (c :: l) = lineR c ++ (10 :: linesB l) := by simp [linesB]
theorem lines_inj : ∀ {l m : List Code}, (∀ x ∈ l, ∃ b, goodC x b) → (∀ x ∈ m, ∃ b, goodC x b) → linesB l = linesB m → l = m
  | [], [], _, _, _ => rfl
  | [], y :: m, _, _, h => by
    rw [lines_cons] at h
    have := congrArg List.length h
    simp [linesB] at this
  | x :: l, [], _, _, h => by
    rw [lines_cons] at h
    have := congrArg List.length h
    simp [linesB] at this
  | x :: l, y :: m, hl, hm, h => by
    rw [lines_cons, lines_cons] at h
    obtain ⟨h1, h2⟩ := sep_inj (c := 10) (line_all x) (line_all y) (.inr ⟨_, rfl⟩) (.inr ⟨_, rfl⟩) h
    obtain ⟨_, gx⟩ := hl x (List.mem_cons_self ..)
    obtain ⟨_, gy⟩ := hm y (List.mem_cons_self ..)
    rw [line_inj gx gy h1, lines_inj (fun z hz => hl z (List.mem_cons_of_mem _ hz)) (fun z hz => hm z (List.mem_cons_of_mem _ hz)) (List.cons.inj h2).2]
theorem check_good {fu : Int} {co : List Code} (h : checkP fu co) {x : Code} (hx : x ∈ co) : ∃ b, goodC x b := by
  obtain ⟨i, hi, e⟩ := List.mem_iff_getElem.1 hx
  have hx : co[i]? = some x := by rw [List.getElem?_eq_getElem hi, e]
  exact ⟨_, Classical.not_not.1 fun q => h.2 i hi ⟨x, hx, q⟩⟩
theorem print_inj {fu fv : Int} {co cp : List Code} (h1 : checkP fu co) (h2 : checkP fv cp) (h : printR fu co = printR fv cp) : fu = fv ∧ co = cp := by
  unfold printR at h
  obtain ⟨h3, h4⟩ := sep_inj (c := 10) (fun x hx => ne_of_ge (k := 10) (by have := itoa_all fu x hx; omega) (by decide)) (fun x hx => ne_of_ge (k := 10) (by have := itoa_all fv x hx; omega) (by decide)) (.inr ⟨_, rfl⟩) (.inr ⟨_, rfl⟩) (by simpa using h)
  exact ⟨itoa_inj h3, lines_inj (fun x hx => check_good h1 hx) (fun x hx => check_good h2 hx) (List.cons.inj h4).2⟩
/-- how many ends of lines there are -/
def nl (l : List UInt8) : Nat := (l.filter fun x => decide (x.toNat = 10)).length
theorem nl_app (a b : List UInt8) : nl (a ++ b) = nl a + nl b := by simp [nl]
theorem nl_no {a : List UInt8} (h : ∀ x ∈ a, x ≠ 10) : nl a = 0 := by
  unfold nl
  rw [List.length_eq_zero_iff, List.filter_eq_nil_iff]
  intro x hx q
  exact h x hx (UInt8.toNat_inj.1 (of_decide_eq_true q))
theorem nl_lines : ∀ l : List Code, nl (linesB l) = l.length
  | [] => rfl
  | c :: l => by
    rw [lines_cons, show lineR c ++ (10 :: linesB l) = lineR c ++ ([10] ++ linesB l) from rfl, nl_app, nl_app, nl_no (line_all c), nl_lines l]
    show 0 + (1 + l.length) = l.length + 1
    omega
theorem nl_print (fu : Int) (co : List Code) : nl (printR fu co) = 1 + co.length := by
  unfold printR
  rw [show (102 :: 117 :: 101 :: 108 :: 32 :: (Lib.itoa fu ++ 10 :: linesB co) : List UInt8) = [102, 117, 101, 108, 32] ++ (Lib.itoa fu ++ ([10] ++ linesB co)) from rfl, nl_app, nl_app, nl_app, nl_lines, nl_no (a := Lib.itoa fu) fun x hx => ne_of_ge (k := 10) (by have := itoa_all fu x hx; omega) (by decide)]
  show 0 + (0 + (1 + co.length)) = 1 + co.length
  omega
theorem nl_hit {l : List UInt8} {i k : Nat} {x : UInt8} (hx : l[i]? = some x) (h : ((x.toNat : Nat) : Int) = 10) (hk : k = nl (l.take i)) : k + 1 = nl (l.take (i + 1)) := by
  rw [List.take_add_one, hx, nl_app, hk]
  simp only [Option.toList_some, nl, List.filter_cons, decide_eq_true (by omega : x.toNat = 10)]
  rfl
theorem nl_miss {l : List UInt8} {i k : Nat} {x : UInt8} (hx : l[i]? = some x) (h : ¬ ((x.toNat : Nat) : Int) = 10) (hk : k = nl (l.take i)) : k = nl (l.take (i + 1)) := by
  rw [List.take_add_one, hx, nl_app, hk]
  simp only [Option.toList_some, nl, List.filter_cons, decide_eq_false (by omega : ¬ x.toNat = 10)]
  rfl
theorem print_last {fu : Int} {co : List Code} {x : UInt8} (hx : (printR fu co)[(printR fu co).length - 1]? = some x) : x = 10 := by
  have key : ∀ l : List Code, linesB l = [] ∨ ∃ r, linesB l = r ++ [10] := by
    intro l
    induction l with
    | nil => exact .inl rfl
    | cons c l ih =>
      rw [lines_cons]
      rcases ih with h | ⟨r, h⟩
      · exact .inr ⟨lineR c, by rw [h]⟩
      · exact .inr ⟨lineR c ++ 10 :: r, by rw [h]; simp⟩
  obtain ⟨q, hq⟩ : ∃ q, printR fu co = q ++ [10] := by
    unfold printR
    rcases key co with h | ⟨r, h⟩
    · exact ⟨102 :: 117 :: 101 :: 108 :: 32 :: Lib.itoa fu, by rw [h]; simp⟩
    · exact ⟨102 :: 117 :: 101 :: 108 :: 32 :: (Lib.itoa fu ++ 10 :: r), by rw [h]; simp⟩
  rw [hq] at hx
  simp at hx
  exact hx.symm
theorem print_len {fu : Int} {co : List Code} (h : checkP fu co) (h0 : in64 fu) (h1 : ∀ c ∈ co, inC c) : 1 ≤ (printR fu co).length ∧ (printR fu co).length ≤ 10000 := by
  have q := lines_len h1
  have q2 := itoa_len h0
  have q3 := h.1.2.2
  unfold printR
  simp only [List.length_cons, List.length_append]
  omega
end Go.Proofs.YtgplkbfjlidinaaDoor