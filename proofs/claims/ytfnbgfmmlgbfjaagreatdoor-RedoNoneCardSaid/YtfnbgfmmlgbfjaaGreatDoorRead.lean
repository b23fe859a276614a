/- Records of the input, as they were laid. -/
import Derived.Test.YtfnbgfmmlgbfjaaGreatDoorLaw
import Derived.Test.YtfnbgfmmlgbfjaaGreatDoorRows
namespace Go.Proofs.YtfnbgfmmlgbfjaaGreatDoor
open Go.ChangeShapes Go.WideShapes Go.ChangeAt Go.RowKit Go.Ai
theorem Tryz.own : ownKnob Tryz.prog.godebug = none := by kernel_rfl
theorem Tryz.laidOut : laidOutB Tryz.prog = true := by kernel_rfl
theorem c94_ : Tryz.prog.cellsOf 94 = 8 := by kernel_rfl
theorem c143_ : Tryz.prog.cellsOf 143 = 6 := by kernel_rfl
theorem c50_ : Tryz.prog.cellsOf 50 = 2 := by kernel_rfl
theorem c295_ : Tryz.prog.cellsOf 295 = 3 := by kernel_rfl
theorem c86_ : Tryz.prog.cellsOf 86 = 4 := by kernel_rfl
theorem five_ls {α : Type} {l : List α} (h : l.length = 5) : ∃ a b c d e, l = [a, b, c, d, e] := by
  match l, h with
  | [a, b, c, d, e], _ => exact ⟨a, b, c, d, e, rfl⟩
theorem two_ls {α : Type} {l : List α} (h : l.length = 2) : ∃ a b, l = [a, b] := by
  match l, h with
  | [a, b], _ => exact ⟨a, b, rfl⟩
theorem three_ls {α : Type} {l : List α} (h : l.length = 3) : ∃ a b c, l = [a, b, c] := by
  match l, h with
  | [a, b, c], _ => exact ⟨a, b, c, rfl⟩
set_option maxRecDepth 100000 in
theorem rc_of_fits {g : Nat → Option AObj} {n : Nat} {l : List Value} (h : Fits Tryz.prog g (n + 4) 94 l) : ∃ r : Rc, l = r.cells ∧ r.Ok g := by
  obtain ⟨ls, rfl, hlen, hf⟩ := read_struct Tryz.underlying94 h
  obtain ⟨l0, l1, l2, l3, l4, rfl⟩ := five_ls hlen
  obtain ⟨seq, rfl⟩ := read_int Tryz.underlying3 (hf 0 _ l0 rfl rfl)
  obtain ⟨val, rfl⟩ := read_bool Tryz.underlying4 (hf 1 _ l1 rfl rfl)
  obtain ⟨ls2, rfl, hlen2, hf2⟩ := read_struct Tryz.underlying65 (hf 2 _ l2 rfl rfl)
  obtain ⟨p0, p1, rfl⟩ := two_ls hlen2
  obtain ⟨fuel, rfl⟩ := read_int Tryz.underlying3 (hf2 0 _ p0 rfl rfl)
  obtain ⟨a1, n1, z1, rfl, s1⟩ := read_slot (m := 5) Tryz.underlying63 c143_ (by kernel_rfl) (hf2 1 _ p1 rfl rfl)
  obtain ⟨ls3, rfl, hlen3, hf3⟩ := read_struct Tryz.underlying91 (hf 3 _ l3 rfl rfl)
  obtain ⟨q0, q1, q2, rfl⟩ := three_ls hlen3
  obtain ⟨a2, n2, z2, rfl, s2⟩ := read_slot (m := 5) Tryz.underlying88 c50_ (by kernel_rfl) (hf3 0 _ q0 rfl rfl)
  obtain ⟨a3, n3, z3, rfl, s3⟩ := read_slot (m := 5) Tryz.underlying89 c295_ (by kernel_rfl) (hf3 1 _ q1 rfl rfl)
  obtain ⟨a4, n4, z4, rfl, s4⟩ := read_slot (m := 5) Tryz.underlying88 c50_ (by kernel_rfl) (hf3 2 _ q2 rfl rfl)
  obtain ⟨a5, n5, z5, rfl, s5⟩ := read_slot (m := 5) Tryz.underlying84 c86_ (by kernel_rfl) (hf 4 _ l4 rfl rfl)
  exact ⟨⟨seq, val, fuel, a1, a2, a3, a4, a5, n1, n2, n3, n4, n5, z1, z2, z3, z4, z5⟩, rfl, s1, s2, s3, s4, s5⟩
theorem rcs_of {g : Nat → Option AObj} : ∀ (ls : List (List Value)), (∀ l ∈ ls, ∃ r : Rc, l = r.cells ∧ r.Ok g) → ∃ rs : List Rc, ls = rs.map Rc.cells ∧ ∀ r ∈ rs, r.Ok g
  | [], _ => ⟨[], rfl, (fun _ h => by cases h)⟩
  | l :: ls, h => by
    obtain ⟨r, rfl, hr⟩ := h l (List.mem_cons_self ..)
    obtain ⟨rs, rfl, hrs⟩ := rcs_of ls fun x hx => h x (List.mem_cons_of_mem _ hx)
    refine ⟨r :: rs, rfl, fun x hx => ?_⟩
    rcases List.mem_cons.1 hx with rfl | hx
    · exact hr
    · exact hrs x hx
set_option maxRecDepth 100000 in
theorem lslot_of {s : St} {n : Nat} {t : TypeId} {cs : List Value} (ht : Tryz.prog.underlying t = some (.slice 94)) (h : Fits Tryz.prog s.get (n + 5) t cs) : ∃ lv rs, cs = [lv] ∧ LSlot s lv rs := by
  rcases read_slice ht h with rfl | ⟨i, ls, rfl, hg, _, hf, _⟩
  · exact ⟨_, [], rfl, .inl ⟨rfl, rfl⟩⟩
  · obtain ⟨rs, rfl, hrs⟩ := rcs_of ls fun l hl => rc_of_fits (hf l hl)
    rw [c94_, List.length_map]
    rw [List.length_map] at hg
    exact ⟨_, rs, rfl, .inr ⟨i, rfl, hg, hrs⟩⟩
end Go.Proofs.YtfnbgfmmlgbfjaaGreatDoor
