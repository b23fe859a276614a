/-
  From a call's contract to a law's statement: the law returned true, and what was there stays.
-/
import Derived.Test.YtfnbgfmmlgbfjaaGreatDoorAiEq
import Derived.ProofKit
namespace Go.Ai
open Go.ChangeShapes Go.WideShapes Go.RowKit

section
variable {H : Type} {enc : TypeId × Value → H} {P : Program}

theorem carry_all (hl : laidOutB P = true) {W W' : World} (hb : Below W.heap.size W W') : ∀ {ts : List TypeId} {vs : List Value} {ds : List (DataW H)} {ps : List MemPlace}, (∀ t ∈ ts, P.readableRec t = true ∧ t < P.types.size) →
    DataW.TrodAll enc P W 0 (fun _ => true) true ts vs ds ps → (∀ x ∈ ps, x.block < W.heap.size) → DataW.TrodAll enc P W' 0 (fun b => decide (b < W.heap.size)) true ts vs ds ps
  | [], _, _, _, _, h, _ => by
    obtain ⟨rfl, rfl, rfl⟩ := trodAll_nil h
    rfl
  | t :: ts, _, _, _, ht, h, hp => by
    obtain ⟨v, vs, d, ds, p, q, rfl, rfl, rfl, h1, h2⟩ := trodAll_cons h
    have r1 := ht t (List.mem_cons_self ..)
    exact ⟨p, q, Below.trod hl r1.1 r1.2 h1 hb fun x hx => hp x (List.mem_append_left _ hx), carry_all hl hb (fun t' ht' => ht t' (List.mem_cons_of_mem _ ht')) h2 fun x hx => hp x (List.mem_append_right _ hx), rfl⟩

theorem post_true {f : Func} {s : ChangeSpec} {apart fresh handsOn : Bool} {W W' : World} {args : Array Value} {ds gs : List (DataW H)} {before : List MemPlace} {tb : TypeId}
    (hW : DataW.Whole enc P f.params.toList s.vars apart W args.toList ds gs before) (hvars : s.vars = []) (hb : Below W.heap.size W W') (hl : laidOutB P = true)
    (hpar : f.params.toList.all (fun t => P.readableRec t && decide (t < P.types.size)) = true) (hres : f.resultTypes = #[tb]) (htb : P.underlying tb = some .bool)
    (hr1 : (s.fn H (ds ++ gs)).results = [.lit (.bool true)]) (hr2 : (s.fn H (ds ++ gs)).args = ds) (hr3 : (s.fn H (ds ++ gs)).vars = []) :
    s.post enc P f apart fresh handsOn false W args (.bool true) W' := by
  have hlt := hW.lt
  have hW' := hW
  obtain ⟨p, q, hA, hV, rfl, _, _⟩ := hW'
  rw [hvars] at hV
  obtain ⟨rfl, rfl⟩ := trodVars_none hV
  refine ⟨ds, [], p ++ [], [], p, [], hW, ?_, ?_, ?_, World.keptBut_mono (fun x hx => ⟨hx, .inr (.inl (by simpa using hx))⟩) (hb.frame (· ∈ p ++ [])), fun h => by cases h⟩
  · rw [hr1, hres]
    exact ⟨[], [], shut_bool htb true, rfl, rfl⟩
  · rw [hr2]
    refine carry_all hl hb (fun t ht => ?_) hA fun x hx => hlt x (List.mem_append_left _ hx)
    have := List.all_eq_true.1 hpar t ht
    simpa using this
  · rw [hr3, hvars]
    rfl

theorem two_cells {l : Array Value} {a b : Value} (h : l.toList.length = 2) (h0 : (l.toList.drop 0).take 1 = [a]) (h1 : (l.toList.drop 1).take 1 = [b]) : l = #[a, b] := by
  obtain ⟨l⟩ := l
  match l, h with
  | [x, y], _ =>
    simp at h0 h1
    subst h0; subst h1
    rfl

/-- a struct of two integers -/
theorem open_ints2 {w : World} {t ti : TypeId} {f0 f1 : Field} {k : IntKind} {cs : Array Value} {x : DataW H × List MemPlace} {fuel base : Nat} {spare : Nat → Bool} {held : Bool} (ht : P.underlying t = some (.struct #[f0, f1])) (hi : P.underlying ti = some (.int k))
    (t0 : f0.type = ti) (t1 : f1.type = ti) (o0 : f0.offset = 0) (o1 : f1.offset = 1) (c1 : P.cellsOf ti = 1) (c2 : P.cellsOf t = 2) (h : DataW.trod enc P w base spare held fuel t (Value.agg cs).cells.toList = some x) : ∃ a b, cs = #[.int k a, .int k b] := by
  obtain ⟨y0, y1, m, _, hlen, g0, g1⟩ := trod_struct2 ht h
  rw [t0, o0, c1] at g0
  rw [t1, o1, c1] at g1
  rw [c2] at hlen
  obtain ⟨a, ha, _⟩ := DataW.trod_int hi g0
  obtain ⟨b, hb, _⟩ := DataW.trod_int hi g1
  exact ⟨a, b, two_cells hlen ha hb⟩

end
end Go.Ai
