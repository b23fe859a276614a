/- The interpreter: what holds of it. -/
import Derived.Test.YtfpkfcdeoiofiaaAiCon
import Derived.Shelf.SlSortCmp.NoneTotal
set_option linter.unusedVariables false
set_option linter.unusedSimpArgs false
set_option linter.unnecessarySimpa false
/-
  What the kit knows of slices.SortFunc, taken over: a call that sorts a row.
-/
namespace Go.Ai
open Go.Sort Go.Shelf Go.Proofs

/-- numbers and truths: what stands for one is the same one -/
def plainV : Value → Bool
  | .int _ _ | .bool _ => true
  | _ => false
theorem plainV_eq {β : Bij} {v x : Value} (h : plainV v = true) (hv : VR β v x) : x = v := by
  cases v <;> first | (cases h; done) | (cases hv; rfl)
theorem plainV_vr {β : Bij} {v : Value} (h : plainV v = true) : VR β v v := by
  cases v <;> first | (cases h; done) | (constructor; done)
theorem plainV_one {v : Value} (h : plainV v = true) : one v = true := by cases v <;> first | rfl | cases h
theorem plainV_cell {v : Value} (h : plainV v = true) : v.oneCell' = true := by cases v <;> first | rfl | cases h
theorem plainV_vrs {β : Bij} : ∀ {l : List Value}, l.all plainV = true → VRs β l l
  | [], _ => .nil
  | v :: l, h => by
    simp only [List.all_cons, Bool.and_eq_true] at h
    exact .cons (plainV_vr h.1) (plainV_vrs h.2)

/-- what is left behind is more memory and more draws -/
theorem grown_of_ext {β β' : Bij} {own own' : Nat → Option Nat} {s s' : St} {w w' : World} (e : Ext β own s w β' own' s' w') (h0 : ∀ b, own b = none) : ∃ q os, w' = Sort.grow (w.drewN q) os := by
  refine ⟨w'.drawn - w.drawn, w'.heap.extract w.heap.size w'.heap.size, ?_⟩
  have h1 := e.os; have h2 := e.tape; have h3 := e.output; have h4 := e.drawn; have h5 := e.size
  have h6 : w'.heap = w.heap ++ w'.heap.extract w.heap.size w'.heap.size := by
    apply Array.ext_getElem?
    intro j
    by_cases hj : j < w.heap.size
    · rw [Array.getElem?_append_left hj]
      exact (e.cframe j hj fun i hi => by rw [h0] at hi; cases hi).2
    · rw [Array.getElem?_append_right (by omega), Array.getElem?_extract]
      by_cases hj2 : j < w'.heap.size
      · rw [if_pos (by omega)]
        congr 1; omega
      · rw [if_neg (by omega)]
        simp; omega
  obtain ⟨hp, tp, dr, o, out⟩ := w'
  obtain ⟨hp0, tp0, dr0, o0, out0⟩ := w
  simp only at h1 h2 h3 h4 h5 h6
  subst h1 h2 h3
  unfold Sort.grow World.drewN
  simp only [World.mk.injEq, true_and, and_true]
  exact ⟨h6, by omega⟩

theorem grown_ext {K : Code → Prop} {β : Bij} {own : Nat → Option Nat} {s : St} {w : World} (hs : SR K β own s.get w) (n : Nat) (os : Array Obj) : Ext β own s w β own s (Sort.grow (Sort.ahead w n) os) ∧ SR K β own s.get (Sort.grow (Sort.ahead w n) os) := by
  have hsz : (Sort.grow (Sort.ahead w n) os).heap.size = w.heap.size + os.size := by simp [Sort.grow, Sort.ahead]
  refine change hs (fun _ => False) (fun j h => h.elim) (Nat.le_refl _) (Bij.le_refl _) (fun _ _ => rfl) (fun _ _ => rfl) (fun _ _ => rfl) (by omega)
    (fun b hb _ => ⟨rfl, ?_⟩) (fun _ h => h.elim) (fun _ h => h.elim) (fun _ h => h.elim) (fun _ h => h.elim) (fun _ h => h.elim) (fun b i hb => by have := hs.small b i hb; omega) rfl rfl rfl (e4 := Nat.le_add_right _ _)
  show (w.heap ++ os)[b]? = _
  rw [Array.getElem?_append_left hb]

section
variable {P : Program} {ρ : Ren} {α : Type} [Inhabited α] {k : Nat} {enc : α → List Value} {cf : α → α → Int} {f g : FuncId}

/-- what compares two elements, in whatever world -/
theorem cmp_lays (h : ∀ x y, SC P 0 g [.agg ⟨enc x⟩, .agg ⟨enc y⟩] (St.empty 0) fun v _ => v = .int .i64 (cf x y)) (hv : ∀ x, (enc x).all plainV = true) (blk off size : Nat) (w : World) : CmpLays P g #[] enc k cf blk off size w := by
  intro m os dk _ x y cs
  generalize sortWorldK enc k w blk off m dk os = W
  obtain ⟨v, s', β', own', w', v', rfl, _, _, h2, _, h4, _, fr, q1, q2, q3⟩ := h x y (wf_empty 0) β00 own00 W (#[.agg (enc x).toArray, .agg (enc y).toArray] ++ #[]) (sr00 _ _) glob00 (fun i hi => absurd hi (dom00 i))
    (by simpa using (VRs.cons (.agg (by simpa using plainV_vrs (hv x))) (.cons (.agg (by simpa using plainV_vrs (hv y))) .nil))) cs
  have : v' = .int .i64 (cf x y) := by cases h4; rfl
  subst this
  exact ⟨_, w', fr, ⟨rfl, grown_of_ext h2 fun _ => rfl⟩, q1, q2, q3⟩

def srt (cf : α → α → Int) (l : List α) : List α := l.mergeSort fun x y => !ltOf cf y x
omit [Inhabited α] in
theorem srt_perm (l : List α) : (srt cf l).Perm l := List.mergeSort_perm _ _
omit [Inhabited α] in
theorem srt_len (l : List α) : (srt cf l).length = l.length := (srt_perm l).length_eq

theorem flatL_flatK (hk : ∀ x, (enc x).length = k) (l : List α) : (flatK enc k l.toArray).toList = flatL enc l := by
  apply List.ext_getElem?
  intro t
  have hL := flatL_len (f := enc) (l := l) hk
  by_cases ht : t < l.length * k
  · have hkp : 0 < k := by
      rcases Nat.eq_zero_or_pos k with h | h
      · subst h; simp at ht
      · exact h
    have hi : t / k < l.length := (Nat.div_lt_iff_lt_mul hkp).2 ht
    have h1 := flatL_sub (f := enc) (l := l) (i := t / k) (o := t % k) (w := 1) hk (List.getElem?_eq_getElem hi) (Nat.mod_lt t hkp)
    have hmod : t % k < k := Nat.mod_lt t hkp
    have h2 : (flatK enc k l.toArray)[t]! = (enc l[t / k])[t % k]! := by
      rw [get_flatK enc k l.toArray t (by simpa using ht)]
      have : l.toArray[t / k]! = l[t / k] := by simp [hi]
      rw [this]
    have h3 : t / k * k + t % k = t := by rw [Nat.mul_comm]; exact Nat.div_add_mod t k
    rw [h3] at h1
    have h4 : (flatL enc l)[t]? = (enc l[t / k])[t % k]? := by
      have := congrArg (fun z => z[0]?) h1
      simpa [List.getElem?_take, List.getElem?_drop] using this
    rw [h4]
    have hsz : t < (flatK enc k l.toArray).size := by simpa using ht
    have hb : t % k < (enc l[t / k]).length := by rw [hk]; exact hmod
    rw [Array.getElem?_toList, getElem?_pos _ t hsz, List.getElem?_eq_getElem hb]
    congr 1
    rw [getElem!_pos (flatK enc k l.toArray) t hsz] at h2
    rw [h2, getElem!_pos (enc l[t / k]) (t % k) hb]
  · rw [List.getElem?_eq_none (by simpa using Nat.le_of_not_lt ht), List.getElem?_eq_none (by rw [hL]; omega)]

/-- slices.SortFunc on a row -/
theorem sort_sc (L : SlLaysF0.n6 P ρ) (hf : ρ.f 6 = f) (aE : ∀ w, (isAgg (ρ.t 24)).run P w = .ok true w) (zE : ∀ w, (Go.sizeOf (ρ.t 24)).run P w = .ok k w) (hk : ∀ x, (enc x).length = k) (hkp : 0 < k) (hv : ∀ x, (enc x).all plainV = true)
    (hO : SWO (ltOf cf)) (hT : ∀ x y, ltOf cf x y = false → ltOf cf y x = false → x = y) (eg : ∀ args w, (callFunc g args).run P w = .ok (.enter g args) w) (hc : ∀ x y, SC P 0 g [.agg ⟨enc x⟩, .agg ⟨enc y⟩] (St.empty 0) fun v _ => v = .int .i64 (cf x y)) (l : List α) (hl : l.length < 4611686018427387904) :
    SC P 0 f [slL 0 k l.length, .func (.func g) #[] #[]] ((St.empty 0).new (rowL enc l)) fun v s' => v = .tuple #[] ∧ s' = ((St.empty 0).new (rowL enc l)).set 0 (rowM enc (l.length * k) (srt cf l)) := by
  subst hf
  intro hw β own w args' hs hG hsh ha cs
  have en : ∀ args w, (callFunc (ρ.f 6) args).run P w = .ok (.enter (ρ.f 6) args) w := L.f6.enters rfl
  have hget : ((St.empty 0).new (rowL enc l)).get 0 = some (.arr (flatL enc l) 0 false) := by rw [St.get_new]; rfl
  have hlen := flatL_len (f := enc) (l := l) hk
  have hall : ∀ l : List α, (flatL enc l).all plainV = true := fun l => by
    rw [List.all_eq_true]
    intro v hv'
    simp only [flatL, List.mem_flatten, List.mem_map] at hv'
    obtain ⟨_, ⟨x, _, rfl⟩, hx⟩ := hv'
    exact List.all_eq_true.1 (hv x) v hx
  obtain ⟨args'⟩ := args'
  simp only at ha
  obtain ⟨a0, r, rfl, h0, ha⟩ := ha.cons_inv
  obtain ⟨a1, r, rfl, h1, ha⟩ := ha.cons_inv
  obtain rfl := ha.nil_inv
  have e1 : a1 = .func (.func g) #[] #[] := by
    cases h1 with
    | @func _ f' _ x1 _ x2 hF h2 h3 =>
      obtain ⟨x1⟩ := x1; obtain ⟨x2⟩ := x2
      obtain rfl : x1 = [] := h2.nil_inv
      obtain rfl : x2 = [] := h3.nil_inv
      cases hF
      rfl
  subst e1
  by_cases hnil : l.length = 0
  · -- nothing to sort
    obtain rfl : l = [] := List.length_eq_zero_iff.1 hnil
    obtain ⟨p, cap, rfl⟩ : ∃ p cap, a0 = .slice p 0 cap := by
      cases h0 <;> exact ⟨_, _, rfl⟩
    obtain ⟨e, w', fr, ⟨rfl, rfl⟩, q1, q2, q3⟩ := AnyF.slices_SortFunc_none L p cap (.func (.func g) #[] #[]) w cs
    have hset : ((St.empty 0).new (rowL enc [])).set 0 (rowM enc (([] : List α).length * k) (srt cf [])) = (St.empty 0).new (rowL enc []) := by
      have : rowM enc (([] : List α).length * k) (srt cf []) = rowL enc [] := by simp [rowM, rowL, srt, flatL]
      rw [this]; rfl
    exact ⟨_, _, β, own, _, _, ⟨rfl, rfl⟩, by rw [hset]; exact hw, by rw [hset]; exact .refl _, by rw [hset]; exact .refl .., by rw [hset]; exact hs, .tuple .nil, en _ _, fr, q1, q2, q3⟩
  · -- a row that is there
    have hpos : 0 < l.length := Nat.pos_of_ne_zero hnil
    obtain ⟨L0, c, cap, hL, h2, hlo, hc2, rfl⟩ : ∃ (L0 : ArrLoc) (c : Addr) (cap : Nat), β.arr 0 (l.length * k) = some L0 ∧ c = ⟨L0.block, L0.base + (0 - L0.lo), none⟩ ∧ L0.lo ≤ 0 ∧ l.length ≤ cap ∧ a0 = .slice (some c) l.length cap := by
      unfold slL at h0
      generalize hn : l.length = n at h0
      cases h0 with
      | sliceArr h h1 h2 hz hs' hc' _ =>
        rcases hc' with ⟨e, g1, _⟩ | ⟨e, _⟩
        · exact ⟨_, _, _, h, e, h1, g1, rfl⟩
        · omega
      | sliceVir h hz => omega
    subst h2
    obtain ⟨_, gv⟩ := hs.arr _ _ _ hL _ _ _ hget
    obtain ⟨⟨g1, g2, cc, t, fr0, e0, hfr, hcs, g4⟩, gs, go⟩ := gv (Nat.zero_le _)
    have hbl : L0.block < w.heap.size := gs
    have hoff : L0.base + (0 - L0.lo) = L0.base := by omega
    have hcell : ∀ j, j < l.length * k → w.cell? ⟨L0.block, L0.base + j, none⟩ = (flatL enc l)[j]? ∧ w.frozen? ⟨L0.block, L0.base + j, none⟩ = false := fun j hj => by
      obtain ⟨v, v', q1, q2, q3⟩ := g4 j (by omega) hj
      have q2' : cc[L0.base + j]? = some v' := by rw [← q2]; congr 1; omega
      have hp : plainV v = true := List.all_eq_true.1 (hall l) v (List.mem_of_getElem? q1)
      constructor
      · unfold World.cell?
        rw [e0]
        simp only [Option.isSome_none, Bool.false_eq_true, if_false]
        rw [q2', q1, plainV_eq hp q3]
      · unfold World.frozen?
        rw [e0]
        obtain ⟨flo, fhi⟩ := fr0
        have hlt : L0.base + j < cc.size := by
          rcases Nat.lt_or_ge (L0.base + j) cc.size with h | h
          · exact h
          · rw [Array.getElem?_eq_none h] at q2'; cases q2'
        rcases hfr rfl with h | h
        · simp only at h ⊢; subst h
          by_cases hq : flo ≤ L0.base + j <;> simp [hq] <;> omega
        · simp only at h ⊢
          have : ¬ flo ≤ L0.base + j := by omega
          simp [this]
    have hH : ∀ l' : List α, l'.length = l.length → (∀ j, j < l.length * k → w.cell? ⟨L0.block, L0.base + j, none⟩ = (flatL enc l')[j]?) → HoldsK enc k w L0.block L0.base l'.toArray := fun l' hl' hq j hj => by
      have hj' : j < l.length * k := by simpa [hl'] using hj
      refine ⟨?_, (hcell j hj').2⟩
      rw [hq j hj', ← flatL_flatK hk, Array.getElem?_toList, getElem?_pos _ j hj, getElem!_pos (flatK enc k l'.toArray) j hj]
      rfl
    have key := AnyQ.slices_SortFunc_total L k aE zE enc hk (fun x v hx => plainV_cell (List.all_eq_true.1 (hv x) v hx)) cf hO g #[] L0.block L0.base cap l.toArray w eg (cmp_lays hc hv _ _ _ _) (hH l rfl fun j hj => (hcell j hj).1) hbl (by simpa using hl) hT
    obtain ⟨e, w', fr, ⟨rfl, n, os, rfl⟩, q1, q2, q3⟩ := key cs
    -- the row is written
    have hsl := srt_len (cf := cf) l
    have hlen2 : (flatL enc (srt cf l)).length = l.length * k := by rw [flatL_len hk, hsl]
    have hput : ((St.empty 0).new (rowL enc l)).putCells ⟨0, 0, some (l.length * k)⟩ (flatL enc (srt cf l)) = some (((St.empty 0).new (rowL enc l)).set 0 (rowM enc (l.length * k) (srt cf l))) := by
      unfold St.putCells
      simp only [hget]
      rw [if_pos ⟨Nat.zero_le _, hlen.symm, by rw [hlen2]; omega, by
        rw [List.all_eq_true]; exact fun v hx => plainV_one (List.all_eq_true.1 (hall _) v hx)⟩]
      have : splice (flatL enc l) 0 (flatL enc (srt cf l)) = flatL enc (srt cf l) := by
        unfold Ai.splice
        rw [List.take_zero, List.nil_append, Nat.zero_add, hlen2, ← hlen, List.drop_length, List.append_nil]
      rw [this]; rfl
    obtain ⟨w1, u1, u2, u3, u4, u5⟩ := putCells_sim (P := P) hs hw hput (VR.ptrArr (o := 0) hL hlo) (plainV_vrs (hall (srt cf l)))
    rw [hoff] at u1
    have u6 := run_storeCells_cells (P := P) L0.block L0.base (flatL enc (srt cf l)) 0 w (fun j hj => by
        rw [Nat.add_zero, (hcell j (by omega)).1, List.getElem?_eq_getElem (by rw [hlen]; omega)]; rfl) (fun j hj => by rw [Nat.add_zero]; exact (hcell j (by omega)).2) (fun v hx => plainV_cell (List.all_eq_true.1 (hall _) v hx))
    rw [u6] at u1
    simp only [Nat.add_zero, Result.ok.injEq, true_and] at u1
    -- what the sort leaves
    have hself := putRow_self id w L0.block L0.base (flatK enc k l.toArray) (hH l rfl fun j hj => (hcell j hj).1)
    have hrow : putRowK enc k w L0.block L0.base (srt cf l).toArray = w1 := by
      rw [← u1]
      have := setCells_putRow w L0.block L0.base (flatL enc (srt cf l)) 0 (flatK enc k l.toArray) (by rw [hlen2]; simp)
      rw [hself, Nat.add_zero] at this
      rw [this]
      unfold putRowK
      congr 1
      refine ext_get! (by simp [hsl]) fun j hj => ?_
      have hj' : j < l.length * k := by simpa [hsl] using hj
      rw [get_setMany _ _ _ j (by simpa using hj'), if_pos ⟨Nat.zero_le _, by rw [hlen2]; omega⟩, Nat.sub_zero, ← flatL_flatK hk]
      have hj3 : j < (flatK enc k (srt cf l).toArray).size := by simpa [hsl] using hj'
      rw [getElem!_pos (flatK enc k (srt cf l).toArray) j hj3, getElem!_pos (flatK enc k (srt cf l).toArray).toList j (by simpa using hj3)]
      simp
    have hW : sortWorldK enc k w L0.block L0.base n (l.mergeSort fun x y => !ltOf cf y x).toArray os = Sort.grow (Sort.ahead w1 n) os := by
      unfold sortWorldK
      rw [← hrow]
      rfl
    obtain ⟨v2, v3⟩ := grown_ext u3 n os
    rw [hW] at q1 q3
    refine ⟨_, _, β, own, _, _, ⟨rfl, rfl⟩, u4, ?_, u2.trans v2, v3, .tuple .nil, en _ _, fr, ?_, q2, q3⟩
    · exact (Grow.putCells hput hw).1
    · have hoff' : (⟨L0.block, L0.base + (0 - L0.lo), none⟩ : Addr) = ⟨L0.block, L0.base, none⟩ := by rw [hoff]
      rw [hoff']
      simp only [List.size_toArray] at q1
      exact q1
end
end Go.Ai