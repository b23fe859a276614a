/-
  Building, slicing, addresses, assertions.
-/
import Derived.Test.YtfnbgfmmlgbfjaaGreatDoorAiOps2
namespace Go.Ai

theorem setAll_eq (off : Nat) : ∀ (vs : List Value) (k : Nat) (cells : Array Value), off + k + vs.length ≤ cells.size →
    ((vs.zipIdx k).foldl (fun cs (x : Value × Nat) => cs.setIfInBounds (off + x.2) x.1) cells).toList = splice cells.toList (off + k) vs := by
  intro vs
  induction vs with
  | nil => intro k cells h; simp [splice]
  | cons v r ih =>
    intro k cells h
    simp only [List.zipIdx_cons, List.foldl_cons]
    simp only [List.length_cons] at h
    rw [ih (k + 1) _ (by simp; omega)]
    apply List.ext_getElem?
    intro j
    rw [splice_get _ _ _ (by simp; omega), splice_get _ _ _ (by simp; omega)]
    rw [Array.toList_setIfInBounds, List.getElem?_set]
    by_cases h1 : off + (k + 1) ≤ j ∧ j < off + (k + 1) + r.length
    · rw [if_pos h1, if_pos (by simp; omega)]
      obtain ⟨m, rfl⟩ : ∃ m, j = off + (k + 1) + m := ⟨j - (off + (k + 1)), by omega⟩
      rw [show off + (k + 1) + m - (off + (k + 1)) = m from by omega, show off + (k + 1) + m - (off + k) = m + 1 from by omega]
      rfl
    · rw [if_neg h1]
      by_cases h2 : off + k = j
      · subst h2
        rw [if_pos rfl, if_pos (by simp; omega), if_pos (by simp)]
        simp
      · rw [if_neg h2, if_neg (by simp; omega)]

theorem fill_sim {β : Bij} {place place' : Nat → Option (Nat × Nat)} (hp : ∀ i x, place i = some x → place' i = some x) : ∀ (parts parts' : List (Nat × Value)) (cs : List Value) (cs' : Array Value) (r : List Value),
    VRs β cs cs'.toList → parts'.map (·.1) = parts.map (·.1) → VRs β (parts.map (·.2)) (parts'.map (·.2)) → fillV place cs parts = some r → ∃ r', Instr.fill place' cs' parts' = some r' ∧ VRs β r r'.toList := by
  intro parts
  induction parts with
  | nil =>
    intro parts' cs cs' r hc h1 h2 hf
    cases parts' with
    | nil => obtain rfl := Option.some.inj hf; exact ⟨cs', rfl, hc⟩
    | cons => simp at h1
  | cons x rest ih =>
    intro parts' cs cs' r hc h1 h2 hf
    cases parts' with
    | nil => simp at h1
    | cons x' rest' =>
      obtain ⟨i, v⟩ := x
      obtain ⟨i', v'⟩ := x'
      simp only [List.map_cons, List.cons.injEq] at h1 h2
      obtain ⟨rfl, h1⟩ := h1
      obtain ⟨hv, h2⟩ := h2.rest
      unfold fillV at hf
      split at hf
      · cases hf
      · rename_i off size hpl
        split at hf
        · cases hf
        · rename_i hn
          have hn : v.cells.size = size ∧ off + size ≤ cs.length := by
            by_cases h1 : v.cells.size = size
            · by_cases h2 : off + size ≤ cs.length
              · exact ⟨h1, h2⟩
              · exact absurd (by simp; right; omega) hn
            · exact absurd (by simp [h1]) hn
          have hsz := hv.cells_size
          have hl := hc.length
          simp only [Array.length_toList] at hl
          unfold Instr.fill
          rw [hp _ _ hpl]
          simp only
          rw [if_neg (by simp; omega)]
          refine ih rest' _ _ r ?_ h1 h2 hf
          have := setAll_eq off v'.cells.toList 0 cs' (by simp; omega)
          rw [← Array.foldl_toList]
          simp only [Array.toList_zipIdx]
          rw [Nat.add_zero] at this
          rw [this]
          exact hc.splice off hv.cells

section
variable {P : Program} {C : Cfg} {K : Code → Prop} (H : CfgOk P C K) {β : Bij} {own : Nat → Option Nat} {s : St} {w : World}

theorem mapM_some {α γ : Type} (f : α → Option γ) : ∀ (l : List α), (∀ a ∈ l, (f a).isSome = true) → ∃ r, l.mapM f = some r ∧ ∀ i : Nat, r[i]? = (l[i]?).bind f
  | [], _ => ⟨[], rfl, by simp⟩
  | a :: l, h => by
    obtain ⟨r, hr, hi⟩ := mapM_some f l fun b hb => h b (by simp [hb])
    obtain ⟨x, hx⟩ := Option.isSome_iff_exists.1 (h a (by simp))
    refine ⟨x :: r, by simp [List.mapM_cons, hx, hr], fun i => ?_⟩
    cases i with
    | zero => simp [hx]
    | succ i => simpa using hi i

include H in
theorem build_sim {t : TypeId} {parts : List (Nat × Value)} {parts' : Array (Nat × Value)} {v : Value} (hv : buildV C t parts = some v) (h1 : parts'.toList.map (·.1) = parts.map (·.1)) (h2 : VRs β (parts.map (·.2)) (parts'.toList.map (·.2))) :
    ∃ v', (Instr.build t parts').run P w = .ok v' w ∧ VR β v v' := by
  unfold buildV at hv
  split at hv
  · rename_i fs _ _ z _ _ hty
    obtain ⟨hu, it, hit, _, _, hz, _⟩ := H.ty _ _ hty
    split at hv
    · rename_i hall
      rw [Option.map_eq_some_iff] at hv
      obtain ⟨cs, hcs, rfl⟩ := hv
      obtain ⟨pl, hpl, hpli⟩ := mapM_some (fun f : Field => (P.info? f.type).map fun i => (f.offset, i.size)) fs.toList (by
        intro f hf
        have := List.all_eq_true.1 hall f hf
        obtain ⟨ft, hft⟩ := Option.isSome_iff_exists.1 this
        obtain ⟨_, i, hi, _⟩ := H.ty _ _ hft
        simp [hi])
      have hz0 := H.zero _ _ _ hty rfl
      obtain ⟨r', hr, hrr⟩ := fill_sim (β := β) (place := places C fs) (place' := fun i => pl.toArray[i]?) (by
        intro i x hx
        unfold places at hx
        split at hx
        · rename_i f hf
          rw [Option.map_eq_some_iff] at hx
          obtain ⟨ft, hft, rfl⟩ := hx
          obtain ⟨_, j, hj, hs, _⟩ := H.ty _ _ hft
          show pl.toArray[i]? = _
          rw [List.getElem?_toArray, hpli i]
          have : fs.toList[i]? = some f := by simpa using hf
          simp [this, hj, hs]
        · cases hx) _ parts'.toList _ z.cells cs (litOk_self β hz0).cells h1 h2 hcs
      refine ⟨.agg r', run_build w t parts' r' ?_, .agg hrr⟩
      simp only [Program.built, hit, hu, hz, hpl]
      exact hr
    · cases hv
  · rename_i elem _ _ z _ _ hty
    obtain ⟨hu, it, hit, _, _, hz, _⟩ := H.ty _ _ hty
    split at hv
    · rename_i et het
      obtain ⟨_, ie, hie, hs, _⟩ := H.ty _ _ het
      rw [Option.map_eq_some_iff] at hv
      obtain ⟨cs, hcs, rfl⟩ := hv
      have hz0 := H.zero _ _ _ hty rfl
      obtain ⟨r', hr, hrr⟩ := fill_sim (β := β) (place := fun i => some (i * et.size, et.size)) (place' := fun i => some (i * ie.size, ie.size)) (by
        intro i x hx; rw [hs]; exact hx) _ parts'.toList _ z.cells cs (litOk_self β hz0).cells h1 h2 hcs
      refine ⟨.agg r', run_build w t parts' r' ?_, .agg hrr⟩
      simp only [Program.built, hit, hu, hz, hie]
      exact hr
    · cases hv
  · cases hv

theorem addr_add (b o n : Nat) : (⟨b, o, none⟩ : Addr).add n = ⟨b, o + n, none⟩ := by
  unfold Addr.add; split <;> simp_all

/-- a pointer, some cells on -/
theorem ptr_plus {a : Addr} {n : Nat} {c : Value} (h : VR β (.pointer (some a)) c) : ∃ a', c = .pointer (some a') ∧ VR β (.pointer (some (Addr.plus a n))) (.pointer (some (a'.add n))) := by
  cases h with
  | ptrObj h => exact ⟨_, rfl, by rw [addr_add]; exact .ptrObj h⟩
  | @ptrArr i o hi L h h1 =>
    refine ⟨_, rfl, ?_⟩
    rw [addr_add]
    have := VR.ptrArr (β := β) (o := o + n) h (by omega)
    rw [show L.base + (o - L.lo) + n = L.base + (o + n - L.lo) from by omega]
    exact this

include H in
theorem fieldAddr_sim {t : TypeId} {x x' : Value} {i : Nat} {v : Value} (hv : fieldAddrV C t x i = some v) (hx : VR β x x') : ∃ v', (Instr.fieldAt t x' i).run P w = .ok v' w ∧ VR β v v' := by
  unfold fieldAddrV at hv
  split at hv
  · rename_i fs _ _ _ _ _ a hty
    split at hv
    · rename_i f hf
      split at hv
      · rename_i ft hft
        split at hv
        · cases hv
        · rename_i hs0
          obtain rfl := Option.some.inj hv
          obtain ⟨a', rfl, hr⟩ := ptr_plus (n := f.offset) hx
          refine ⟨_, ?_, hr⟩
          simp only [Instr.fieldAt, Sem.run_bind, run_under H hty, Result.andThen_ok, hf, Instr.sureAddr, Sem.run_pure, fieldPlace, run_size H hft]
          rw [if_neg hs0]; rfl
      · cases hv
    · cases hv
  · cases hv

theorem mul_bound {i len sz m : Nat} (hi : i < len) (h : len * sz ≤ m) : i * sz + sz ≤ m := by
  have := Nat.mul_le_mul_right sz hi
  rw [Nat.succ_mul] at this
  omega

include H in
theorem indexAddr_sim {t : TypeId} {x x' ix ix' : Value} {v : Value} (hv : indexAddrV C t x ix = some v) (hx : VR β x x') (hi : VR β ix ix') : ∃ v', (Instr.indexAt t x' ix').run P w = .ok v' w ∧ VR β v v' := by
  unfold indexAddrV at hv
  split at hv
  · rename_i len elem _ _ _ _ _ a k i hty
    obtain rfl := int_inv hi
    split at hv
    · rename_i et het
      split at hv
      · rename_i hb
        obtain rfl := Option.some.inj hv
        obtain ⟨a', rfl, hr⟩ := ptr_plus (n := i.toNat * et.size) hx
        refine ⟨_, ?_, hr⟩
        simp [Instr.indexAt, asIntOf, run_under H hty, Instr.sureAddr, hb, run_size H het]
      · cases hv
    · cases hv
  · rename_i elem _ _ _ _ _ a len sz k i hty
    obtain rfl := int_inv hi
    split at hv
    · rename_i et het
      split at hv
      · rename_i hb
        obtain ⟨hb0, hb1, hb2⟩ := hb
        obtain rfl := Option.some.inj hv
        have key : ∀ (c : Addr) (cap : Nat), (Instr.indexAt t (.slice (some c) len cap) (.int k i)).run P w = .ok (.pointer (some (c.add (i.toNat * sz)))) w := by
          intro c cap
          simp [Instr.indexAt, asIntOf, run_under H hty, hb1, hb2, run_size H het, hb0]
        cases hx with
        | sliceObj h hz hc =>
          refine ⟨_, key _ _, ?_⟩
          rcases hc with ⟨rfl, _, _⟩ | ⟨_, _, rfl, _⟩
          · rw [addr_add]; exact .ptrObj h
          · exfalso; omega
        | @sliceArr j o hi' _ _ _ L c h h1 h2 hz hs hc =>
          refine ⟨_, key _ _, ?_⟩
          rcases hc with ⟨rfl, _, _⟩ | ⟨_, _, rfl, _⟩
          · rw [addr_add]
            have := VR.ptrArr (β := β) (o := o + i.toNat * sz) h (by omega)
            rw [show L.base + (o - L.lo) + i.toNat * sz = L.base + (o + i.toNat * sz - L.lo) from by omega]
            exact this
          · exfalso; omega
      · cases hv
    · cases hv
  · cases hv

end
end Go.Ai
