/-
  Stores, rows: making, appending, copying; bytes and strings.
-/
import Derived.Test.YtfnbgfmmlgbfjaaGreatDoorAiOps5
import Derived.Laws.BytesString
import Derived.Laws.BytesArg
namespace Go.Ai

section
variable {P : Program} {C : Cfg} {K : Code → Prop} (H : CfgOk P C K) {β : Bij} {own : Nat → Option Nat} {s s' : St} {w : World}

theorem loose_frozen {fr : Nat × Nat} {n i : Nat} {g : Nat} {c : Array Value} {t : TypeId} (h : w.heap[g]? = some (.cells c t fr)) (hf : Loose fr n) (hi : i < n) : w.frozen? ⟨g, i, none⟩ = false := by
  simp only [World.frozen?, h]
  rcases hf with h | h
  · rw [h]
    by_cases h1 : fr.2 ≤ i
    · have : ¬ i < fr.2 := by omega
      simp [this]
    · simp [h1]
  · have : ¬ fr.1 ≤ i := by omega
    simp [this]

theorem one_oneCell {v : Value} (h : one v = true) : v.oneCell' = true := by cases v <;> first | rfl | (simp [one] at h)
theorem refy_oneCell {v : Value} (h : refy v = true) : v.oneCell' = true := by cases v <;> first | rfl | (simp [refy] at h)
theorem VR.one {v v' : Value} (h : VR β v v') (h1 : Ai.one v = true) : v'.oneCell' = true := by
  cases h <;> first | rfl | (rename_i h; exact refy_oneCell h) | (simp [Ai.one] at h1)

theorem setRow_self' (w : World) (g : Nat) (cur : Array Value) (t : TypeId) (fr : Nat × Nat) (hg : w.heap[g]? = some (.cells cur t fr)) : w.setRow g cur = w := setRow_self w g cur t fr hg

theorem run_storeCells_loose (g o : Nat) (t : TypeId) (fr : Nat × Nat) : ∀ (vs : List Value) (i : Nat) (cur : Array Value) (w : World), w.heap[g]? = some (.cells cur t fr) → Loose fr cur.size → o + i + vs.length ≤ cur.size → (∀ v ∈ vs, v.oneCell' = true) →
    ∃ cur', (storeCells ⟨g, o, none⟩ vs i).run P w = .ok () (w.setRow g cur') ∧ cur'.toList = splice cur.toList (o + i) vs
  | [], i, cur, w, hg, _, hl, _ => by
    refine ⟨cur, ?_, by simp [splice]⟩
    rw [setRow_self' w g cur t fr hg]; rfl
  | v :: rest, i, cur, w, hg, hf, hl, h1 => by
    simp only [List.length_cons] at hl
    have hi : o + i < cur.size := by omega
    have hcell : w.cell? ⟨g, o + i, none⟩ = some cur[o + i] := by simp [World.cell?, hg, hi]
    have hfro : w.frozen? ⟨g, o + i, none⟩ = false := loose_frozen hg hf hi
    have hst : (store ((⟨g, o, none⟩ : Addr).add i) v).run P w = .ok () (w.setRow g (cur.setIfInBounds (o + i) v)) := by
      rw [addr_add, run_store P w _ v _ (h1 v (by simp)), hcell]
      simp [hfro, setCell_eq_setRow w g (o + i) cur t fr v hg]
    obtain ⟨cur', h2, h3⟩ := run_storeCells_loose g o t fr rest (i + 1) (cur.setIfInBounds (o + i) v) (w.setRow g (cur.setIfInBounds (o + i) v)) (setRow_heap w g cur _ t fr hg) (by simpa using hf) (by simp; omega) (fun x hx => h1 x (by simp [hx]))
    refine ⟨cur', ?_, ?_⟩
    · simp only [storeCells, Sem.run_bind, hst, Result.andThen_ok, h2, setRow_setRow]
    · rw [h3]
      have h4 : o + i + (v :: rest).length ≤ cur.toList.length := by simp; omega
      apply List.ext_getElem?
      intro j
      rw [splice_get _ _ _ (by simp; omega), splice_get _ _ _ h4, Array.toList_setIfInBounds, List.getElem?_set]
      by_cases a1 : o + (i + 1) ≤ j ∧ j < o + (i + 1) + rest.length
      · rw [if_pos a1, if_pos (by simp; omega)]
        obtain ⟨m, rfl⟩ : ∃ m, j = o + (i + 1) + m := ⟨j - (o + (i + 1)), by omega⟩
        rw [show o + (i + 1) + m - (o + (i + 1)) = m from by omega, show o + (i + 1) + m - (o + i) = m + 1 from by omega]
        rfl
      · rw [if_neg a1]
        by_cases a2 : o + i = j
        · subst a2
          rw [if_pos rfl, if_pos (by simp; omega), if_pos (by simp)]
          simp
        · rw [if_neg a2, if_neg (by simp; omega)]

theorem all_one {vs vs' : List Value} (h : VRs β vs vs') (h1 : vs.all one = true) : ∀ v ∈ vs', v.oneCell' = true := by
  intro v hv
  obtain ⟨j, hj⟩ := List.getElem?_of_mem hv
  obtain ⟨x, hx, hr⟩ := h.get' hj
  exact hr.one (List.all_eq_true.1 h1 x (List.mem_of_getElem? hx))

theorem putCells_sim (hs : SR K β own s.get w) (hw : s.WF) {a a' : Addr} {vs vs' : List Value} (h : s.putCells a vs = some s') (ha : VR β (.pointer (some a)) (.pointer (some a'))) (hv : VRs β vs vs') :
    ∃ w', (storeCells a' vs').run P w = .ok () w' ∧ Ext β own s w β own s' w' ∧ SR K β own s'.get w' ∧ s'.WF ∧ s'.n = s.n := by
  unfold St.putCells at h
  have hvl := hv.length
  split at h
  · rename_i cs hg hsp
    split at h
    · rename_i hb
      obtain ⟨hle, hone⟩ := hb
      obtain rfl := Option.some.inj h
      cases ha with
      | ptrArr => cases hsp
      | @ptrObj i o b hbj =>
        obtain ⟨_, hbs, g3⟩ := hs.obj _ _ hbj
        obtain ⟨c, t, e, hr⟩ := g3 _ hg
        have hcl := hr.length
        simp only at hle hg
        have hsize : o + vs'.length ≤ c.size := by simp at hcl; omega
        obtain ⟨cur', h1, h2⟩ := run_storeCells_loose (P := P) b o t (0, 0) vs' 0 c w e (.inl rfl) (by simpa using hsize) (all_one hv hone)
        rw [Nat.add_zero] at h2
        obtain ⟨x1, x2⟩ := set_obj (w' := w.setRow b cur') (o := .cells (splice cs o vs)) (O := .cells cur' t (0, 0)) hs hw hbj hg (setRow_heap w b c cur' t (0, 0) e)
          ⟨cur', t, rfl, by rw [h2]; exact hr.splice o hv⟩ (by simp) (fun k hk => setRow_other w b k cur' hk) rfl rfl rfl
        exact ⟨_, h1, x1, x2, hw.set hg, rfl⟩
    · cases h
  · rename_i cs mv hi hg hsp
    split at h
    · rename_i hb
      obtain ⟨hmv, hhi, hle, hone⟩ := hb
      obtain rfl := Option.some.inj h
      cases ha with
      | ptrObj => cases hsp
      | @ptrArr i o hi' L hL hlo =>
        obtain rfl := Option.some.inj hsp
        subst hhi
        simp only at hle hg
        obtain ⟨_, gv⟩ := hs.arr _ _ _ hL _ _ _ hg
        obtain ⟨⟨g1, g2, c, t, fr, e, hfr, hcs, g4⟩, gs, go⟩ := gv hmv
        simp only [Bool.false_eq_true, if_false] at go
        have hlt := hw.lt hg
        obtain ⟨cur', h1, h2⟩ := run_storeCells_loose (P := P) L.block (L.base + (o - L.lo)) t fr vs' 0 c w e (hfr rfl) (by rw [Nat.add_zero]; omega) (all_one hv hone)
        rw [Nat.add_zero] at h2
        have hcur : cur'.size = c.size := by
          have : cur'.toList.length = c.toList.length := by rw [h2]; exact length_splice _ _ _ (by simp; omega)
          simpa using this
        have key := change (s' := s.set i (.arr (splice cs o vs) cs.length false)) (w' := w.setRow L.block cur') (β' := β) (own' := own) hs (fun j => j = i) (by rintro j rfl; exact ⟨hlt, fun _ => .inr ⟨_, L, hL⟩⟩) (Nat.le_refl _) (Bij.le_refl β) (fun _ _ => rfl) (fun _ _ => rfl)
          (fun j hj => by rw [St.get_set, if_neg hj]) (by simp)
          (fun b hb hno => ⟨rfl, setRow_other w L.block b cur' (by rintro rfl; exact hno i go rfl)⟩)
          (by
            rintro j rfl b hb
            exact absurd ⟨_, L, hL⟩ (hs.one j ⟨b, hb⟩))
          (by
            rintro j rfl hi2 L2 hL2 cs2 mv2 ro2 hc2
            rw [St.get_set, if_pos rfl] at hc2
            obtain ⟨rfl, rfl, rfl⟩ := by simpa using hc2
            have hll : (splice cs o vs).length = cs.length := length_splice _ _ _ (by omega)
            have hle2 := (hs.arr _ _ _ hL2 _ _ _ hg).1
            refine ⟨by rw [hll]; exact hle2, fun hv2 => ?_⟩
            have : hi2 = cs.length := by omega
            subst this
            rw [hL] at hL2
            obtain rfl := Option.some.inj hL2
            refine ⟨⟨g1, g2, cur', t, fr, setRow_heap w L.block c cur' t fr e, fun _ => by rw [hcur]; exact hfr rfl, hcur.trans hcs, fun k hk1 hk2 => ?_⟩, by simpa using gs, by simpa using go⟩
            obtain ⟨v, v', hv1, hv2, hvr⟩ := g4 k hk1 hk2
            have hcl : L.base + (o - L.lo) + vs'.length ≤ c.toList.length := by simp; omega
            have e2 : cur'[L.base + (k - L.lo)]? = (splice c.toList (L.base + (o - L.lo)) vs')[L.base + (k - L.lo)]? := by rw [← h2]; simp
            rw [e2, splice_get _ _ _ hcl, splice_get _ _ _ hle]
            by_cases hin : o ≤ k ∧ k < o + vs.length
            · rw [if_pos hin, if_pos (by omega)]
              obtain ⟨x, hx⟩ : ∃ x, vs[k - o]? = some x := ⟨vs[k - o]'(by omega), by rw [List.getElem?_eq_getElem]⟩
              obtain ⟨x', hx', hxr⟩ := hv.get hx
              exact ⟨x, x', hx, by rw [show L.base + (k - L.lo) - (L.base + (o - L.lo)) = k - o from by omega]; exact hx', hxr⟩
            · rw [if_neg hin, if_neg (by omega)]
              exact ⟨v, v', hv1, by simpa using hv2, hvr⟩)
          (by rintro j rfl; exact hs.loc j) (by rintro j rfl hi2 L2 hL2; simpa using hs.blk j hi2 L2 hL2) (by rintro j rfl h; exact hs.one j h) (fun b j hb => by simpa using hs.small b j hb) rfl rfl rfl
        exact ⟨_, h1, key.1, key.2, hw.set hg, rfl⟩
    · cases h
  · cases h

include H in
theorem store_sim (hs : SR K β own s.get w) (hw : s.WF) {t : TypeId} {x x' v v' : Value} (h : storeV C s t x v = some s') (hx : VR β x x') (hv : VR β v v') :
    ∃ w', (Instr.storeAt t x' v').run P w = .ok () w' ∧ Ext β own s w β own s' w' ∧ SR K β own s'.get w' ∧ s'.WF ∧ s'.n = s.n := by
  unfold storeV at h
  split at h
  · rename_i ty a hty
    split at h
    · rename_i hsz
      obtain ⟨a', rfl, _⟩ := ptr_plus (n := 0) hx
      obtain ⟨w', h1, r⟩ := putCells_sim (P := P) hs hw h hx hv.cells
      refine ⟨w', ?_, r⟩
      simp only [Instr.storeAt, Instr.sureAddr, storeVar, Sem.run_bind, Sem.run_pure, Result.andThen_ok, run_size H hty]
      rw [if_neg (by rw [hv.cells_size]; exact Classical.not_not.2 hsz)]
      exact h1
    · cases h
  · cases h

theorem zeros_get (z : List Value) : ∀ (n j : Nat) (_hz : 0 < z.length), (zeros z n)[j]? = if j < n * z.length then z[j % z.length]? else none
  | 0, j, _ => by simp [zeros]
  | n + 1, j, hz => by
    unfold zeros
    by_cases h : j < z.length
    · rw [List.getElem?_append_left h, if_pos (by rw [Nat.succ_mul]; omega), Nat.mod_eq_of_lt h]
    · rw [List.getElem?_append_right (by omega), zeros_get z n _ hz]
      have e : (j - z.length) % z.length = j % z.length := by
        conv => rhs; rw [show j = (j - z.length) + z.length from by omega]
        rw [Nat.add_mod_right]
      rw [e]
      have : (j - z.length < n * z.length) ↔ j < (n + 1) * z.length := by rw [Nat.succ_mul]; omega
      by_cases hj : j < (n + 1) * z.length
      · rw [if_pos hj, if_pos (this.2 hj)]
      · rw [if_neg hj, if_neg (fun x => hj (this.1 x))]
theorem zeros_length (z : List Value) : ∀ n, (zeros z n).length = n * z.length
  | 0 => by simp [zeros]
  | n + 1 => by simp [zeros, zeros_length z n, Nat.succ_mul]; omega

/-- the model's row of zeros -/
theorem rowZeros (z : Array Value) (m : Nat) (hz : 0 < z.size) (n : Nat) (hm : m = n * z.size) : ((Array.range m).map fun i => z[i % z.size]!).toList = zeros z.toList n := by
  subst hm
  apply List.ext_getElem?
  intro j
  rw [zeros_get _ _ _ (by simpa using hz)]
  simp only [Array.toList_map, Array.toList_range, List.getElem?_map]
  by_cases h : j < n * z.size
  · have hr : (List.range (n * z.size))[j]? = some j := by simp [h]
    rw [hr, if_pos (by simpa using h)]
    have : j % z.size < z.size := Nat.mod_lt _ hz
    simp [this, getElem!_pos]
  · have hr : (List.range (n * z.size))[j]? = none := by simp; omega
    rw [hr, if_neg (by simpa using h)]; rfl

include H in
theorem buildSlice_sim (hs : SR K β own s.get w) (hw : s.WF) (hf : Free β s s') {t : TypeId} {len : Nat} {parts : List (Nat × Value)} {parts' : Array (Nat × Value)} {v : Value} (hv : buildSliceV C s t len parts = some (v, s'))
    (h1 : parts'.toList.map (·.1) = parts.map (·.1)) (h2 : VRs β (parts.map (·.2)) (parts'.toList.map (·.2))) : SimV P K β own s w (Instr.buildSlice t len parts') v s' ∧ s'.WF := by
  unfold buildSliceV at hv
  split at hv
  · rename_i elem _ _ _ _ _ hty
    split at hv
    · rename_i desc sz bytes z meth cmp het
      split at hv
      · rename_i hb
        obtain ⟨hb1, hb2, hb3⟩ := hb
        rw [Option.map_eq_some_iff] at hv
        obtain ⟨cs, hcs, e⟩ := hv
        obtain ⟨rfl, rfl⟩ := Prod.mk.inj e
        have hz0 := H.zero _ _ _ het rfl
        have hrow := rowZeros z.cells (len * sz) (by omega) len (by rw [hb2])
        obtain ⟨r', hr, hrr⟩ := fill_sim (β := β) (place := fun i => some (i * sz, sz)) (place' := fun i => some (i * sz, sz)) (fun _ _ h => h) _ parts'.toList _ ((Array.range (len * sz)).map fun i => z.cells[i % z.cells.size]!) cs
          (by
            rw [hrow]
            refine .of rfl fun j v v' hv hv' => ?_
            rw [hv] at hv'
            obtain rfl := Option.some.inj hv'
            rw [zeros_get _ _ _ (by simp; omega)] at hv
            split at hv
            · obtain ⟨x, hx, hxr⟩ := (litOk_self β hz0).cells.get hv
              rw [hv] at hx
              obtain rfl := Option.some.inj hx
              exact hxr
            · cases hv) h1 h2 hcs
        have hl : cs.length = len * sz := by
          have : ∀ (parts : List (Nat × Value)) (c r : List Value), fillV (fun i => some (i * sz, sz)) c parts = some r → r.length = c.length := by
            intro parts
            induction parts with
            | nil => intro c r h; obtain rfl := Option.some.inj h; rfl
            | cons x rest ih =>
              intro c r h
              obtain ⟨i, v⟩ := x
              unfold fillV at h
              simp only at h
              split at h
              · cases h
              · rename_i hn
                rw [ih _ _ h, length_splice]
                by_cases q : v.cells.size = sz
                · by_cases q2 : i * sz + sz ≤ c.length
                  · simp; omega
                  · exact absurd (by simp; right; omega) hn
                · exact absurd (by simp [q]) hn
          rw [this _ _ _ hcs, zeros_length, hb2]; simp
        have hrl : r'.size = len * sz := by have := hrr.length; simp at this; omega
        obtain ⟨x1, x2⟩ := new_arr hs hf cs r' elem (0, 0) (by rw [St.n_new]; omega) (.inl rfl) (by omega) (fun j v hj => by
          obtain ⟨v', a, b⟩ := hrr.get hj
          exact ⟨v', by simpa using a, b⟩)
        refine ⟨⟨_, _, _, .slice (some ⟨w.heap.size, 0, none⟩) len len, ?_, x1, x2, ?_⟩, hw.new _⟩
        · simp only [Instr.buildSlice, Sem.run_bind, run_under H hty, Result.andThen_ok, run_size H het]
          rw [if_neg (by omega)]
          by_cases hz : len * sz = 0
          · rw [if_pos hz]
            have hl0 : len = 0 := by
              rcases Nat.mul_eq_zero.1 hz with h | h
              · exact h
              · omega
            subst hl0
            simp only [Sem.run_bind, Sem.run_pure, Result.andThen_ok]
            have e1 : ((Array.range (0 * sz)).map fun x => (#[] : Array Value)[x % (#[] : Array Value).size]!) = (Array.range (0 * sz)).map fun i => z.cells[i % z.cells.size]! := by
              apply Array.ext' ; simp
            rw [e1, hr]
            simp [newRow]
          · rw [if_neg hz]
            simp only [Sem.run_bind, run_zero H het rfl, Result.andThen_ok, Sem.run_pure, hr]
            simp [newRow]
        · refine .sliceArr (L := ⟨w.heap.size, 0, 0, r'.size⟩) ?_ (Nat.le_refl _) (by simp) hb3 (by simp) (.inl ⟨rfl, Nat.le_refl _, by simp [hrl]⟩)
          simp [Bij.setArr, hl]
      · cases hv
    · cases hv
  · cases hv

include H in
theorem makeSlice_sim (hs : SR K β own s.get w) (hw : s.WF) (hf : Free β s s') {t : TypeId} {l c l' c' v : Value} (hv : makeSliceV C s t l c = some (v, s')) (h1 : VR β l l') (h2 : VR β c c') :
    SimV P K β own s w (Instr.makeSlice t l' c') v s' ∧ s'.WF := by
  unfold makeSliceV at hv
  split at hv
  · rename_i elem _ _ _ _ _ kl l kc c hty
    obtain rfl := int_inv h1
    obtain rfl := int_inv h2
    split at hv
    · rename_i desc sz bytes z meth cmp het
      split at hv
      · rename_i hb
        obtain ⟨b1, b2, b3, b4, b5, b6⟩ := hb
        obtain ⟨rfl, rfl⟩ := Prod.mk.inj (Option.some.inj hv)
        have hz0 := H.zero _ _ _ het rfl
        obtain ⟨i, hi, _, _, hby, _⟩ := run_info (w := w) H het
        have wl : IntKind.i64.wrap l = l := by
          unfold IntKind.wrap; simp [IntKind.bits, IntKind.signed]; omega
        have wc : IntKind.i64.wrap c = c := by
          unfold IntKind.wrap; simp [IntKind.bits, IntKind.signed]; omega
        have hrow := rowZeros z.cells (c.toNat * sz) (by omega) c.toNat (by rw [b5])
        have hle : (zeros z.cells.toList l.toNat).length ≤ ((Array.range (c.toNat * sz)).map fun i => z.cells[i % z.cells.size]!).size := by
          rw [zeros_length]
          have := Nat.mul_le_mul_right sz (show l.toNat ≤ c.toNat by omega)
          simp [← b5]; exact this
        obtain ⟨x1, x2⟩ := new_arr hs hf (zeros z.cells.toList l.toNat) ((Array.range (c.toNat * sz)).map fun i => z.cells[i % z.cells.size]!) elem (0, 0) (by rw [St.n_new]; omega) (.inl rfl) hle (fun j v hj => by
          have hj0 := hj
          rw [zeros_get _ _ _ (by simp; omega)] at hj
          split at hj
          · rename_i hjl
            obtain ⟨x, hx, hxr⟩ := (litOk_self β hz0).cells.get hj
            refine ⟨x, ?_, hxr⟩
            rw [← Array.getElem?_toList, hrow, zeros_get _ _ _ (by simp; omega), if_pos]
            · exact hx
            · have := Nat.mul_le_mul_right z.cells.toList.length (show l.toNat ≤ c.toNat by omega)
              omega
          · cases hj)
        refine ⟨⟨_, _, _, .slice (some ⟨w.heap.size, 0, none⟩) l.toNat c.toNat, ?_, x1, x2, ?_⟩, hw.new _⟩
        · have hbig : (i.bytes : Int) * c ≤ 281474976710656 := by
            have h0 : ((bytes * c.toNat : Nat) : Int) ≤ (281474976710656 : Nat) := Int.ofNat_le.2 b4
            rw [Int.natCast_mul, Int.toNat_of_nonneg (by omega)] at h0
            rw [hby]; exact h0
          have t2 : decide ((i.bytes : Int) * c > 2 ^ 48) = false := decide_eq_false (by rw [show (2 : Int) ^ 48 = 281474976710656 from rfl]; omega)
          have t1 : decide (c < 0) = false := decide_eq_false (by omega)
          have t3 : decide (l < 0) = false := decide_eq_false (by omega)
          have t4 : decide (l > c) = false := decide_eq_false (by omega)
          simp only [Instr.makeSlice, Sem.run_bind, run_under H hty, Result.andThen_ok, asInt, asIntOf, Sem.run_pure, hi, wl, wc, t1, t2, t3, t4, Bool.or_self, Bool.false_eq_true, if_false]
          simp only [run_askRoom, Result.andThen_ok, run_size H het]
          by_cases hz : c.toNat * sz = 0
          · have hc0 : c.toNat = 0 := by
              rcases Nat.mul_eq_zero.1 hz with h | h
              · exact h
              · omega
            rw [if_pos hz]
            have e1 : ((Array.range (c.toNat * sz)).map fun x => (#[] : Array Value)[x % (#[] : Array Value).size]!) = (Array.range (c.toNat * sz)).map fun i => z.cells[i % z.cells.size]! := by
              rw [hz]; apply Array.ext'; simp
            simp only [Sem.run_bind, Sem.run_pure, Result.andThen_ok]
            rw [e1]
            simp [newRow]
          · rw [if_neg hz]
            simp only [Sem.run_bind, run_zero H het rfl, Result.andThen_ok, Sem.run_pure]
            simp [newRow]
        · refine .sliceArr (L := ⟨w.heap.size, 0, 0, ((Array.range (c.toNat * sz)).map fun i => z.cells[i % z.cells.size]!).size⟩) ?_ (Nat.le_refl _) (by simp) b6 (by simp) (.inl ⟨rfl, by omega, by simp⟩)
          simp [Bij.setArr, zeros_length, ← b5]
      · cases hv
    · cases hv
  · cases hv

end
end Go.Ai
