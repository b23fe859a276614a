/-
  Inputs: whatever reads as numbers, texts, slices and structs of these is laid into the interpreter's memory.
-/
import Derived.Test.YtfnbgfmmlgbfjaaGreatDoorAiFrame
import Derived.ProofKit
namespace Go.Ai
open Go.ChangeShapes Go.WideShapes Go.RowKit

def layF (P : Program) (ok : TypeId → Bool) : List Field → Nat → Nat → Bool
  | [], off, total => off == total
  | f :: fs, off, total => (f.offset == off) && ok f.type && layF P ok fs (off + P.cellsOf f.type) total

/-- inputs of these types hold numbers, texts, slices and structs of such -/
def layOk (P : Program) : Nat → TypeId → Bool
  | 0, _ => false
  | n + 1, t =>
    match P.underlying t with
    | some .bool | some (.int _) | some .string => true
    | some (.slice e) => Nat.blt 0 (P.cellsOf e) && layOk P n e
    | some (.struct fs) => layF P (layOk P n) fs.toList 0 (P.cellsOf t)
    | _ => false

/-- cells of a type, in the interpreter's memory -/
def Fits (P : Program) (g : Nat → Option AObj) : Nat → TypeId → List Value → Prop
  | 0, _, _ => False
  | n + 1, t, cs =>
    match P.underlying t with
    | some .bool => ∃ b, cs = [.bool b]
    | some (.int k) => ∃ x, cs = [.int k x] ∧ (Lit.int k x).wf = true
    | some .string => ∃ s : ByteArray, cs = [.string s] ∧ s.size ≤ maxLen
    | some (.slice e) => cs = [.slice none 0 0] ∨ ∃ (i : Nat) (ls : List (List Value)), cs = [.slice (some ⟨i, 0, some (ls.length * P.cellsOf e)⟩) ls.length (P.cellsOf e)] ∧
        g i = some (.arr ls.flatten (if ls.length = 0 then 1 else 0) true) ∧ (∀ l ∈ ls, l.length = P.cellsOf e) ∧ (∀ l ∈ ls, Fits P g n e l) ∧ ls.length ≤ maxLen
    | some (.struct fs) => ∃ ls : List (List Value), cs = ls.flatten ∧ ls.length = fs.toList.length ∧ ∀ (j : Nat) (f : Field) (l : List Value), fs.toList[j]? = some f → ls[j]? = some l → Fits P g n f.type l
    | _ => False

section
variable {P : Program} {g g' : Nat → Option AObj}

theorem Fits.mono (hg : ∀ i o, g i = some o → g' i = some o) : ∀ {n : Nat} {t : TypeId} {cs : List Value}, Fits P g n t cs → Fits P g' n t cs
  | 0, _, _, h => h.elim
  | n + 1, t, cs, h => by
    unfold Fits at h ⊢
    split at h
    · exact h
    · exact h
    · exact h
    · rcases h with h | ⟨i, ls, h1, h2, h3, h4, h5⟩
      · exact .inl h
      · exact .inr ⟨i, ls, h1, hg _ _ h2, h3, fun l hl => (h4 l hl).mono hg, h5⟩
    · obtain ⟨ls, h1, h2, h3⟩ := h
      exact ⟨ls, h1, h2, fun j f l hf hl => (h3 j f l hf hl).mono hg⟩
    · exact h.elim

def idR (k : Nat) (i : Nat) (_sp : Option Nat) (j : Nat) : Prop := i < k ∧ i = j
theorem idR_mono {k k' : Nat} (h : k ≤ k') : ∀ i sp j, idR k i sp j → idR k' i sp j := fun _ _ _ ⟨h1, h2⟩ => ⟨by omega, h2⟩

mutual
/-- what stands for something speaks of numbers that are there -/
theorem VR.self {β : Bij} {k : Nat} (hk : ∀ i, β.dom i → i < k) : ∀ {v x : Value}, VR β v x → Sub (idR k) v v
  | _, _, .bool b => .bool b
  | _, _, .int k n => .int k n
  | _, _, .float k n => .float k n
  | _, _, .complex k a b => .complex k a b
  | _, _, .string s => .string s
  | _, _, .ptrNil => .ptrNil
  | _, _, .ptrObj h => .ptr ⟨hk _ (.inl ⟨_, h⟩), rfl⟩
  | _, _, .ptrArr h _ => .ptr ⟨hk _ (.inr ⟨_, _, h⟩), rfl⟩
  | _, _, .sliceNil => .sliceNil
  | _, _, .sliceObj h _ _ => .slice ⟨hk _ (.inl ⟨_, h⟩), rfl⟩
  | _, _, .sliceArr h _ _ _ _ _ => .slice ⟨hk _ (.inr ⟨_, _, h⟩), rfl⟩
  | _, _, .mapNil => .mapNil
  | _, _, .map h => .map ⟨hk _ (.inl ⟨_, h⟩), rfl⟩
  | _, _, .chanNil => .chan none
  | _, _, .junk c _ => .chan (some c)
  | _, _, .func (.same f h) ha hc => .func (.same f h) (VRs.self hk ha) (VRs.self hk hc)
  | _, _, .func (.yield h) ha hc => .func (.yield ⟨hk _ (.inl ⟨_, h⟩), rfl⟩) (VRs.self hk ha) (VRs.self hk hc)
  | _, _, .nilFunc => .nilFunc
  | _, _, .iface h => .iface (VR.self hk h)
  | _, _, .nilIface => .nilIface
  | _, _, .agg h => .agg (VRs.self hk h)
  | _, _, .tuple h => .tuple (VRs.self hk h)
theorem VRs.self {β : Bij} {k : Nat} (hk : ∀ i, β.dom i → i < k) : ∀ {l x : List Value}, VRs β l x → Subs (idR k) l l
  | _, _, .nil => .nil
  | _, _, .cons h t => .cons (VR.self hk h) (VRs.self hk t)
end

/-- rows alone, which speak of numbers that are there -/
def Rowed (s : St) : Prop := ∀ i, i < s.n → ∃ cs mv, s.get i = some (.arr cs mv true) ∧ Subs (idR s.n) cs cs
theorem Rowed.empty : Rowed (St.empty 0) := fun i hi => absurd hi (Nat.not_lt_zero i)
theorem Rowed.new {s : St} (h : Rowed s) {cs : List Value} {mv : Nat} (hc : Subs (idR s.n) cs cs) : Rowed (s.new (.arr cs mv true)) := fun i hi => by
  rw [St.n_new] at hi
  by_cases hn : i = s.n
  · subst hn
    exact ⟨cs, mv, by rw [St.get_new, if_pos rfl], hc.mono (idR_mono (by rw [St.n_new]; omega))⟩
  · obtain ⟨c, m, h1, h2⟩ := h i (by omega)
    exact ⟨c, m, by rw [St.get_new, if_neg hn]; exact h1, h2.mono (idR_mono (by rw [St.n_new]; omega))⟩

structure Grown (β : Bij) (s : St) (w : World) (β' : Bij) (s' : St) : Prop where
  le : β.le β'
  sr : SR (okK 0) β' own00 s'.get w
  wf : s'.WF
  shut : Shut β' s'
  n : s.n ≤ s'.n
  get : ∀ i o, s.get i = some o → s'.get i = some o
  rowed : Rowed s → Rowed s'

theorem Grown.refl {β : Bij} {s : St} {w : World} (hs : SR (okK 0) β own00 s.get w) (hw : s.WF) (hsh : Shut β s) : Grown β s w β s := ⟨Bij.le_refl _, hs, hw, hsh, Nat.le_refl _, fun _ _ h => h, id⟩
theorem Grown.trans {β β' β'' : Bij} {s s' s'' : St} {w : World} (h : Grown β s w β' s') (h' : Grown β' s' w β'' s'') : Grown β s w β'' s'' :=
  ⟨Bij.le_trans h.le h'.le, h'.sr, h'.wf, h'.shut, Nat.le_trans h.n h'.n, fun i o x => h'.get i o (h.get i o x), fun x => h'.rowed (h.rowed x)⟩

theorem Shut.arr {β : Bij} {s : St} (h : Shut β s) (hi : Nat) : β.arr s.n hi = none := by
  cases hx : β.arr s.n hi with
  | none => rfl
  | some L => have := h s.n (.inr ⟨hi, L, hx⟩); omega

def addArr (β : Bij) (n hi : Nat) (L : ArrLoc) : Bij := ⟨β.obj, fun i h => if i = n ∧ h = hi then some L else β.arr i h⟩

theorem add_row {β : Bij} {s : St} {w : World} (hs : SR (okK 0) β own00 s.get w) (hw : s.WF) (hsh : Shut β s) {cs : List Value} {mv hi : Nat} {L : ArrLoc} (hhi : hi ≤ cs.length)
    (hrow : mv ≤ hi → ArrR β L cs hi true w.heap[L.block]?) (hb : L.block < w.heap.size) (hcl : Subs (idR s.n) cs cs) : Grown β s w (addArr β s.n hi L) (s.new (.arr cs mv true)) := by
  have le : β.le (addArr β s.n hi L) := by
    refine ⟨fun _ _ h => h, fun i h L' hL => ?_⟩
    have hi' := hsh i (.inr ⟨h, L', hL⟩)
    simp only [addArr]
    rw [if_neg (fun x => by omega)]
    exact hL
  have noObj : ∀ {i b}, β.obj i = some b → False := fun h => by
    have := (hs.obj _ _ h).1
    cases this
  have arrs : ∀ {i h L'}, (addArr β s.n hi L).arr i h = some L' → (i = s.n ∧ h = hi ∧ L' = L) ∨ (i < s.n ∧ β.arr i h = some L') := by
    intro i h L' hL
    simp only [addArr] at hL
    split at hL
    · rename_i e
      exact .inl ⟨e.1, e.2, (Option.some.inj hL).symm⟩
    · exact .inr ⟨hsh i (.inr ⟨h, L', hL⟩), hL⟩
  refine ⟨le, ?_, hw.new _, ?_, by rw [St.n_new]; omega, ?_, fun x => x.new hcl⟩
  · refine ⟨fun i b h => (noObj h).elim, ?_, ?_, ?_, fun i ⟨b, h⟩ => (noObj h).elim, fun b i h => by cases h⟩
    · intro i h L' hL cs' mv' ro hc
      rcases arrs hL with ⟨rfl, rfl, rfl⟩ | ⟨h1, h2⟩
      · rw [St.get_new, if_pos rfl] at hc
        cases hc
        exact ⟨hhi, fun hm => ⟨(hrow hm).mono le, hb, rfl⟩⟩
      · rw [St.get_new, if_neg (by omega)] at hc
        obtain ⟨q1, q2⟩ := hs.arr i h L' h2 cs' mv' ro hc
        exact ⟨q1, fun hm => ⟨(q2 hm).1.mono le, (q2 hm).2⟩⟩
    · intro i h h' L1 L2 h1 h2 h3
      rcases arrs h1 with ⟨rfl, rfl, rfl⟩ | ⟨g1, g2⟩
      · rcases arrs h2 with ⟨_, _, rfl⟩ | ⟨g1, _⟩
        · rfl
        · omega
      · rcases arrs h2 with ⟨rfl, _, rfl⟩ | ⟨_, g2'⟩
        · omega
        · exact hs.loc _ _ _ _ _ g2 g2' h3
    · intro i h L' hL
      rcases arrs hL with ⟨rfl, rfl, rfl⟩ | ⟨_, g2⟩
      · exact hb
      · exact hs.blk _ _ _ g2
  · intro i hd
    rw [St.n_new]
    rcases hd with ⟨b, h⟩ | ⟨h, L', hL⟩
    · exact (noObj h).elim
    · rcases arrs hL with ⟨rfl, _, _⟩ | ⟨g1, _⟩ <;> omega
  · intro i o h
    have := hw.lt h
    rw [St.get_new, if_neg (by omega)]
    exact h

def LayRes (P : Program) (n : Nat) (t : TypeId) (w : World) (cs : List Value) : Prop :=
  ∀ (β : Bij) (s : St), SR (okK 0) β own00 s.get w → s.WF → Shut β s → ∃ β' s' cs0, Grown β s w β' s' ∧ VRs β' cs0 cs ∧ Fits P s'.get n t cs0

theorem lay_list {n : Nat} {w : World} : ∀ (ps : List (TypeId × List Value)), (∀ p ∈ ps, LayRes P n p.1 w p.2) → ∀ (β : Bij) (s : St), SR (okK 0) β own00 s.get w → s.WF → Shut β s →
    ∃ (β' : Bij) (s' : St) (ls : List (List Value)), Grown β s w β' s' ∧ ls.length = ps.length ∧ VRs β' ls.flatten (ps.map (·.2)).flatten ∧ ∀ (j : Nat) (p : TypeId × List Value) (l : List Value), ps[j]? = some p → ls[j]? = some l → Fits P s'.get n p.1 l ∧ l.length = p.2.length
  | [], _, β, s, hs, hw, hsh => ⟨β, s, [], .refl hs hw hsh, rfl, .nil, fun j p l h => by simp at h⟩
  | p :: ps, h, β, s, hs, hw, hsh => by
    obtain ⟨β1, s1, c, g1, v1, f1⟩ := h p (List.mem_cons_self ..) β s hs hw hsh
    obtain ⟨β2, s2, ls, g2, l2, v2, f2⟩ := lay_list ps (fun q hq => h q (List.mem_cons_of_mem _ hq)) β1 s1 g1.sr g1.wf g1.shut
    refine ⟨β2, s2, c :: ls, g1.trans g2, by simp [l2], by simpa using (v1.mono g2.le).append v2, fun j q l hq hl => ?_⟩
    cases j with
    | zero =>
      simp at hq hl
      subst hq; subst hl
      exact ⟨f1.mono g2.get, v1.length.symm⟩
    | succ j => exact f2 j q l (by simpa using hq) (by simpa using hl)

theorem chunks {cs : List Value} {ok : TypeId → Bool} : ∀ (fs : List Field) (off total : Nat), layF P ok fs off total = true → cs.length = total → (fs.map fun f => (cs.drop f.offset).take (P.cellsOf f.type)).flatten = cs.drop off
  | [], off, total, h, hl => by
    have : off = total := by simpa [layF] using h
    rw [List.drop_eq_nil_of_le (by omega)]
    rfl
  | f :: fs, off, total, h, hl => by
    simp only [layF, Bool.and_eq_true, beq_iff_eq] at h
    rw [List.map_cons, List.flatten_cons, chunks fs _ total h.2 hl, h.1.1, ← List.drop_drop, List.take_append_drop]
theorem layF_all {ok : TypeId → Bool} : ∀ {fs : List Field} {off total : Nat}, layF P ok fs off total = true → ∀ f ∈ fs, ok f.type = true
  | [], _, _, _, f, hf => by cases hf
  | x :: fs, off, total, h, f, hf => by
    simp only [layF, Bool.and_eq_true, beq_iff_eq] at h
    rcases List.mem_cons.1 hf with rfl | hf
    · exact h.1.2
    · exact layF_all h.2 f hf

theorem flat_get {f : Nat → List Value} {sz : Nat} : ∀ (len : Nat), (∀ i, i < len → (f i).length = sz) → ∀ j, j < len * sz → ((List.range len).map f).flatten[j]? = (f (j / sz))[j % sz]?
  | 0, _, j, hj => by omega
  | len + 1, hf, j, hj => by
    have hlen : ((List.range len).map f).flatten.length = len * sz := by
      have : ∀ l : Nat, l ≤ len → ((List.range l).map f).flatten.length = l * sz := by
        intro l
        induction l with
        | zero => simp
        | succ l ih =>
          intro hl
          rw [List.range_succ, List.map_append, List.flatten_append, List.length_append, ih (by omega)]
          simp [hf l (by omega), Nat.add_mul]
      exact this len (Nat.le_refl _)
    rw [List.range_succ, List.map_append, List.flatten_append]
    by_cases h : j < len * sz
    · rw [List.getElem?_append_left (by omega)]
      exact flat_get len (fun i hi => hf i (by omega)) j h
    · rw [List.getElem?_append_right (by omega), hlen]
      have hs : (len + 1) * sz = len * sz + sz := by rw [Nat.add_mul]; omega
      have hd : j / sz = len := by
        rw [Nat.div_eq_of_lt_le] <;> omega
      have hm : j % sz = j - len * sz := by
        have := Nat.div_add_mod j sz
        rw [hd, Nat.mul_comm] at this
        omega
      simp [hd, hm]

variable {H : Type} {enc : TypeId × Value → H}

/-- where a slice's row lies -/
theorem slice_loc {w : World} {e : TypeId} (hsz : 0 < P.cellsOf e) {a : Addr} {len cap : Nat} (hlc : len ≤ cap) (hpos : 0 < w.heap.size) {f : Nat → List Value}
    (hcell : ∀ i, i < cap → (f i).length = P.cellsOf e ∧ ∀ k, k < P.cellsOf e → w.cell? ((a.add (i * P.cellsOf e)).add k) = (f i)[k]?) {β1 : Bij} {row : List Value} (v1 : VRs β1 row ((List.range len).map f).flatten) :
    ∃ L : ArrLoc, L.block < w.heap.size ∧ L.lo = 0 ∧ L.base ≤ L.size ∧ SliceC a ⟨L.block, L.base, none⟩ len cap (P.cellsOf e) (L.size - L.base) ∧
      (0 < len → ArrR β1 L row (len * P.cellsOf e) true w.heap[L.block]?) := by
  by_cases hcap : cap = 0
  · exact ⟨⟨0, 0, 0, 0⟩, hpos, rfl, Nat.le_refl _, .inr ⟨by omega, hcap⟩, fun h => by omega⟩
  · have hlast := (hcell (cap - 1) (by omega))
    have addB : ∀ (x : Addr) (n : Nat), (x.add n).block = x.block := fun x n => by unfold Addr.add; split <;> rfl
    have addO : ∀ (x : Addr) (n : Nat), (x.add n).off = x.off + n := fun x n => by unfold Addr.add; split <;> simp_all
    have key : ∀ i k, i < cap → k < P.cellsOf e → ∃ c t fr, w.heap[a.block]? = some (.cells c t fr) ∧ (((a.add (i * P.cellsOf e)).add k).spot = none) ∧ ∃ v, c[a.off + i * P.cellsOf e + k]? = some v ∧ (f i)[k]? = some v := by
      intro i k hi hk
      obtain ⟨q1, q2⟩ := hcell i hi
      have h2 := q2 k hk
      rw [List.getElem?_eq_getElem (by omega)] at h2
      unfold World.cell? at h2
      rw [addB, addB, addO, addO] at h2
      generalize ((a.add (i * P.cellsOf e)).add k).spot = sp at h2 ⊢
      cases hh : w.heap[a.block]? with
      | none => rw [hh] at h2; cases h2
      | some ob =>
        rw [hh] at h2
        cases ob with
        | cells c t fr =>
          cases sp with
          | none => exact ⟨c, t, fr, rfl, rfl, _, h2, List.getElem?_eq_getElem (by omega)⟩
          | some _ => cases h2
        | _ => cases h2
    obtain ⟨c, ct, fr, hh, hspot, _⟩ := key 0 0 (by omega) hsz
    have hspot : a.spot = none := by simpa [Addr.add] using hspot
    have hall : ∀ i k, i < cap → k < P.cellsOf e → ∃ v, c[a.off + i * P.cellsOf e + k]? = some v ∧ (f i)[k]? = some v := by
      intro i k hi hk
      obtain ⟨c', _, _, hh', _, hv⟩ := key i k hi hk
      rw [hh] at hh'
      cases hh'
      exact hv
    have hcs : a.off + cap * P.cellsOf e ≤ c.size := by
      obtain ⟨v, hv, _⟩ := hall (cap - 1) (P.cellsOf e - 1) (by omega) (by omega)
      have h1 : a.off + (cap - 1) * P.cellsOf e + (P.cellsOf e - 1) < c.size := by
        rcases Nat.lt_or_ge (a.off + (cap - 1) * P.cellsOf e + (P.cellsOf e - 1)) c.size with h | h
        · exact h
        · rw [Array.getElem?_eq_none h] at hv; cases hv
      have h2 : cap * P.cellsOf e = (cap - 1) * P.cellsOf e + P.cellsOf e := by
        rw [← Nat.succ_mul]; congr 1; omega
      omega
    have hlen2 : len * P.cellsOf e ≤ cap * P.cellsOf e := Nat.mul_le_mul_right _ hlc
    refine ⟨⟨a.block, 0, a.off, c.size⟩, heap_lt hh, rfl, ?_, .inl ⟨?_, hlc, ?_⟩, fun _ => ?_⟩
    · show a.off ≤ c.size; omega
    · cases a with
      | mk b o sp => simp only at hspot; subst hspot; rfl
    · show cap * P.cellsOf e ≤ c.size - a.off; omega
    · refine ⟨Nat.zero_le _, ?_, c, ct, fr, hh, (fun h => Bool.noConfusion h), rfl, fun j _ hj => ?_⟩
      · show a.off + (len * P.cellsOf e - 0) ≤ c.size; omega
      · have hj' : j < len * P.cellsOf e := hj
        have hd : j / P.cellsOf e < len := by
          rw [Nat.div_lt_iff_lt_mul hsz]; exact hj'
        have hm : j % P.cellsOf e < P.cellsOf e := Nat.mod_lt _ hsz
        obtain ⟨v', h1, h2⟩ := hall _ _ (Nat.lt_of_lt_of_le hd hlc) hm
        have h3 : ((List.range len).map f).flatten[j]? = some v' := by
          rw [flat_get len (fun i hi => (hcell i (by omega)).1) j hj', h2]
        obtain ⟨v, h4, h5⟩ := v1.get' h3
        refine ⟨v, v', h4, ?_, h5⟩
        show c[a.off + (j - 0)]? = some v'
        rw [← h1]
        congr 1
        have := Nat.div_add_mod j (P.cellsOf e)
        rw [Nat.mul_comm] at this
        omega

theorem lay_slice {w : World} {n : Nat} {e : TypeId} (hsz : 0 < P.cellsOf e) {a : Addr} {len cap : Nat} (hlc : len ≤ cap) (hpos : 0 < w.heap.size) (hmax : len ≤ maxLen)
    (hread : ∀ i, i < cap → ∃ l, w.cells? 0 (a.add (i * P.cellsOf e)) (P.cellsOf e) = some l ∧ (i < len → LayRes P n e w l)) {t : TypeId} (ht : P.underlying t = some (.slice e)) : LayRes P (n + 1) t w [.slice (some a) len cap] := by
  intro β s hs hw hsh
  let f : Nat → List Value := fun i => (w.cells? 0 (a.add (i * P.cellsOf e)) (P.cellsOf e)).getD []
  have hf : ∀ i, i < cap → w.cells? 0 (a.add (i * P.cellsOf e)) (P.cellsOf e) = some (f i) := fun i hi => by
    obtain ⟨l, h1, _⟩ := hread i hi
    simp only [f, h1, Option.getD_some]
  have hcell : ∀ i, i < cap → (f i).length = P.cellsOf e ∧ ∀ k, k < P.cellsOf e → w.cell? ((a.add (i * P.cellsOf e)).add k) = (f i)[k]? := fun i hi => by
    have := World.cells?_some (hf i hi)
    exact ⟨this.2.1, this.2.2⟩
  obtain ⟨β1, s1, ls, g1, l1, v1, f1⟩ := lay_list (P := P) (n := n) (w := w) ((List.range len).map fun i => (e, f i)) (by
    intro p hp
    simp only [List.mem_map, List.mem_range] at hp
    obtain ⟨i, hi, rfl⟩ := hp
    obtain ⟨l, h1, h2⟩ := hread i (by omega)
    have : f i = l := by simp only [f, h1, Option.getD_some]
    simp only [this]
    exact h2 hi) β s hs hw hsh
  have hll : ls.length = len := by simpa using l1
  have hmap : (((List.range len).map fun i => (e, f i)).map (·.2)) = (List.range len).map f := by simp [Function.comp_def]
  rw [hmap] at v1
  have hel : ∀ l ∈ ls, l.length = P.cellsOf e ∧ Fits P s1.get n e l := by
    intro l hl
    obtain ⟨j, hj, rfl⟩ := List.getElem_of_mem hl
    have hj' : j < len := by omega
    have h2 : ((List.range len).map fun i => (e, f i))[j]? = some (e, f j) := by simp [hj']
    obtain ⟨q1, q2⟩ := f1 j _ ls[j] h2 (List.getElem?_eq_getElem hj)
    exact ⟨q2.trans (hcell j (by omega)).1, q1⟩
  have hflat : ls.flatten.length = len * P.cellsOf e := by
    rw [← v1.length]
    have : ∀ l : Nat, l ≤ len → ((List.range l).map f).flatten.length = l * P.cellsOf e := by
      intro l
      induction l with
      | zero => simp
      | succ l ih =>
        intro hl
        rw [List.range_succ, List.map_append, List.flatten_append, List.length_append, ih (by omega)]
        simp [(hcell l (by omega)).1, Nat.add_mul]
    exact this len (Nat.le_refl _)
  obtain ⟨L, hLb, hLlo, hLsz, hc, hrow⟩ := slice_loc hsz hlc hpos hcell v1
  have g2 := add_row (hi := len * P.cellsOf e) (mv := if ls.length = 0 then 1 else 0) (cs := ls.flatten) (L := L) g1.sr g1.wf g1.shut (by omega) (fun hm => hrow (by
    rw [hll] at hm
    split at hm
    · rename_i h0; rw [h0] at hm; omega
    · omega)) hLb (v1.self g1.shut)
  refine ⟨_, _, [.slice (some ⟨s1.n, 0, some (len * P.cellsOf e)⟩) len (P.cellsOf e)], g1.trans g2, .one ?_, ?_⟩
  · refine .sliceArr (L := L) ?_ (by omega) (by omega) hsz (by omega) ?_
    · show (if s1.n = s1.n ∧ len * P.cellsOf e = len * P.cellsOf e then some L else β1.arr s1.n (len * P.cellsOf e)) = some L
      rw [if_pos ⟨rfl, rfl⟩]
    · have : L.base + (0 - L.lo) = L.base := by omega
      rw [this]; exact hc
  · unfold Fits
    rw [ht]
    refine .inr ⟨s1.n, ls, by rw [hll], by rw [St.get_new, if_pos rfl], fun l hl => (hel l hl).1, fun l hl => (hel l hl).2.mono g2.get, by omega⟩

/-- elements without addresses -/
def flatOk (P : Program) : Nat → TypeId → Bool
  | 0, _ => false
  | n + 1, t =>
    match P.underlying t with
    | some .bool | some (.int _) | some .string => true
    | some (.struct fs) => layF P (flatOk P n) fs.toList 0 (P.cellsOf t)
    | _ => false

def plainC (v : Value) : Bool := litOk v && one v

theorem flat_lit {w : World} : ∀ (n : Nat) (t : TypeId), flatOk P n t = true → ∀ (fuel : Nat) (cs : List Value) (x : DataW H × List MemPlace), DataW.trod enc P w 0 (fun _ => true) true fuel t cs = some x → cs.all plainC = true
  | 0, t, h, _, _, _, _ => by cases h
  | n + 1, t, h, fuel, cs, x, hx => by
    unfold flatOk at h
    split at h
    · rename_i ht
      obtain ⟨b, rfl, _⟩ := DataW.trod_bool ht hx
      rfl
    · rename_i k ht
      obtain ⟨m, rfl, _, hwf⟩ := DataW.trod_int ht hx
      rfl
    · rename_i ht
      obtain ⟨b, rfl, _, hm⟩ := DataW.trod_string ht hx
      rfl
    · rename_i fs ht
      obtain ⟨xs, m, _, _, hlen, hxs, hf⟩ := DataW.trod_struct ht hx
      have hc := chunks (cs := cs) fs.toList 0 _ h hlen
      rw [List.drop_zero] at hc
      rw [← hc, List.all_eq_true]
      intro v hv
      rw [List.mem_flatten] at hv
      obtain ⟨l, hl, hv⟩ := hv
      rw [List.mem_map] at hl
      obtain ⟨fd, hfd, rfl⟩ := hl
      obtain ⟨j, hj, hje⟩ := List.getElem_of_mem hfd
      have h1 := hf j fd (by rw [← hje]; simp)
      rw [List.getElem?_eq_getElem (by rw [hxs]; simpa using hj)] at h1
      exact List.all_eq_true.1 (flat_lit n fd.type (layF_all h fd hfd) m _ _ h1) v hv
    · cases h

/-- a slice of such, laid under the next number, whether it is nil or not -/
theorem lay_flat {w : World} {n : Nat} {t e : TypeId} (ht : P.underlying t = some (.slice e)) (hsz : 0 < P.cellsOf e) (hfl : flatOk P n e = true) {fuel : Nat} {cs : List Value} {x : DataW H × List MemPlace}
    (hx : DataW.trod enc P w 0 (fun _ => true) true fuel t cs = some x) (hpos : 0 < w.heap.size ∨ ∀ v ∈ cs, ∀ a l c, v ≠ .slice (some a) l c) (β : Bij) (s : St) (hs : SR (okK 0) β own00 s.get w) (hw : s.WF) (hsh : Shut β s) :
    ∃ β' a len z row mv, Grown β s w β' (s.new (.arr row mv true)) ∧ VRs β' [.slice a len z] cs ∧ firstV (s.new (.arr row mv true)) (P.cellsOf e) len (.slice a len z) = some row ∧ row.length = len * P.cellsOf e ∧ row.all plainC = true ∧ len ≤ maxLen ∧
      ((a = none ∧ len = 0 ∧ z = 0) ∨ (a = some ⟨s.n, 0, some (len * P.cellsOf e)⟩ ∧ z = P.cellsOf e ∧ mv = if len = 0 then 1 else 0)) := by
  rcases DataW.trod_slice ht hx with ⟨rfl, _⟩ | ⟨a, len, cap, elems, rest, m, _, rfl, _, _, hlc, hmax, hel, hr1, hr2, _⟩
  · refine ⟨β, none, 0, 0, [], 1, ?_, .one .sliceNil, rfl, by simp, rfl, by decide, .inl ⟨rfl, rfl, rfl⟩⟩
    refine ⟨Bij.le_refl _, hs.congr fun i hi => ?_, hw.new _, fun i hi => ?_, ?_, fun i o h => ?_, fun x => x.new .nil⟩
    · have := hsh i hi
      rw [St.get_new, if_neg (by omega)]
    · have := hsh i hi
      rw [St.n_new]; omega
    · rw [St.n_new]; omega
    · have := hw.lt h
      rw [St.get_new, if_neg (by omega)]; exact h
  · have hp : 0 < w.heap.size := by
      rcases hpos with h | h
      · exact h
      · exact absurd rfl (h _ (List.mem_cons_self ..) a len cap)
    obtain ⟨hrl, hr2⟩ := hr2 rfl
    let f : Nat → List Value := fun i => (w.cells? 0 (a.add (i * P.cellsOf e)) (P.cellsOf e)).getD []
    have hread : ∀ i, i < cap → ∃ l, w.cells? 0 (a.add (i * P.cellsOf e)) (P.cellsOf e) = some l ∧ l.all plainC = true := by
      intro i hi
      by_cases hil : i < len
      · have := hr1 i hil
        rw [List.getElem?_eq_getElem (by omega), Option.bind_eq_some_iff] at this
        obtain ⟨l, q1, q2⟩ := this
        exact ⟨l, q1, flat_lit n e hfl m l _ q2⟩
      · have := hr2 (i - len) (by omega)
        rw [List.getElem?_eq_getElem (by omega), Option.bind_eq_some_iff, show len + (i - len) = i from by omega] at this
        obtain ⟨l, q1, q2⟩ := this
        exact ⟨l, q1, flat_lit n e hfl m l _ q2⟩
    have hf : ∀ i, i < cap → w.cells? 0 (a.add (i * P.cellsOf e)) (P.cellsOf e) = some (f i) ∧ (f i).all plainC = true := fun i hi => by
      obtain ⟨l, h1, h2⟩ := hread i hi
      have : f i = l := by simp only [f, h1, Option.getD_some]
      rw [this]; exact ⟨h1, h2⟩
    have hcell : ∀ i, i < cap → (f i).length = P.cellsOf e ∧ ∀ k, k < P.cellsOf e → w.cell? ((a.add (i * P.cellsOf e)).add k) = (f i)[k]? := fun i hi => by
      have := World.cells?_some (hf i hi).1
      exact ⟨this.2.1, this.2.2⟩
    have hall : ((List.range len).map f).flatten.all plainC = true := by
      rw [List.all_eq_true]
      intro v hv
      rw [List.mem_flatten] at hv
      obtain ⟨l, hl, hv⟩ := hv
      rw [List.mem_map] at hl
      obtain ⟨i, hi, rfl⟩ := hl
      rw [List.mem_range] at hi
      exact List.all_eq_true.1 (hf i (by omega)).2 v hv
    have hlit : ((List.range len).map f).flatten.all litOk = true := by
      rw [List.all_eq_true] at hall ⊢
      intro v hv
      have := hall v hv
      simp only [plainC, Bool.and_eq_true] at this
      exact this.1
    have v1 : VRs β ((List.range len).map f).flatten ((List.range len).map f).flatten := vrs_plain hlit
    have hflat : ((List.range len).map f).flatten.length = len * P.cellsOf e := by
      have : ∀ l : Nat, l ≤ len → ((List.range l).map f).flatten.length = l * P.cellsOf e := by
        intro l
        induction l with
        | zero => simp
        | succ l ih =>
          intro hl
          rw [List.range_succ, List.map_append, List.flatten_append, List.length_append, ih (by omega)]
          simp [(hcell l (by omega)).1, Nat.add_mul]
      exact this len (Nat.le_refl _)
    obtain ⟨L, hLb, hLlo, hLsz, hc, hrow⟩ := slice_loc hsz hlc hp hcell v1
    have g2 := add_row (hi := len * P.cellsOf e) (mv := if len = 0 then 1 else 0) (cs := ((List.range len).map f).flatten) (L := L) hs hw hsh (by omega) (fun hm => hrow (by
      split at hm
      · rename_i h0; rw [h0] at hm; omega
      · omega)) hLb (subs_lit hlit)
    refine ⟨_, some ⟨s.n, 0, some (len * P.cellsOf e)⟩, len, P.cellsOf e, _, _, g2, .one ?_, ?_, hflat, hall, by omega, .inr ⟨rfl, rfl, rfl⟩⟩
    · refine .sliceArr (L := L) ?_ (by omega) (by omega) hsz (by omega) ?_
      · show (if s.n = s.n ∧ len * P.cellsOf e = len * P.cellsOf e then some L else β.arr s.n (len * P.cellsOf e)) = some L
        rw [if_pos ⟨rfl, rfl⟩]
      · have : L.base + (0 - L.lo) = L.base := by omega
        rw [this]; exact hc
    · simp only [firstV]
      rw [if_pos ⟨trivial, Nat.le_refl _⟩]
      by_cases h0 : len = 0
      · rw [if_pos h0]; subst h0; rfl
      · rw [if_neg h0]
        simp only [St.cellsAt, St.get_new, if_true]
        rw [if_pos ⟨by rw [if_neg h0]; omega, by omega, by omega⟩]
        simp only [List.drop_zero]
        rw [List.take_of_length_le (by omega)]

theorem lay {w : World} : ∀ (n : Nat) (t : TypeId), layOk P n t = true → ∀ (fuel : Nat) (cs : List Value) (x : DataW H × List MemPlace), DataW.trod enc P w 0 (fun _ => true) true fuel t cs = some x →
    (0 < w.heap.size ∨ ∀ v ∈ cs, ∀ a l c, v ≠ .slice (some a) l c) → LayRes P n t w cs
  | 0, t, h, _, _, _, _, _ => by cases h
  | n + 1, t, h, fuel, cs, x, hx, hpos => by
    unfold layOk at h
    split at h
    · rename_i ht
      obtain ⟨b, rfl, _⟩ := DataW.trod_bool ht hx
      exact fun β s hs hw hsh => ⟨β, s, [.bool b], .refl hs hw hsh, .one (.bool b), by unfold Fits; rw [ht]; exact ⟨b, rfl⟩⟩
    · rename_i k ht
      obtain ⟨m, rfl, _, hwf⟩ := DataW.trod_int ht hx
      exact fun β s hs hw hsh => ⟨β, s, [.int k m], .refl hs hw hsh, .one (.int k m), by unfold Fits; rw [ht]; exact ⟨m, rfl, hwf⟩⟩
    · rename_i ht
      obtain ⟨b, rfl, _, hm⟩ := DataW.trod_string ht hx
      exact fun β s hs hw hsh => ⟨β, s, [.string b], .refl hs hw hsh, .one (.string b), by unfold Fits; rw [ht]; exact ⟨b, rfl, hm⟩⟩
    · rename_i e ht
      simp only [Bool.and_eq_true, Nat.blt_eq] at h
      rcases DataW.trod_slice ht hx with ⟨rfl, _⟩ | ⟨a, len, cap, elems, rest, m, _, rfl, _, _, hlc, hmax, hel, hr1, hr2, _⟩
      · exact fun β s hs hw hsh => ⟨β, s, [.slice none 0 0], .refl hs hw hsh, .one .sliceNil, by unfold Fits; rw [ht]; exact .inl rfl⟩
      · have hp : 0 < w.heap.size := by
          rcases hpos with h | h
          · exact h
          · exact absurd rfl (h _ (List.mem_cons_self ..) a len cap)
        obtain ⟨hrl, hr2⟩ := hr2 rfl
        refine lay_slice h.1 hlc hp (by omega) (fun i hi => ?_) ht
        by_cases hil : i < len
        · have := hr1 i hil
          rw [List.getElem?_eq_getElem (by omega), Option.bind_eq_some_iff] at this
          obtain ⟨l, q1, q2⟩ := this
          exact ⟨l, q1, fun _ => lay n e h.2 m l _ q2 (.inl hp)⟩
        · have := hr2 (i - len) (by omega)
          rw [List.getElem?_eq_getElem (by omega), Option.bind_eq_some_iff, show len + (i - len) = i from by omega] at this
          obtain ⟨l, q1, q2⟩ := this
          exact ⟨l, q1, fun h => absurd h hil⟩
    · rename_i fs ht
      obtain ⟨xs, m, _, _, hlen, hxs, hf⟩ := DataW.trod_struct ht hx
      intro β s hs hw hsh
      obtain ⟨β', s', ls, g, l1, v, f⟩ := lay_list (P := P) (n := n) (w := w) (fs.toList.map fun f => (f.type, (cs.drop f.offset).take (P.cellsOf f.type))) (by
        intro p hp
        simp only [List.mem_map] at hp
        obtain ⟨fd, hfd, rfl⟩ := hp
        obtain ⟨j, hj, hje⟩ := List.getElem_of_mem hfd
        have h1 := hf j fd (by rw [← hje]; simp)
        rw [List.getElem?_eq_getElem (by rw [hxs]; simpa using hj)] at h1
        refine lay n fd.type (layF_all h fd hfd) m _ _ h1 ?_
        rcases hpos with h | h
        · exact .inl h
        · exact .inr fun v hv => h v (List.mem_of_mem_drop (List.mem_of_mem_take hv))) β s hs hw hsh
      refine ⟨β', s', ls.flatten, g, ?_, ?_⟩
      · rw [List.map_map] at v
        have := chunks (cs := cs) fs.toList 0 _ h hlen
        simp only [Function.comp_def] at v
        rw [this] at v
        simpa using v
      · unfold Fits
        rw [ht]
        refine ⟨ls, rfl, by simpa using l1, fun j fd l hfd hl => ?_⟩
        exact (f j (fd.type, (cs.drop fd.offset).take (P.cellsOf fd.type)) l (by simp [hfd]) hl).1
    · cases h

/-- a field of a struct that reads -/
theorem trod_field (i : Nat) {sz : Nat} {t : TypeId} {fs : Array Field} {f : Field} {w : World} {fuel : Nat} {cs : List Value} {x : DataW H × List MemPlace} (ht : P.underlying t = some (.struct fs)) (hf : fs[i]? = some f) (hs : P.cellsOf f.type = sz)
    (h : DataW.trod enc P w 0 (fun _ => true) true fuel t cs = some x) : ∃ n y, DataW.trod enc P w 0 (fun _ => true) true n f.type ((cs.drop f.offset).take sz) = some y := by
  obtain ⟨xs, n, _, _, _, hxs, hff⟩ := DataW.trod_struct ht h
  have h1 := hff i f hf
  have hi : i < fs.size := by
    rcases Nat.lt_or_ge i fs.size with h | h
    · exact h
    · rw [Array.getElem?_eq_none h] at hf; cases hf
  rw [List.getElem?_eq_getElem (by omega), hs] at h1
  exact ⟨n, _, h1⟩

theorem pos_of_cell {w : World} {r : Reach} {base : Nat} {u : TypeId} {a : Addr} {l c : Nat} (h : Cell.okWide P w r base u (.slice (some a) l c)) : 0 < w.heap.size := by
  have key : ∀ e n, w.has P r base a e n → 0 < w.heap.size := by
    rintro e n ⟨_, _, row, cells, hsh, _⟩
    unfold World.shape? at hsh
    cases hh : w.heap[a.block]? with
    | none => rw [hh] at hsh; cases hsh
    | some o => have := heap_lt hh; omega
  unfold Cell.okWide at h
  split at h <;> first
    | (rename_i hv; cases hv; done)
    | skip
  unfold Cell.ok at h
  split at h <;> first
    | (rename_i hv; cases hv; done)
    | exact key _ _ h.2.2
    | exact h.elim
    | skip
  all_goals (rename_i hv; cases hv; exact key _ _ h.2.2)
theorem pos_of_wide {w : World} {r : Reach} {base : Nat} {t : TypeId} {fs : Array Field} {cs : Array Value} (ht : P.underlying t = some (.struct fs)) (h : Value.okWide P w r base t (.agg cs)) : 0 < w.heap.size ∨ ∀ v ∈ cs.toList, ∀ a l c, v ≠ .slice (some a) l c := by
  by_cases hp : 0 < w.heap.size
  · exact .inl hp
  · refine .inr ?_
    rintro v hv a l c rfl
    unfold Value.okWide at h
    rw [ht] at h
    obtain ⟨cs', e, _, ts, _, _, hc⟩ := h
    cases e
    obtain ⟨j, hj, hje⟩ := List.getElem_of_mem hv
    obtain ⟨u, _, hcell⟩ := hc j (.slice (some a) l c) (by rw [← hje]; simp)
    exact hp (pos_of_cell hcell)

end
end Go.Ai
