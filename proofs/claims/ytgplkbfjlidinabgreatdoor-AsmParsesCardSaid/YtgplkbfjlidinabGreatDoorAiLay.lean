/- The interpreter: what holds of it. -/
import Derived.Test.YtgplkbfjlidinabGreatDoorAiSub
import Derived.ProofKit
import Derived.OpenShut
import Derived.Test.YtgplkbfjlidinabGreatDoorAiEq
import Derived.Test.YtgplkbfjlidinabGreatDoorKit
set_option linter.unusedVariables false
set_option linter.unusedSimpArgs false
set_option linter.unnecessarySimpa false
/-
  Inputs: whatever reads as numbers, texts, slices, arrays and structs of these is told by tokens.
-/
namespace Go.Ai
open Go.ChangeShapes Go.WideShapes Go.RowKit
def layF (P : Program) (ok : TypeId → Bool) : List Field → Nat → Nat → Bool
 | [], off, total => off == total
 | f :: fs, off, total => (f.offset == off) && ok f.type && layF P ok fs (off + P.cellsOf f.type) total
def layOk (P : Program) : Nat → TypeId → Bool
  | 0, _ => false
  | n + 1, t =>
    match P.underlying t with
    | some .bool | some (.int _) | some .string => true
    | some (.slice e) => Nat.blt 0 (P.cellsOf e) && layOk P n e
    | some (.array m e) => (P.cellsOf t == m * P.cellsOf e) && Nat.blt 0 (P.cellsOf e) && layOk P n e
    | some (.struct fs) => layF P (layOk P n) fs.toList 0 (P.cellsOf t)
    | _ => false
noncomputable def inl (n sz : Nat) (cs : List Value) : Value := .chan (some (code (.slice n sz cs [])))
def TFits (P : Program) : Nat → TypeId → List Value → Prop
  | 0, _, _ => False
  | n + 1, t, xs =>
    match P.underlying t with
    | some .bool => ∃ b, xs = [.bool b]
    | some (.int k) => ∃ x, xs = [.int k x] ∧ (Lit.int k x).wf = true
    | some .string => ∃ s : ByteArray, xs = [.string s] ∧ s.size ≤ maxLen
    | some (.slice e) => ∃ ls : List (List Value), xs = [inl ls.length (P.cellsOf e) ls.flatten] ∧ ls.length ≤ maxLen ∧ ∀ l ∈ ls, l.length = P.cellsOf e ∧ TFits P n e l
    | some (.array m e) => ∃ ls : List (List Value), xs = ls.flatten ∧ ls.length = m ∧ ∀ l ∈ ls, l.length = P.cellsOf e ∧ TFits P n e l
    | some (.struct fs) => ∃ ls : List (List Value), xs = ls.flatten ∧ ls.length = fs.toList.length ∧ ∀ (j : Nat) (f : Field) (l : List Value), fs.toList[j]? = some f → ls[j]? = some l → l.length = P.cellsOf f.type ∧ TFits P n f.type l
    | _ => False
def TRd (P : Program) (w : World) : Nat → TypeId → List Value → List Value → Prop
  | 0, _, _, _ => False
  | n + 1, t, cs, xs =>
    match P.underlying t with
    | some .bool => ∃ b, cs = [.bool b] ∧ xs = [.bool b]
    | some (.int k) => ∃ x, cs = [.int k x] ∧ xs = [.int k x] ∧ (Lit.int k x).wf = true
    | some .string => ∃ s : ByteArray, cs = [.string s] ∧ xs = [.string s] ∧ s.size ≤ maxLen
    | some (.slice e) => ∃ ls : List (List Value), xs = [inl ls.length (P.cellsOf e) ls.flatten] ∧ ls.length ≤ maxLen ∧ (∀ l ∈ ls, l.length = P.cellsOf e) ∧
        ((ls = [] ∧ cs = [.slice none 0 0]) ∨ ∃ (a : Addr) (cap : Nat), cs = [.slice (some a) ls.length cap] ∧ ls.length ≤ cap ∧ ∀ i l, ls[i]? = some l → ∃ l', w.cells? 0 (a.add (i * P.cellsOf e)) (P.cellsOf e) = some l' ∧ TRd P w n e l' l)
    | some (.array m e) => ∃ ls : List (List Value), xs = ls.flatten ∧ ls.length = m ∧ cs.length = P.cellsOf t ∧ ∀ i l, ls[i]? = some l → TRd P w n e ((cs.drop (i * P.cellsOf e)).take (P.cellsOf e)) l
    | some (.struct fs) => ∃ ls : List (List Value), xs = ls.flatten ∧ ls.length = fs.toList.length ∧ cs.length = P.cellsOf t ∧ ∀ (j : Nat) (f : Field) (l : List Value), fs.toList[j]? = some f → ls[j]? = some l → TRd P w n f.type ((cs.drop f.offset).take (P.cellsOf f.type)) l
    | _ => False
def idR (k : Nat) (i : Nat) (_sp : Option Nat) (j : Nat) : Prop := i < k ∧ i = j
mutual
theorem VR.self {β : Bij} {k : Nat} (hk : ∀ i, β.dom i → i < k) : ∀ {v x : Value}, VR β v x → Sub (idR k) v v
 | _, _, .bool b => .bool b
 | _, _, .int k n => .int k n
 | _, _, .float k n => .float k n
 | _, _, .complex k a b _ => .complex k a b
 | _, _, .string s => .string s
 | _, _, .ptrNil => .ptrNil
 | _, _, .ptrObj h => .ptr ⟨hk _ (.inl ⟨_, h⟩), rfl⟩
 | _, _, .ptrArr h _ => .ptr ⟨hk _ (.inr ⟨_, _, h⟩), rfl⟩
 | _, _, .sliceNil => .sliceNil
 | _, _, .sliceObj h _ _ => .slice ⟨hk _ (.inl ⟨_, h⟩), rfl⟩
 | _, _, .sliceArr h _ _ _ _ _ _ => .slice ⟨hk _ (.inr ⟨_, _, h⟩), rfl⟩
 | _, _, .sliceVir h _ _ => .slice ⟨hk _ (.vir h), rfl⟩
 | _, _, .mapNil => .mapNil
 | _, _, .map h => .map ⟨hk _ (.inl ⟨_, h⟩), rfl⟩
 | _, _, .chanNil => .chan none
 | _, _, .junk c _ _ => .chan (some c)
 | _, _, .func (.same f h) ha hc => .func (.same f h) (VRs.self hk ha) (VRs.self hk hc)
 | _, _, .func (.yield h) ha hc => .func (.yield ⟨hk _ (.inl ⟨_, h⟩), rfl⟩) (VRs.self hk ha) (VRs.self hk hc)
 | _, _, .nilFunc => .nilFunc
 | _, _, .iface h => .iface (VR.self hk h)
 | _, _, .nilIface => .nilIface
 | _, _, .agg h => .agg (VRs.self hk h)
 | _, _, .tuple h => .tuple (VRs.self hk h)
theorem VRs.self {β : Bij} {k : Nat} (hk : ∀ i, β.dom i → i < k) : ∀ {l x : List Value}, VRs β l x → Subs (idR k) l l
 | _, _, .nil => .nil
 | _, _, .cons h t => .cons (VR.self hk h) (VRs.self hk t)
end
section
variable {P : Program}
theorem chunks {cs : List Value} {ok : TypeId → Bool} : ∀ (fs : List Field) (off total : Nat), layF P ok fs off total = true → cs.length = total → (fs.map fun f => (cs.drop f.offset).take (P.cellsOf f.type)).flatten = cs.drop off
  | [], off, total, h, hl => by
    have : off = total := by simpa [layF] using h
    rw [List.drop_eq_nil_of_le Z4];rfl
  | f :: fs, off, total, h, hl => by
    simp only [layF, Bool.and_eq_true, beq_iff_eq] at h;rw [List.map_cons, List.flatten_cons, chunks fs _ total h.2 hl, h.1.1, ← List.drop_drop, List.take_append_drop]
theorem layF_all {ok : TypeId → Bool} : ∀ {fs : List Field} {off total : Nat}, layF P ok fs off total = true → ∀ f ∈ fs, ok f.type = true
  | [], _, _, _, f, hf => by cases hf
  | x :: fs, off, total, h, f, hf => by
    simp only [layF, Bool.and_eq_true, beq_iff_eq] at h;rcases List.mem_cons.1 hf with rfl | hf
    · exact h.1.2
    · exact layF_all h.2 f hf
theorem layF_le {ok : TypeId → Bool} : ∀ {fs : List Field} {off total : Nat}, layF P ok fs off total = true → off ≤ total ∧ ∀ f ∈ fs, f.offset + P.cellsOf f.type ≤ total
  | [], _, _, h => by
    simp only [layF, beq_iff_eq] at h;exact ⟨Z4, fun f hf => by cases hf⟩
  | x :: fs, off, total, h => by
    simp only [layF, Bool.and_eq_true, beq_iff_eq] at h;obtain ⟨h1, h2⟩ := layF_le h.2;refine ⟨Z4, fun f hf => ?_⟩;rcases List.mem_cons.1 hf with rfl | hf
    · omega
    · exact h2 f hf
theorem list_of {α : Type} {p : Nat → α → Prop} : ∀ (n : Nat), (∀ i, i < n → ∃ x, p i x) → ∃ l : List α, l.length = n ∧ ∀ i x, l[i]? = some x → p i x
  | 0, _ => ⟨[], rfl, fun i x h => Z21⟩
  | n + 1, h => by
    obtain ⟨l, h1, h2⟩ := list_of n fun i hi => h i Z4
    obtain ⟨x, hx⟩ := h n Z4;refine ⟨l ++ [x], by simp [h1], fun i y hy => ?_⟩;by_cases hi : i < n
    · rw [List.getElem?_append_left Z4] at hy
      exact h2 i y hy
    · rw [List.getElem?_append_right Z4] at hy
      have : i = n := by
        have := (List.getElem?_eq_some_iff.1 hy).1;simp at this; omega
      subst this;simp [h1] at hy
      subst hy;exact hx
theorem flatten_even {sz : Nat} : ∀ {ls : List (List Value)}, (∀ l ∈ ls, l.length = sz) → ls.flatten.length = ls.length * sz
  | [], _ => Z0u
  | l :: ls, h => by
    rw [List.flatten_cons, List.length_append, flatten_even fun x hx => h x (List.mem_cons_of_mem _ hx), h l (List.mem_cons_self ..), List.length_cons, Nat.succ_mul];omega
theorem flatten_at {sz : Nat} (hz : 0 < sz) : ∀ {ls : List (List Value)}, (∀ l ∈ ls, l.length = sz) → ∀ {j : Nat} {v : Value}, ls.flatten[j]? = some v → ∃ l, ls[j / sz]? = some l ∧ l[j % sz]? = some v
  | [], _, j, v, h => Z21
  | l :: ls, hl, j, v, h => by
    have hl0 := hl l (List.mem_cons_self ..);rw [List.flatten_cons] at h;by_cases hj : j < sz
    · rw [List.getElem?_append_left Z4] at h
      exact ⟨l, by rw [Nat.div_eq_of_lt hj]; rfl, by rw [Nat.mod_eq_of_lt hj]; exact h⟩
    · rw [List.getElem?_append_right Z4, hl0] at h
      obtain ⟨l1, h1, h2⟩ := flatten_at hz (fun x hx => hl x (List.mem_cons_of_mem _ hx)) h;obtain ⟨k, rfl⟩ : ∃ k, j = k + sz := ⟨j - sz, Z4⟩;rw [Nat.add_sub_cancel] at h1 h2;refine ⟨l1, ?_, ?_⟩
      · rw [Nat.add_div_right _ hz]; exact h1
      · rw [Nat.add_mod_right]; exact h2
theorem TRd.length {w : World} : ∀ {n : Nat} {t : TypeId} {cs xs : List Value}, layOk P n t = true → TRd P w n t cs xs → xs.length = cs.length
  | 0, _, _, _, h, _ => Z02
  | n + 1, t, cs, xs, hl, h => by
    unfold layOk at hl;unfold TRd at h;split at h
    · obtain ⟨b, rfl, rfl⟩ := h; rfl
    · obtain ⟨b, rfl, rfl, _⟩ := h; rfl
    · obtain ⟨b, rfl, rfl, _⟩ := h; rfl
    · obtain ⟨ls, rfl, _, _, ⟨_, rfl⟩ | ⟨a, cap, rfl, _⟩⟩ := h <;> rfl
    · rename_i m e ht
      rw [ht] at hl;simp only [Bool.and_eq_true, beq_iff_eq, Nat.blt_eq] at hl;obtain ⟨ls, rfl, h1, h2, h3⟩ := h;rw [flatten_even (sz := P.cellsOf e) (fun l hm => ?_), h1, h2, hl.1.1];obtain ⟨i, hi, rfl⟩ := List.getElem_of_mem hm;rw [TRd.length hl.2 (h3 i _ (List.getElem?_eq_getElem hi)), List.length_take, List.length_drop, h2, hl.1.1];have : (i + 1) * P.cellsOf e ≤ m * P.cellsOf e := Nat.mul_le_mul_right _ Z4;rw [Nat.succ_mul] at this;omega
    · rename_i fs ht
      rw [ht] at hl;obtain ⟨ls, rfl, h1, h2, h3⟩ := h;have hc := chunks (cs := cs) fs.toList 0 _ hl h2;rw [List.drop_zero] at hc;rw [← hc, List.length_flatten, List.length_flatten];congr 1
      apply List.ext_getElem?;intro j;rw [List.getElem?_map, List.getElem?_map, List.getElem?_map];cases hf : fs.toList[j]? with
      | none =>
        rw [List.getElem?_eq_none_iff] at hf;rw [List.getElem?_eq_none Z4];rfl
      | some f =>
        have hj := (List.getElem?_eq_some_iff.1 hf).1;obtain ⟨l, hlj⟩ : ∃ l, ls[j]? = some l := ⟨ls[j]' Z4, List.getElem?_eq_getElem _⟩;rw [hlj];simp only [Option.map_some];congr 1
        exact TRd.length (layF_all hl f (List.mem_of_getElem? hf)) (h3 j f l hf hlj)
    · exact h.elim
theorem TRd.fits {w : World} : ∀ {n : Nat} {t : TypeId} {cs xs : List Value}, layOk P n t = true → TRd P w n t cs xs → TFits P n t xs
  | 0, _, _, _, _, h => h.elim
  | n + 1, t, cs, xs, hl, h => by
    unfold layOk at hl;unfold TRd at h;unfold TFits;split at h
    · obtain ⟨b, rfl, rfl⟩ := h; exact ⟨b, rfl⟩
    · obtain ⟨b, rfl, rfl, hw⟩ := h; exact ⟨b, rfl, hw⟩
    · obtain ⟨b, rfl, rfl, hw⟩ := h; exact ⟨b, rfl, hw⟩
    · rename_i e ht
      rw [ht] at hl;simp only [Bool.and_eq_true] at hl;obtain ⟨ls, rfl, h1, h2, h3⟩ := h;refine ⟨ls, rfl, h1, fun l hm => ⟨h2 l hm, ?_⟩⟩;obtain ⟨i, hi, rfl⟩ := List.getElem_of_mem hm;rcases h3 with ⟨rfl, _⟩ | ⟨a, cap, _, _, h4⟩
      · cases hm
      · obtain ⟨l', _, h5⟩ := h4 i _ (List.getElem?_eq_getElem hi)
        exact h5.fits hl.2
    · rename_i m e ht
      rw [ht] at hl;have hl0 := hl;simp only [Bool.and_eq_true, beq_iff_eq, Nat.blt_eq] at hl;obtain ⟨ls, rfl, h1, h2, h3⟩ := h;refine ⟨ls, rfl, h1, fun l hm => ?_⟩;obtain ⟨i, hi, rfl⟩ := List.getElem_of_mem hm;have h5 := h3 i _ (List.getElem?_eq_getElem hi);refine ⟨?_, h5.fits hl.2⟩;rw [TRd.length hl.2 h5, List.length_take, List.length_drop, h2, hl.1.1];have : (i + 1) * P.cellsOf e ≤ m * P.cellsOf e := Nat.mul_le_mul_right _ Z4;rw [Nat.succ_mul] at this;omega
    · rename_i fs ht
      rw [ht] at hl;obtain ⟨ls, rfl, h1, h2, h3⟩ := h;refine ⟨ls, rfl, h1, fun j f l hf hlj => ?_⟩;have h5 := h3 j f l hf hlj;have ho := layF_all hl f (List.mem_of_getElem? hf);refine ⟨?_, h5.fits ho⟩;rw [TRd.length ho h5, List.length_take, List.length_drop, h2];have := (layF_le hl).2 f (List.mem_of_getElem? hf);omega
    · exact h.elim
def intV : Value → Bool
 | .int _ _ => true
 | _ => false
def layI (P : Program) (w : World) (b j : Nat) (v : Value) : Prop :=
 (intV v = true ∧ w.cell? ⟨b, j, none⟩ = some v) ∨ ∃ (n : Nat) (t : TypeId) (cs xs : List Value) (i : Nat) (x : Value), layOk P n t = true ∧ TRd P w n t cs xs ∧ xs[i]? = some v ∧ cs[i]? = some x ∧ w.cell? ⟨b, j, none⟩ = some x
def layB (P : Program) (w : World) : Bij := ⟨fun _ => none, fun _ _ => none, fun _ => False, layI P w, fun b n => ∃ c ty fr, w.heap[b]? = some (.cells c ty fr) ∧ c.size = n⟩
theorem addB (x : Addr) (n : Nat) : (x.add n).block = x.block := by unfold Addr.add; split <;> rfl
theorem addO (x : Addr) (n : Nat) : (x.add n).off = x.off + n := by unfold Addr.add; split <;> simp_all
theorem cell_none {w : World} {a : Addr} {x : Value} (h : w.cell? a = some x) : a.spot = none ∧ w.cell? ⟨a.block, a.off, none⟩ = some x ∧ a.block < w.heap.size := by
  have h0 := h;unfold World.cell? at h;cases hh : w.heap[a.block]? with
  | none => rw [hh] at h; cases h
  | some o =>
    rw [hh] at h;cases o with
    | cells c t fr =>
      obtain ⟨b, o, sp⟩ := a;cases sp with
      | some _ => cases h
      | none => exact ⟨rfl, h0, heap_lt hh⟩
    | _ => cases h
theorem TRd.vrs {w : World} : ∀ {n : Nat} {t : TypeId} {cs xs : List Value}, layOk P n t = true → TRd P w n t cs xs → VRs (layB P w) xs cs ∧ clo.cloL xs = true ∧ xs.all one = true
  | 0, _, _, _, _, h => h.elim
  | n + 1, t, cs, xs, hl, h => by
    unfold layOk at hl;unfold TRd at h;split at h
    · obtain ⟨b, rfl, rfl⟩ := h; exact ⟨.one (.bool _), rfl, rfl⟩
    · obtain ⟨b, rfl, rfl, hw⟩ := h; exact ⟨.one (.int _ _), rfl, rfl⟩
    · obtain ⟨b, rfl, rfl, hw⟩ := h; exact ⟨.one (.string _), rfl, rfl⟩
    · rename_i e ht
      rw [ht] at hl;simp only [Bool.and_eq_true, Nat.blt_eq] at hl;obtain ⟨ls, rfl, h1, h2, h3⟩ := h;have key : ∀ {x : Value}, refy x = true → InlR (layI P w) (.slice ls.length (P.cellsOf e) ls.flatten []) x → VR (layB P w) (inl ls.length (P.cellsOf e) ls.flatten) x := by
        intro x hr hx;refine .junk _ hr fun i hi => ?_
        rw [dec_code] at hi;obtain rfl := Option.some.inj hi;exact hx
      rcases h3 with ⟨rfl, rfl⟩ | ⟨a, cap, rfl, h4, h5⟩
      · exact ⟨.one (key rfl (.none hl.1)), rfl, rfl⟩
      · refine ⟨.one (key rfl ?_), rfl, rfl⟩
        by_cases h0 : ls = []
        · subst h0; exact .empty hl.1
        have hflat := flatten_even h2;have hpos : 0 < ls.length := List.length_pos_iff.2 h0;have cellat : ∀ j v, ls.flatten[j]? = some v → layI P w a.block (a.off + j) v ∧ a.spot = none := by
          intro j v hj;obtain ⟨l, g1, g2⟩ := flatten_at hl.1 h2 hj;obtain ⟨l', g3, g4⟩ := h5 _ _ g1;obtain ⟨_, g5, g6⟩ := World.cells?_some g3;have hm : j % P.cellsOf e < P.cellsOf e := Nat.mod_lt _ hl.1;have g7 := g6 _ hm;rw [List.getElem?_eq_getElem Z4] at g7;obtain ⟨q1, q2, _⟩ := cell_none g7;rw [addB, addB, addO, addO] at q2;have hdm := Nat.div_add_mod j (P.cellsOf e);rw [Nat.mul_comm] at hdm;rw [show a.off + j / P.cellsOf e * P.cellsOf e + j % P.cellsOf e = a.off + j from Z4] at q2;refine ⟨.inr ⟨n, e, l', l, j % P.cellsOf e, _, hl.2, g4, g2, List.getElem?_eq_getElem Z4, q2⟩, ?_⟩;have h00 := h5 0 ls[0] (List.getElem?_eq_getElem hpos);obtain ⟨l0, r1, _⟩ := h00;obtain ⟨_, r2, r3⟩ := World.cells?_some r1;have r4 := r3 0 hl.1;rw [List.getElem?_eq_getElem Z4] at r4;have := (cell_none r4).1;simpa [Addr.add] using this
        have hsp : a.spot = none := by
          have : 0 < ls.flatten.length := by rw [hflat]; exact Nat.mul_pos hpos hl.1
          exact (cellat 0 _ (List.getElem?_eq_getElem this)).2
        obtain ⟨b, o, sp⟩ := a;simp only at hsp;subst hsp;refine .slice hl.1 hflat h4 ?_ fun j v hj => ?_
        · rw [hflat]
          have := Nat.mul_le_mul_right (P.cellsOf e) h4;simpa using this
        · rw [List.append_nil] at hj
          exact (cellat j v hj).1
    · rename_i m e ht
      rw [ht] at hl;simp only [Bool.and_eq_true, beq_iff_eq, Nat.blt_eq] at hl;obtain ⟨ls, rfl, h1, h2, h3⟩ := h;have hel : ∀ l ∈ ls, l.length = P.cellsOf e := fun l hm => by
        obtain ⟨i, hi, rfl⟩ := List.getElem_of_mem hm;rw [TRd.length hl.2 (h3 i _ (List.getElem?_eq_getElem hi)), List.length_take, List.length_drop, h2, hl.1.1];have : (i + 1) * P.cellsOf e ≤ m * P.cellsOf e := Nat.mul_le_mul_right _ Z4;rw [Nat.succ_mul] at this;omega
      have hfl := flatten_even hel;have hv : ∀ i l, ls[i]? = some l → _ := fun i l hi => (h3 i l hi).vrs hl.2
      refine ⟨.of (by rw [hfl, h1, h2, hl.1.1]) fun j v v' hj hj' => ?_, clo_all.2 fun v hm => ?_, List.all_eq_true.2 fun v hm => ?_⟩
      · obtain ⟨l, g1, g2⟩ := flatten_at hl.1.2 hel hj
        obtain ⟨u, g3, g4⟩ := (hv _ _ g1).1.get g2;have hm : j % P.cellsOf e < P.cellsOf e := Nat.mod_lt _ hl.1.2;rw [List.getElem?_take_of_lt hm, List.getElem?_drop] at g3;have hdm := Nat.div_add_mod j (P.cellsOf e);rw [Nat.mul_comm] at hdm;rw [hdm, hj'] at g3;obtain rfl := Option.some.inj g3;exact g4
      · rw [List.mem_flatten] at hm
        obtain ⟨l, hm, hv'⟩ := hm;obtain ⟨i, hi, rfl⟩ := List.getElem_of_mem hm;exact clo_all.1 (hv i _ (List.getElem?_eq_getElem hi)).2.1 v hv'
      · rw [List.mem_flatten] at hm
        obtain ⟨l, hm, hv'⟩ := hm;obtain ⟨i, hi, rfl⟩ := List.getElem_of_mem hm;exact List.all_eq_true.1 (hv i _ (List.getElem?_eq_getElem hi)).2.2 v hv'
    · rename_i fs ht
      rw [ht] at hl;obtain ⟨ls, rfl, h1, h2, h3⟩ := h;have hc := chunks (cs := cs) fs.toList 0 _ hl h2;rw [List.drop_zero] at hc;have hv : ∀ (i : Nat) (l : List Value), ls[i]? = some l → ∃ f, fs.toList[i]? = some f ∧ (VRs (layB P w) l ((cs.drop f.offset).take (P.cellsOf f.type)) ∧ clo.cloL l = true ∧ l.all one = true) := fun i l hi => by
        have hj := (List.getElem?_eq_some_iff.1 hi).1;have hf : fs.toList[i]? = some (fs.toList[i]' Z4) := List.getElem?_eq_getElem _;exact ⟨_, hf, (h3 i _ l hf hi).vrs (layF_all hl _ (List.mem_of_getElem? hf))⟩
      have zip : ∀ (fs : List Field) (ls : List (List Value)), ls.length = fs.length → (∀ (i : Nat) (f : Field) (l : List Value), fs[i]? = some f → ls[i]? = some l → VRs (layB P w) l ((cs.drop f.offset).take (P.cellsOf f.type))) → VRs (layB P w) ls.flatten (fs.map fun f => (cs.drop f.offset).take (P.cellsOf f.type)).flatten := by
        intro fs;induction fs with
        | nil =>
          intro ls h _;have : ls = [] := List.eq_nil_of_length_eq_zero h;subst this;exact .nil
        | cons f fs ih =>
          intro ls h hall;cases ls with
          | nil => simp at h
          | cons l ls =>
            rw [List.flatten_cons, List.map_cons, List.flatten_cons];exact (hall 0 f l rfl rfl).append (ih ls Z15 fun i f' l' h1 h2 => hall (i + 1) f' l' Z1e Z1q)
      refine ⟨?_, clo_all.2 fun v hm => ?_, List.all_eq_true.2 fun v hm => ?_⟩
      · rw [← hc]
        refine zip _ _ h1 fun i f l hf hi => ?_
        exact ((h3 i f l hf hi).vrs (layF_all hl _ (List.mem_of_getElem? hf))).1
      · rw [List.mem_flatten] at hm
        obtain ⟨l, hm, hv'⟩ := hm;obtain ⟨i, hi, rfl⟩ := List.getElem_of_mem hm;obtain ⟨f, _, q⟩ := hv i _ (List.getElem?_eq_getElem hi);exact clo_all.1 q.2.1 v hv'
      · rw [List.mem_flatten] at hm
        obtain ⟨l, hm, hv'⟩ := hm;obtain ⟨i, hi, rfl⟩ := List.getElem_of_mem hm;obtain ⟨f, _, q⟩ := hv i _ (List.getElem?_eq_getElem hi);exact List.all_eq_true.1 q.2.2 v hv'
    · exact h.elim
theorem sr_lay {K : Code → Prop} (g : Nat → Option AObj) (w : World) : SR K (layB P w) own00 g w where
 obj i b h := Z02
 arr i hi L h := Z02
 loc i hi hi' L L' h := Z02
 blk i hi L h := Z02
 one i h := by obtain ⟨b, h⟩ := h; cases h
 small b i h := Z02
 vir i _ h := Z02
 ice := ⟨fun b j v h => by
  rcases h with ⟨hi, hc⟩ | ⟨n, t, cs, xs, i, x, h1, h2, h3, h4, h5⟩
  ·cases v <;> first | cases hi; done | exact ⟨rfl, (cell_none hc).2.2, rfl, rfl, _, hc, .int _ _⟩
  obtain ⟨q1, q2, q3⟩ := h2.vrs h1;obtain ⟨u, q4, q5⟩ := q1.get h3;rw [h4] at q4;obtain rfl := Option.some.inj q4;exact ⟨rfl, (cell_none h5).2.2, clo_all.1 q2 v (List.mem_of_getElem? h3), List.all_eq_true.1 q3 v (List.mem_of_getElem? h3), x, h5, q5⟩, fun b n h => by
  have h' := h;obtain ⟨c, ty, fr, h1, _⟩ := h';exact ⟨rfl, (Array.getElem?_eq_some_iff.1 h1).1, h⟩⟩
variable {H : Type} {enc : TypeId × Value → H}
theorem lay_tok {w : World} : ∀ (n : Nat) (t : TypeId), layOk P n t = true → ∀ (fuel : Nat) (cs : List Value) (x : DataW H × List MemPlace), DataW.trod enc P w 0 (fun _ => true) true fuel t cs = some x → ∃ xs, TRd P w n t cs xs
  | 0, t, h, _, _, _, _ => Z02
  | n + 1, t, h, fuel, cs, x, hx => by
    have h0 := h;unfold layOk at h;unfold TRd;split at h
    · rename_i ht
      obtain ⟨b, rfl, _⟩ := DataW.trod_bool ht hx;exact ⟨[.bool b], b, rfl, rfl⟩
    · rename_i k ht
      obtain ⟨m, rfl, _, hwf⟩ := DataW.trod_int ht hx;exact ⟨[.int k m], m, rfl, rfl, hwf⟩
    · rename_i ht
      obtain ⟨b, rfl, _, hm⟩ := DataW.trod_string ht hx;exact ⟨[.string b], b, rfl, rfl, hm⟩
    · rename_i e ht
      simp only [Bool.and_eq_true, Nat.blt_eq] at h;rcases DataW.trod_slice ht hx with ⟨rfl, _⟩ | ⟨a, len, cap, elems, rest, m, _, rfl, _, _, hlc, hmax, hel, hr1, _, _⟩
      · exact ⟨[inl 0 (P.cellsOf e) []], [], rfl, Nat.zero_le _, (fun l hl => by cases hl), .inl ⟨rfl, rfl⟩⟩
      · obtain ⟨ls, q1, q2⟩ := list_of (p := fun i l => ∃ l', w.cells? 0 (a.add (i * P.cellsOf e)) (P.cellsOf e) = some l' ∧ TRd P w n e l' l) len fun i hi => by
          have := hr1 i hi;rw [List.getElem?_eq_getElem Z4, Option.bind_eq_some_iff] at this;obtain ⟨l', r1, r2⟩ := this;obtain ⟨l, hl⟩ := lay_tok n e h.2 m l' _ r2;exact ⟨l, l', r1, hl⟩
        refine ⟨_, ls, rfl, Z4, fun l hl => ?_, .inr ⟨a, cap, by rw [q1], Z4, q2⟩⟩;obtain ⟨i, hi, rfl⟩ := List.getElem_of_mem hl;obtain ⟨l', r1, r2⟩ := q2 i _ (List.getElem?_eq_getElem hi);rw [TRd.length h.2 r2];exact (World.cells?_some r1).2.1
    · rename_i m e ht
      simp only [Bool.and_eq_true, beq_iff_eq, Nat.blt_eq] at h;obtain ⟨ys, k, _, _, hlen, hys, hf⟩ := DataW.trod_array ht hx;obtain ⟨ls, q1, q2⟩ := list_of (p := fun i l => TRd P w n e ((cs.drop (i * P.cellsOf e)).take (P.cellsOf e)) l) m fun i hi => by
        have := hf i hi;rw [List.getElem?_eq_getElem Z4] at this;exact lay_tok n e h.2 k _ _ this
      exact ⟨_, ls, rfl, q1, hlen, q2⟩
    · rename_i fs ht
      obtain ⟨ys, m, _, _, hlen, hys, hf⟩ := DataW.trod_struct ht hx;obtain ⟨ls, q1, q2⟩ := list_of (p := fun i l => ∀ f, fs.toList[i]? = some f → TRd P w n f.type ((cs.drop f.offset).take (P.cellsOf f.type)) l) fs.toList.length fun i hi => by
        have hfi : fs.toList[i]? = some (fs.toList[i]) := List.getElem?_eq_getElem hi;have := hf i _ (by rw [← Array.getElem?_toList]; exact hfi);rw [List.getElem?_eq_getElem (by rw [hys]; simpa using hi)] at this;obtain ⟨l, hl⟩ := lay_tok n _ (layF_all h _ (List.mem_of_getElem? hfi)) m _ _ this;refine ⟨l, fun f hf => ?_⟩;rw [hfi] at hf;obtain rfl := Option.some.inj hf;exact hl
      exact ⟨_, ls, rfl, q1, hlen, fun j f l h1 h2 => q2 j l h2 f h1⟩
    · cases h
theorem lay_arg {w : World} {n : Nat} {t : TypeId} (hl : layOk P n t = true) {fuel : Nat} {cs : List Value} {x : DataW H × List MemPlace} (hx : DataW.trod enc P w 0 (fun _ => true) true fuel t cs = some x) :
  ∃ xs, VRs (layB P w) xs cs ∧ TFits P n t xs := by
 obtain ⟨xs, h⟩ := lay_tok n t hl fuel cs x hx;exact ⟨xs, (h.vrs hl).1, h.fits hl⟩
end
end Go.Ai
/-
  Rules for use: chunks of a region, dead slots, what is made in a round and no longer reached.
-/
namespace Go.Ai
section
variable {C : Cfg} {rc : Rec}
theorem ops_known {ops : Array Oper} {l : List Oper} {e : Env} {s : St} {R : Env → St → Prop} (h : isRet (execOps C rc ops l e s) = true) (hR : R (getEnv (execOps C rc ops l e s)) (getSt (execOps C rc ops l e s))) : (execOps C rc ops l e s).All fun x => R x.1 x.2 := by
 rw [isRet_eq h];exact hR
theorem ops_cons {ops : Array Oper} (o : Oper) (l : List Oper) (e : Env) (s : St) : execOps C rc ops (o :: l) e s = if Region.wanted o (Z2p ops e) = true then (oneOp C rc e s o.op).bind (fun x => execOps C rc ops l (e.dst o.dst x.1) x.2) else execOps C rc ops l (e.dst o.dst undef) s := rfl
theorem ops_append {ops : Array Oper} : ∀ (l m : List Oper) (e : Env) (s : St), execOps C rc ops (l ++ m) e s = (execOps C rc ops l e s).bind fun x => execOps C rc ops m x.1 x.2
  | [], m, e, s => rfl
  | o :: l, m, e, s => by
    have assoc : ∀ {α β γ : Type} (x : M α) (f : α → M β) (g : β → M γ), (x.bind f).bind g = x.bind fun a => (f a).bind g := by
      intro α β γ x f g;induction x with
      | ret a => rfl
      | fail => rfl
      | ask n k ih => simp only [M.bind]; congr 1; funext i; exact ih i
    rw [List.cons_append, ops_cons, ops_cons];split
    · rw [assoc]
      congr 1
      funext x
      exact ops_append l m _ _
    · exact ops_append l m _ _
theorem ops_chunk (k : Nat) {ops : Array Oper} {l : List Oper} {e : Env} {s : St} {R : Env → St → Prop} (h : isRet (execOps C rc ops (l.take k) e s) = true)
  (hR : (execOps C rc ops (l.drop k) (getEnv (execOps C rc ops (l.take k) e s)) (getSt (execOps C rc ops (l.take k) e s))).All fun x => R x.1 x.2) : (execOps C rc ops l e s).All fun x => R x.1 x.2 := by
 conv => rw [← List.take_append_drop k l]
 rw [ops_append, M.all_bind, isRet_eq h];exact hR
theorem c_region {fid id : Nat} {ops : Array Oper} {e : Env} {s : St} {Q : Out → Env → St → Prop} (h : (execOps C rc ops ops.toList e s).All fun x => Q .normal x.1 x.2) : (execC C rc fid (.region id ops false) e s).All fun x => Q x.1 x.2.1 x.2.2 := by
 unfold execC;simp only [cond_false];rw [M.all_bind];exact h
end
section
variable {P : Program} {G : Nat}
theorem fit_id {k : Nat} {s s0 : St} (hk : s0.n = k) (hn : k ≤ s.n) (hw : s0.WF) (hG : gl G ≤ k) (hget : ∀ i, i < k → s.get i = s0.get i) (hself : ∀ i, i < k → ORel (idR k) (s0.get i) (s0.get i)) : Fit G k (fun i => i) s s0 where
  num := hk
  inj _ _ _ _ h := .inl h
  lt i hi := Z4
  obj i hi := by
    rw [hget i hi];have := hself i hi;cases hg : s0.get i with
    | none => trivial
    | some o =>
      rw [hg] at this;have mono : ∀ {o o2 : AObj}, OSub (idR k) o o2 → OSub (fun j _ i => i < k ∧ i = j) o o2 := by
        have hR : ∀ i sp j, idR k i sp j → j < k ∧ j = i := Z0z
        have ents : ∀ {a b : List MapEntry}, EntsS (idR k) a b → EntsS (fun j _ i => i < k ∧ i = j) a b := by
          intro a b h;induction h with
          | nil => exact .nil
          | cons h _ ih => exact .cons (h.mono hR) ih
        intro o o2 h;cases h with
        | cells h => exact .cells (h.mono hR)
        | arr h => exact .arr (h.mono hR)
        | map h => exact .map (ents h)
        | iterNil => exact .iterNil
        | iter h => exact .iter (hR _ _ _ h)
        | siter => exact .siter
      exact mono this
  glob g hg := ⟨Z4, rfl⟩
  wf := hw
theorem back_id {k : Nat} {s s0 s0' : St} (_hn : k ≤ s.n) (hsw : s.WF) (hget : ∀ i, i < k → s.get i = s0.get i) (hself : ∀ i, i < k → ORel (idR k) (s0.get i) (s0.get i)) (hsame : ∀ i, i < k → s0'.get i = s0.get i) :
    Back k (fun i => i) (fun _ _ => False) s s0 s0' (fun i => if i < k then some i else none) s where
  old i hi := .inl (if_pos hi)
  cons i i' hi _ _ h := by rw [if_pos hi] at h; cases h
  new i j hi h := by rw [if_neg Z4] at h; cases h
  inj i i' j h h' := by
    split at h
    · split at h'
      · rw [Option.some.inj h, Option.some.inj h']
      · cases h'
    · cases h
  obj i j h := by
    split at h
    · rename_i hi
      obtain rfl := Option.some.inj h;rw [hsame i hi, hget i hi];have := hself i hi;cases hg : s0.get i with
      | none => trivial
      | some o =>
        rw [hg] at this;have hR : ∀ i sp j, idR k i sp j → Ways k (fun i => i) (fun i => if i < k then some i else none) (fun _ _ => False) i sp j := Z1u
        have ents : ∀ {a b : List MapEntry}, EntsS (idR k) a b → EntsS (Ways k (fun i => i) (fun i => if i < k then some i else none) (fun _ _ => False)) a b := by
          intro a b h;induction h with
          | nil => exact .nil
          | cons h _ ih => exact .cons (h.mono hR) ih
        have this : OSub (idR k) o o := this;show OSub _ o o;cases this with
        | cells h => exact .cells (h.mono hR)
        | arr h => exact .arr (h.mono hR)
        | map h => exact .map (ents h)
        | iterNil => exact .iterNil
        | iter h => exact .iter (hR _ _ _ h)
        | siter => exact .siter
    · cases h
  rest j hj h := rfl
  n := Nat.le_refl _
  wf := hsw
  grow := .refl _
end
end Go.Ai
/-
  More rules for runs: chunks, bits in slots, drawn regions, appends to what is fresh.
-/
namespace Go.Ai
section
variable {C : Cfg} {fid : FuncId} {e : Env} {s : St}
def drawLog (C : Cfg) (ops : Array Oper) (i : Nat) (o : Oper) (L : Log) (e : Env) (s : St) (v : Value) (s' : St) : Option Log :=
 match Z2l C o.op with
 | 0 | 1 => some L
 | 2 => if L.effects.all fun x => ((Region.before ops).getD i 0).testBit x.1 || sameAgain C o.op e x.2.1 v then some { L with reads := (i, o.op, e, v) :: L.reads } else none
 | _ => if (L.effects.all fun x => ((Region.before ops).getD i 0).testBit x.1) && (L.reads.all fun x => ((Region.before ops).getD i 0).testBit x.1 || sameAgain C x.2.1 x.2.2.1 s' x.2.2.2) then
  some { L with effects := (i, s, s') :: L.effects } else none
theorem draw_one {rc : Rec} {ops : Array Oper} {i : Nat} {o : Oper} {l : List Oper} {L L' : Log} {v : Value} {s' : St} (hw : Region.wanted o (Z2p ops e) = true) (ho : oneOp C rc e s o.op = .ret (v, s')) (hl : drawLog C ops i o L e s v s' = some L') :
  execDraw C rc ops (Region.before ops) i (o :: l) L e s = execDraw C rc ops (Region.before ops) (i + 1) l L' (e.dst o.dst v) s' := by
 conv => lhs; unfold execDraw
 rw [if_pos hw, ho];unfold drawLog at hl;simp only;split at hl
 ·rename_i h; obtain rfl := Option.some.inj hl; rw [h]; rfl
 ·rename_i h; obtain rfl := Option.some.inj hl; rw [h]; rfl
 ·rename_i h;split at hl
  ·rename_i hc; obtain rfl := Option.some.inj hl; rw [h]; simp only; rw [if_pos hc]
  ·cases hl
 ·rename_i h0 h1 h2;split at hl
  ·rename_i hc;obtain rfl := Option.some.inj hl;split
   ·rename_i h; exact absurd h h0
   ·rename_i h; exact absurd h h1
   ·rename_i h; exact absurd h h2
   ·rw [if_pos hc]
  ·cases hl
theorem draw_skip {rc : Rec} {ops : Array Oper} {i : Nat} {o : Oper} {l : List Oper} {L : Log} (hw : Region.wanted o (Z2p ops e) = false) :
  execDraw C rc ops (Region.before ops) i (o :: l) L e s = execDraw C rc ops (Region.before ops) (i + 1) l L (e.dst o.dst undef) s := by
 conv => lhs; unfold execDraw
 rw [if_neg (by rw [hw]; exact Bool.false_ne_true)]
def drawRun (C : Cfg) (rc : Rec) (ops : Array Oper) : Nat → List Oper → Log → Env → St → Option (Log × Env × St)
  | _, [], L, e, s => some (L, e, s)
  | i, o :: rest, L, e, s =>
    if Region.wanted o (Z2p ops e) then
      match oneOp C rc e s o.op with
      | .ret (v, s') =>
        match drawLog C ops i o L e s v s' with
        | some L' => drawRun C rc ops (i + 1) rest L' (e.dst o.dst v) s'
        | none => none
      | _ => none
    else drawRun C rc ops (i + 1) rest L (e.dst o.dst undef) s
theorem drawRun_eq {rc : Rec} {ops : Array Oper} : ∀ (l m : List Oper) (i : Nat) (L : Log) (e : Env) (s : St) (x : Log × Env × St), drawRun C rc ops i l L e s = some x →
    execDraw C rc ops (Region.before ops) i (l ++ m) L e s = execDraw C rc ops (Region.before ops) (i + l.length) m x.1 x.2.1 x.2.2
  | [], m, i, L, e, s, x, h => Z1l
  | o :: l, m, i, L, e, s, x, h => by
    unfold drawRun at h;split at h
    · rename_i hw
      split at h
      · rename_i v s' ho
        split at h
        · rename_i L' hl
          rw [List.cons_append, draw_one hw ho hl, drawRun_eq l m _ _ _ _ x h, List.length_cons];congr 1; omega
        · cases h
      · cases h
    · rename_i hw
      rw [List.cons_append, draw_skip (by simpa using hw), drawRun_eq l m _ _ _ _ x h, List.length_cons];congr 1; omega
def drL (x : Option (Log × Env × St)) : Log := match x with | some y => y.1 | none => ⟨[], []⟩
def drE (x : Option (Log × Env × St)) : Env := match x with | some y => y.2.1 | none => ⟨0, .e⟩
def drS (x : Option (Log × Env × St)) : St := match x with | some y => y.2.2 | none => ⟨.e, 0⟩
theorem dr_some {x : Option (Log × Env × St)} (h : x.isSome = true) : x = some (drL x, drE x, drS x) := by
 cases x with
 | none => cases h
 | some y => rfl
theorem MLe.ret_eq {α : Type} {a : α} {m : M α} (h : MLe (.ret a) m) : m = .ret a := Z1l
mutual
theorem veq_refl : ∀ v : Value, veq v v = true
 | .bool _ => by simp [veq]
 | .int _ _ => by simp [veq]
 | .float _ _ => by simp [veq]
 | .complex _ _ _ => by simp [veq]
 | .string _ => by simp [veq]
 | .pointer _ => by simp [veq]
 | .slice _ _ _ => by simp [veq]
 | .map _ => by simp [veq]
 | .chan _ => by simp [veq]
 | .func _ a c => by simp [veq, veqA_refl a, veqA_refl c]
 | .nilFunc => by simp [veq]
 | .iface _ x => by simp [veq, veq_refl x]
 | .nilIface => by simp [veq]
 | .agg a => by simp [veq, veqA_refl a]
 | .tuple a => by simp [veq, veqA_refl a]
theorem veqA_refl : ∀ a : Array Value, veqA a a = true
 | ⟨l⟩ => by simp [veqA, veqL_refl l]
theorem veqL_refl : ∀ l : List Value, veqL l l = true
 | [] => by simp [veqL]
 | v :: l => by simp [veqL, veq_refl v, veqL_refl l]
end
theorem sameAgain_of {o : Op} {v : Value} {s' : St} (h : Z2m C e.eval s o = some (v, s')) : sameAgain C o e s v = true := by
 unfold sameAgain;rw [h];exact veq_refl v
def appTy (C : Cfg) (t : TypeId) (sz bytes : Nat) : Bool :=
  match C.ty t with
  | some { desc := .slice elem, .. } =>
    match C.ty elem with
    | some { size := sz', bytes := b', zero := some z, .. } => Nat.beq sz' sz && Nat.beq b' bytes && Nat.beq sz z.cells.size && Nat.blt 0 sz && Nat.blt 0 bytes
    | _ => false
  | _ => false
theorem setF_same {α : Type} : ∀ (f : Nat) (t : T α) (k : Nat) (x : α), k < f → t.get k = some x → T.setF f t k x = t
  | 0, _, k, _, h, _ => absurd h (Nat.not_lt_zero k)
  | f + 1, .e, k, x, h, hg => by cases hg
  | f + 1, .n l v r, k, x, h, hg => by
    unfold T.setF;unfold T.get at hg;cases h0 : Nat.beq k 0 with
    | true =>
      simp only [h0, cond_true] at hg ⊢;rw [← hg]; rfl
    | false =>
      have hk : k ≠ 0 := by rintro rfl; cases h0
      simp only [h0, cond_false] at hg ⊢;cases h1 : Nat.beq (k % 2) 1 with
      | true =>
        simp only [h1, cond_true] at hg ⊢;show T.n (T.setF f l (k / 2) x) v r = T.n l v r;rw [setF_same f l (k / 2) x Z4 hg]
      | false =>
        simp only [h1, cond_false] at hg ⊢;show T.n l v (T.setF f r (k / 2 - 1) x) = T.n l v r;rw [setF_same f r (k / 2 - 1) x Z4 hg]
theorem St.set_same {s : St} {i : Nat} {o : AObj} (h : s.get i = some o) : s.set i o = s := by
  cases s with
  | mk hh n =>
    show St.mk (hh.set i o) n = St.mk hh n;rw [show hh.set i o = hh from setF_same _ _ _ _ (Nat.lt_succ_self i) h]
def getV : Option (Value × St) → Value
 | some x => x.1
 | none => undef
def getS : Option (Value × St) → St
 | some x => x.2
 | none => ⟨.e, 0⟩
theorem op_some {x : Option (Value × St)} (h : x.isSome = true) : x = some (getV x, getS x) := by
 cases x with
 | none => cases h
 | some y => rfl
theorem read_again {o : Op} {ev : Env} {s' : St} {v : Value} (h : (Z2m C ev.eval s' o).isSome = true) (hv : getV (Z2m C ev.eval s' o) = v) : ∃ s'', Z2m C ev.eval s' o = some (v, s'') := ⟨_, by rw [← hv]; exact op_some h⟩
theorem append_more {t : TypeId} {sz bytes : Nat} (ht : appTy C t sz bytes = true) {id len n hi : Nat} {y : Value} {cs news : List Value} (hg : s.get id = some (.arr cs 0 false)) (hhi : hi = cs.length) (hcs : len * sz = cs.length) (hl : lenV C y = some n) (hf : firstV C s sz n y = some news)
  (ho : news.all one = true) (hb : (len + n) * bytes ≤ 140737488355328) (hn : n = 0 → news = []) :
  appendV C s t (.slice (some ⟨id, 0, some hi⟩) len sz) y = some (.slice (some ⟨id, 0, some (hi + n * sz)⟩) (len + n) sz, s.set id (.arr (cs ++ news) 0 false)) := by
 subst hhi;unfold appTy at ht;split at ht
 ·rename_i elem _ _ _ _ _ hty;split at ht
  ·rename_i sz' b' z _ _ het;simp only [Bool.and_eq_true, Nat.blt_eq] at ht;obtain ⟨⟨⟨⟨e1, e2⟩, h1⟩, h2⟩, h3⟩ := ht;have e1 := Nat.eq_of_beq_eq_true e1;have e2 := Nat.eq_of_beq_eq_true e2;have h1 := Nat.eq_of_beq_eq_true h1;subst e1; subst e2;unfold appendV;rw [hty];simp only [het];rw [if_pos ⟨h1, h2, h3⟩, hl];simp only;rw [hf];simp only [if_true];by_cases hn0 : n = 0
   ·subst hn0;rw [hn rfl, List.append_nil, St.set_same hg];simp
   ·rw [if_neg hn0, if_pos ⟨hb, ho⟩, hg];simp only;rw [if_pos ⟨Nat.zero_le _, Nat.le_refl _, Z4⟩, if_pos Z4]
  ·cases ht
 ·cases ht
def slTy (C : Cfg) (t : TypeId) (sz : Nat) : Bool :=
  match C.ty t with
  | some { desc := .slice elem, .. } =>
    match C.ty elem with
    | some et => Nat.beq et.size sz
    | none => false
  | _ => false
end
end Go.Ai
/-
  A closed call that comes to 'true' as a contract; the way from a contract to a law's statement.
-/
namespace Go.Ai
section
variable {P : Program} {C : Cfg} {G : Nat}
theorem calls_scG {f : FuncId} {args : List Value} {args' : Array Value} {s : St} {β : Bij} {w : World} (hs : SR (okK G) β own00 s.get w) (hG : Glob β G) (hw : s.WF) (hd : Shut β s) (ha : VRs β args args'.toList)
  (h : SC P G f args s fun v _ => v = .bool true) : Calls P f args' w fun e w' => e = .returned (.bool true) ∧ RowKit.Below w.heap.size w w' := by
 intro cs;obtain ⟨v, s', β', own', w', v', rfl, _, _, h2, h3, h4, _, h6⟩ := h hw β own00 w args' hs hG hd ha cs;obtain rfl := bool_inv h4;obtain ⟨fr, q1, q2, q3⟩ := h6;exact ⟨.returned (.bool true), w', fr, ⟨rfl, h2.os, h2.tape, h2.output, h2.size, fun k hk => (h2.cframe k hk fun i hi => by cases hi).2⟩, q1, q2, q3⟩
theorem sk_regionA (H : CfgOk P C (okK G)) {rc : Rec} (S : Sound P G rc) {fid id : Nat} {ops : Array Oper} {e : Env} {s : St} {Q : Out → Env → St → Prop}
 (h : (execOps C rc ops ops.toList e s).All fun x => Q .normal x.1 x.2) : SK P G fid (.region id ops false) e s Q := sk_exec H S (c_region h)
theorem sk_regionK (H : CfgOk P C (okK G)) {rc : Rec} (S : Sound P G rc) {fid id : Nat} {ops : Array Oper} {e : Env} {s : St} {Q : Out → Env → St → Prop}
  (h : isRet (execOps C rc ops ops.toList e s) = true) (hQ : Q .normal (getEnv (execOps C rc ops ops.toList e s)) (getSt (execOps C rc ops ops.toList e s))) : SK P G fid (.region id ops false) e s Q := by
 refine sk_regionA H S ?_;rw [isRet_eq h];exact hQ
theorem sk_true {fid : Nat} {q : Operand} {x y : Code} {e : Env} {s : St} {Q : Out → Env → St → Prop} (hv : e.eval q = .bool true) (h : SK P G fid x e s Q) : SK P G fid (.cond q x y) e s Q := sk_cond hv (fun _ => h) (fun h => Z02)
theorem sk_false {fid : Nat} {q : Operand} {x y : Code} {e : Env} {s : St} {Q : Out → Env → St → Prop} (hv : e.eval q = .bool false) (h : SK P G fid y e s Q) : SK P G fid (.cond q x y) e s Q := sk_cond hv (fun h => Z02) (fun _ => h)
structure AllL (C : Cfg) (rc : Rec) (ops : Array Oper) (l : List Oper) (e : Env) (s : St) (R : Env → St → Prop) : Prop where
 all : (execOps C rc ops l e s).All fun x => R x.1 x.2
theorem Z27 (H : CfgOk P C (okK G)) {rc : Rec} (S : Sound P G rc) {fid id : Nat} {ops : Array Oper} {e : Env} {s : St} {Q : Out → Env → St → Prop} (h : AllL C rc ops ops.toList e s (Q .normal)) : SK P G fid (.region id ops false) e s Q :=
 sk_regionA H S h.all
theorem al_known {rc : Rec} {ops : Array Oper} {l : List Oper} {e : Env} {s : St} {R : Env → St → Prop} (h : isRet (execOps C rc ops l e s) = true) (hR : R (getEnv (execOps C rc ops l e s)) (getSt (execOps C rc ops l e s))) : AllL C rc ops l e s R := ⟨ops_known h hR⟩
theorem al_chunk (k : Nat) {rc : Rec} {ops : Array Oper} {l : List Oper} {e : Env} {s : St} {R : Env → St → Prop} (h : isRet (execOps C rc ops (l.take k) e s) = true)
 (hR : AllL C rc ops (l.drop k) (getEnv (execOps C rc ops (l.take k) e s)) (getSt (execOps C rc ops (l.take k) e s)) R) : AllL C rc ops l e s R := ⟨ops_chunk k h hR.all⟩
theorem Z2f {rc : Rec} {ops : Array Oper} {e : Env} {s : St} {R : Env → St → Prop} (h : R e s) : AllL C rc ops [] e s R := ⟨h⟩
theorem sk_st {fid : FuncId} {c : Code} {e : Env} {s : St} {Q : Out → Env → St → Prop} (s1 : St) (h : s = s1) (hk : SK P G fid c e s1 Q) : SK P G fid c e s Q := h ▸ hk
end
end Go.Ai