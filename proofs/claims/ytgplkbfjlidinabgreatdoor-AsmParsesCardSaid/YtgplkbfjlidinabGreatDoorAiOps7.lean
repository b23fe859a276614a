/- The interpreter: what holds of it. -/
import Derived.Test.YtgplkbfjlidinabGreatDoorAiOps4
import Derived.Lib.Builder
import Derived.Test.YtgplkbfjlidinabGreatDoorKit
set_option linter.unusedVariables false
set_option linter.unusedSimpArgs false
set_option linter.unnecessarySimpa false
/-
  append, copy, strings and bytes.
-/
namespace Go.Ai
section
variable {P : Program} {C : Cfg} {K : Code → Prop} (H : CfgOk P C K) {β : Bij} {own : Nat → Option Nat} {s s' : St} {w : World}
theorem slice_ptr {a : Addr} {n sz : Nat} {v : Value} (h : VR β (.slice (some a) n sz) v) : (v = .slice none 0 0 ∧ n = 0 ∧ β.vir a.block ∧ a.spot.isSome = true ∧ 0 < sz) ∨ ∃ c cap, v = .slice (some c) n cap ∧ n ≤ cap ∧ (0 < n → VR β (.pointer (some a)) (.pointer (some c))) := by
  cases h with
  | sliceVir h hz => exact .inl ⟨rfl, rfl, h, rfl, hz⟩
  | sliceObj hb hz hc =>
    rcases hc with ⟨rfl, h1, _⟩ | ⟨rfl, rfl⟩
    · exact .inr ⟨_, _, rfl, h1, fun _ => .ptrObj hb⟩
    · exact .inr ⟨_, _, rfl, Nat.le_refl _, fun h => Z4⟩
  | sliceArr hL h1 h2 hz hs hc _ =>
    rcases hc with ⟨rfl, h3, _⟩ | ⟨rfl, rfl⟩
    · exact .inr ⟨_, _, rfl, h3, fun _ => .ptrArr hL h1⟩
    · exact .inr ⟨_, _, rfl, Nat.le_refl _, fun h => Z4⟩
include H in
theorem first_sim (hs : SR K β own s.get w) {sz n : Nat} {x x' : Value} {cs : List Value} (h : firstV C s sz n x = some cs) (hx : VR β x x') :
    ∃ cs' : Array Value, (Builtin.firstCells sz n x').run P w = .ok cs' w ∧ VRs β cs cs'.toList ∧ cs.length = n * sz := by
  unfold firstV at h
  split at h
  · split at h
    · rename_i hn
      subst hn
      obtain rfl := Option.some.inj h
      cases hx
      exact ⟨#[], by simp [Builtin.firstCells], .nil, by simp⟩
    · cases h
  · rename_i a len sz'
    split at h
    · rename_i hb
      obtain ⟨rfl, hn⟩ := hb
      rcases slice_ptr hx with ⟨rfl, rfl, _⟩ | ⟨c, cap, rfl, hc, hp⟩
      · obtain rfl : n = 0 := by omega
        rw [if_pos rfl] at h
        obtain rfl := Option.some.inj h
        exact ⟨#[], by simp [Builtin.firstCells], .nil, by simp⟩
      by_cases h0 : n = 0
      · subst h0
        have : cs = [] := by
          rw [if_pos rfl] at h
          exact (Option.some.inj h).symm
        subst this
        refine ⟨#[], ?_, .nil, by simp⟩
        simp [Builtin.firstCells, loadCells, loadCellsFrom]
      · rw [if_neg h0] at h
        obtain ⟨cs', hr, hl, hcell⟩ := cellsAt_sim hs h (hp (by omega))
        refine ⟨cs'.toArray, ?_, by simpa using hr, hl⟩
        have := run_firstCells_some (P := P) (w := w) sz' n c len cap cs' (hr.length.trans hl) hcell
        exact this
    · cases h
  · rename_i b
    split at h
    · rename_i hb
      obtain ⟨rfl, hn⟩ := hb
      obtain rfl := Option.some.inj h
      obtain rfl := string_inv hx
      refine ⟨(b.extract 0 n).data.map fun b => .int .u8 b.toNat, by simp [Builtin.firstCells], ?_, by simp; exact Nat.min_eq_left hn⟩
      have e : ((b.extract 0 n).data.map fun b => Value.int .u8 b.toNat).toList = (b.data.toList.take n).map fun x => Value.int .u8 x.toNat := by
        simp [ByteArray.extract, ByteArray.copySlice]
      rw [e]
      refine .of rfl fun j v v' hv hv' => ?_
      rw [hv] at hv'
      obtain rfl := Option.some.inj hv'
      simp only [List.getElem?_map, Option.map_eq_some_iff] at hv
      obtain ⟨_, _, rfl⟩ := hv
      exact .int _ _
    · cases h
  · rename_i c
    split at h
    · rename_i m sz' cs0 sp hd
      split at h
      · rename_i hb
        obtain ⟨rfl, hn⟩ := hb
        obtain rfl := Option.some.inj h
        have hi := tok_inv H hx hd
        have h0 : ∀ (a : Option Addr) (l cap : Nat), n = 0 → ∃ cs' : Array Value, (Builtin.firstCells sz' n (.slice a l cap)).run P w = .ok cs' w ∧ VRs β (cs0.take (n * sz')) cs'.toList ∧ (cs0.take (n * sz')).length = n * sz' := by
          rintro a l cap rfl
          rw [Nat.zero_mul, List.take_zero]
          refine ⟨#[], ?_, .nil, by simp⟩
          cases a <;> simp [Builtin.firstCells, loadCells, loadCellsFrom]
        cases hi with
        | none => exact h0 _ _ _ (by omega)
        | empty => exact h0 _ _ _ (by omega)
        | @slice _ _ cap b o _ _ hz hl hcap hc hI =>
          by_cases hn0 : n = 0
          · exact h0 _ _ _ hn0
          have hmul : n * sz' ≤ m * sz' := Nat.mul_le_mul_right _ hn
          obtain ⟨cs', hr, hl', hcell⟩ := ice_cells (cs := cs0.take (n * sz')) hs fun j v hj => by
            have hjl : j < n * sz' := by
              have := (List.getElem?_eq_some_iff.1 hj).1
              rw [List.length_take] at this; omega
            rw [List.getElem?_take_of_lt hjl] at hj
            exact hI _ _ (by rw [List.getElem?_append_left (List.getElem?_eq_some_iff.1 hj).1]; exact hj)
          have hlen : (cs0.take (n * sz')).length = n * sz' := by rw [List.length_take]; omega
          refine ⟨cs'.toArray, ?_, by simpa using hr, hlen⟩
          exact run_firstCells_some (P := P) (w := w) sz' n ⟨b, o, none⟩ m cap cs' (hl'.trans hlen) fun j v hj => by
            rw [addr_add, hcell j (by rw [← hl']; exact (List.getElem?_eq_some_iff.1 hj).1), hj]
      · cases h
    · cases h
  · cases h
include H in
theorem len_sim {x x' : Value} {n : Nat} (h : lenV C x = some n) (hx : VR β x x') : (Builtin.lenOf x').run P w = .ok n w := by
 unfold lenV at h
 split at h
 ·obtain rfl := Option.some.inj h
  cases hx <;> rfl
 ·obtain rfl := Option.some.inj h
  obtain rfl := string_inv hx; rfl
 ·split at h
  ·rename_i hd
   obtain rfl := Option.some.inj h
   have hi := tok_inv H hx hd
   cases hi <;> rfl
  ·cases h
 ·cases h
theorem drew_ext (hs : SR K β own s.get w) : Ext β own s w β own s w.drew ∧ SR K β own s.get w.drew :=
 ⟨⟨Bij.le_refl β, fun _ h => .inl h, Nat.le_refl _, fun _ _ _ => rfl, Nat.le_refl _, fun _ _ _ => ⟨rfl, rfl⟩, rfl, rfl, rfl, fun _ _ => ⟨rfl, rfl, rfl⟩, fun _ h => .inl h, DrLe.of (Nat.le_succ _)⟩, ⟨hs.obj, hs.arr, hs.loc, hs.blk, hs.one, hs.small, hs.vir, hs.ice.mono rfl (Nat.le_refl _) fun _ _ h => ⟨h, rfl⟩⟩⟩
theorem size_zeroCells' (z : Array Value) (n : Nat) : (Builtin.zeroCells z n).size = n * z.size := by simp [Builtin.zeroCells]
theorem grownCap_ge' (w : World) (need old : Nat) (e : TypeId) : need ≤ grownCap w need old e := by simp [grownCap, Question.cut]
theorem run_append_any {t ty u e : TypeId} {et : Ty} {z : Value} (ht : (underlying t).run P w = .ok (.slice e) w) (het : C.ty e = some et) (hz : et.zero = some z) (H : CfgOk P C K)
    {d : TypeDesc} (hu : (underlying u).run P w = .ok d w) (hd : ∀ k, d ≠ .int k) (hbp : 0 < et.bytes)
    {base : Option Addr} {sLen sCap n : Nat} {x : Value} (hlen : (Builtin.lenOf x).run P w = .ok n w) {news newsD olds : Array Value}
    (h0 : (Builtin.firstCells et.size n x).run P w = .ok news w) (h1 : (Builtin.firstCells et.size n x).run P w.drew = .ok newsD w.drew)
    (g1 : (Builtin.firstCells et.size sLen (.slice base sLen sCap)).run P w.drew = .ok olds w.drew) :
    (sLen + n ≤ sCap → (Builtin.append_ #[t, u] ty #[.slice base sLen sCap, x]).run P w = ((match base with | some a => storeCells (a.add (sLen * et.size)) news.toList | none => pure () : Sem Unit).run P w).andThen fun _ w' => .ok (.slice base (sLen + n) sCap) w') ∧
    (sCap < sLen + n → (sLen + n) * et.bytes ≤ 140737488355328 → (Builtin.append_ #[t, u] ty #[.slice base sLen sCap, x]).run P w =
      .ok (.slice (some ⟨w.heap.size, 0, none⟩) (sLen + n) (grownCap w (sLen + n) sCap e)) (w.drew.alloc (.cells (olds ++ newsD ++ Builtin.zeroCells z.cells (grownCap w (sLen + n) sCap e - (sLen + n))) e))) := by
  obtain ⟨i, hi, _, _, hby, _⟩ := run_info (P := P) (w := w) H het;obtain ⟨i2, hi2, _, _, hby2, _⟩ := run_info (P := P) (w := w.drew) H het;constructor
  · intro hroom
    unfold Builtin.append_;simp only [List.getElem?_toArray, List.getElem?_cons_zero, List.getElem?_cons_succ, Sem.run_bind, ht, Result.andThen_ok, run_size H het, hu, Sem.run_pure];cases d with
    | int k => exact absurd rfl (hd k)
    | _ =>
      simp only [Bool.false_eq_true, if_false, Sem.run_bind, hlen, Result.andThen_ok];rw [if_pos hroom];simp only [Bool.not_false, if_true, Sem.run_bind, h0, Result.andThen_ok];cases base <;> simp
  · intro hgrow hbytes
    have h63 : ¬ (((sLen + n : Nat) : Int) > IntKind.i64.max ∧ (false = true ∨ et.bytes = 0)) := by
      rintro ⟨_, h | h⟩
      · cases h
      · omega
    have h48 : ¬ (Builtin.nextslicecap (sLen + n) sCap * et.bytes > 2 ^ 48) := by
      have := growslice_fits hgrow hbytes;have e : (2 : Nat) ^ 48 = 281474976710656 := rfl;rw [e]; omega
    unfold Builtin.append_;simp only [List.getElem?_toArray, List.getElem?_cons_zero, List.getElem?_cons_succ, Sem.run_bind, ht, Result.andThen_ok, run_size H het, hu, Sem.run_pure];cases d with
    | int k => exact absurd rfl (hd k)
    | _ =>
      simp only [Bool.false_eq_true, if_false, Sem.run_bind, hlen, Result.andThen_ok];rw [if_neg Z4];simp only [Sem.run_bind, hi, Result.andThen_ok, hby];rw [if_neg (by rintro ⟨_, h | h⟩; exact absurd h Z0u; omega)];simp only [Sem.run_bind, hi, Result.andThen_ok, hby];rw [if_neg h48];simp only [Sem.run_bind, run_choose, Question.forced, Bool.false_eq_true, if_false, Result.andThen_ok, World.drew_eq, hi2, run_askRoom, g1, Bool.not_false, if_true, h1, run_zero H het hz, newRow, run_newObj, Sem.run_pure, World.alloc_eq];simp [grownCap]
theorem SliceC.le {c a : Addr} {n cap sz m : Nat} (h : SliceC c a n cap sz m) : n ≤ cap := by
 rcases h with ⟨_, h, _⟩ | ⟨rfl, rfl⟩
 ·exact h
 ·exact Nat.le_refl _
theorem grow_here (hs : SR K β own s.get w) (hw : s.WF) {i : Nat} {cs news news' : List Value} {mv : Nat} {L : ArrLoc} (hg : s.get i = some (.arr cs mv false)) (hL : β.arr i cs.length = some L) (hmv : mv ≤ cs.length)
  (hv : VRs β news news') (h1 : news.all one = true) (hpos : 0 < news.length) (hfit : L.base + (cs.length - L.lo) + news.length ≤ L.size) :
  ∃ w', (storeCells ⟨L.block, L.base + (cs.length - L.lo), none⟩ news').run P w = .ok () w' ∧
   Ext β own s w (β.setArr i (cs.length + news.length) L) own (s.set i (.arr (cs ++ news) mv false)) w' ∧ SR K (β.setArr i (cs.length + news.length) L) own (s.set i (.arr (cs ++ news) mv false)).get w' := by
 obtain ⟨_, gv⟩ := hs.arr _ _ _ hL _ _ _ hg;obtain ⟨⟨g1, g2, c, t, fr, e, hfr, hcs, g4⟩, gs, go⟩ := gv hmv;simp only [Bool.false_eq_true, if_false] at go;have hlt := hw.lt hg;have hnl := hv.length;obtain ⟨cur', r1, r2⟩ := run_storeCells_loose (P := P) L.block (L.base + (cs.length - L.lo)) t fr news' 0 c w e (hfr rfl) Z4 (all_one hv h1);rw [Nat.add_zero] at r2;have hcl : L.base + (cs.length - L.lo) + news'.length ≤ c.toList.length := Z0d
 have hcur : cur'.size = c.size := by
  have : cur'.toList.length = c.toList.length := by rw [r2]; exact length_splice _ _ _ hcl
  simpa using this
 have hat : ∀ k, cur'[k]? = (splice c.toList (L.base + (cs.length - L.lo)) news')[k]? := fun k => by rw [← r2, Array.getElem?_toList]
 have hnone : β.arr i (cs.length + news.length) = none := by
  cases h : β.arr i (cs.length + news.length) with
  | none => rfl
  | some M => have := (hs.arr _ _ _ h _ _ _ hg).1; omega
 have hle : β.le (β.setArr i (cs.length + news.length) L) := Bij.le_setArr (.inl hnone);refine ⟨_, r1, ?_⟩;refine change hs (fun j => j = i) Z11 (Nat.le_refl _) hle (fun _ _ => rfl) (fun j hj => by funext k; simp [Bij.setArr, hj])
  (fun j hj => Z23) Z0u (fun b hb hno => ⟨rfl, setRow_other w L.block b cur' Z1x⟩) ?_ ?_ ?_ ?_ ?_ (fun b j hb => by simpa using hs.small b j hb) rfl rfl rfl
 ·rintro j rfl b hb;exact absurd ⟨_, L, hL⟩ (hs.one j ⟨b, hb⟩)
 ·rintro j rfl hi2 L2 hL2 cs2 mv2 ro2 hc2;rw [St.get_set, if_pos rfl] at hc2;obtain ⟨rfl, rfl, rfl⟩ := by simpa using hc2
  simp only [Bij.setArr] at hL2;split at hL2
  ·rename_i e2;obtain ⟨_, rfl⟩ := e2;obtain rfl := Option.some.inj hL2;refine ⟨Z0u, fun _ => ⟨⟨Z4, Z4, cur', t, fr, setRow_heap w L.block c cur' t fr e, fun _ => by rw [hcur]; exact hfr rfl, hcur.trans hcs, fun k hk1 hk2 => ?_⟩, by simpa using gs, by simpa using go⟩⟩;rw [hat, splice_get _ _ _ hcl];by_cases hk : k < cs.length
   ·obtain ⟨v, v', p1, p2, p3⟩ := g4 k hk1 hk;exact ⟨v, v', by rw [List.getElem?_append_left hk]; exact p1, by rw [if_neg Z4]; simpa using p2, p3.mono hle⟩
   ·obtain ⟨x, hx⟩ : ∃ x, news[k - cs.length]? = some x := ⟨news[k - cs.length]' Z4, by rw [List.getElem?_eq_getElem]⟩;obtain ⟨x', hx', hxr⟩ := hv.get hx;exact ⟨x, x', by rw [List.getElem?_append_right Z4]; exact hx, by rw [if_pos Z4, show L.base + (k - L.lo) - (L.base + (cs.length - L.lo)) = k - cs.length from Z4]; exact hx', hxr.mono hle⟩
  ·have h0 := (hs.arr _ _ _ hL2 _ _ _ hg).1;refine ⟨Z0d, fun hv2 => ?_⟩;obtain ⟨⟨q1, q2, c2, t2, fr2, q3, q4, q5, q6⟩, q7, q8⟩ := (hs.arr _ _ _ hL2 _ _ _ hg).2 hv2;by_cases hb : L2.block = L.block
   ·have := hs.loc _ _ _ _ _ hL2 hL hb;subst this;refine ⟨⟨q1, q2, cur', t, fr, setRow_heap w _ c cur' t fr e, fun _ => by rw [hcur]; exact hfr rfl, hcur.trans hcs, fun k hk1 hk2 => ?_⟩, by simpa using gs, by simpa using go⟩;obtain ⟨v, v', p1, p2, p3⟩ := g4 k hk1 Z4;rw [hat, splice_get _ _ _ hcl];exact ⟨v, v', Z18, by rw [if_neg Z4]; simpa using p2, p3.mono hle⟩
   ·refine ⟨⟨q1, q2, c2, t2, fr2, by rw [setRow_other w _ _ _ hb]; exact q3, q4, q5, fun k hk1 hk2 => ?_⟩, by simpa using q7, q8⟩;obtain ⟨v, v', p1, p2, p3⟩ := q6 k hk1 hk2;exact ⟨v, v', Z18, p2, p3.mono hle⟩
 ·rintro j rfl hi2 hi3 L2 L3 e2 e3 hb;simp only [Bij.setArr] at e2 e3;split at e2
  ·obtain rfl := Option.some.inj e2;split at e3
   ·exact Option.some.inj e3
   ·exact hs.loc _ _ _ _ _ hL e3 hb
  ·split at e3
   ·obtain rfl := Option.some.inj e3;exact hs.loc _ _ _ _ _ e2 hL hb
   ·exact hs.loc _ _ _ _ _ e2 e3 hb
 ·rintro j rfl hi2 L2 e2;simp only [Bij.setArr] at e2;split at e2
  ·obtain rfl := Option.some.inj e2; simpa using gs
  ·simpa using hs.blk _ _ _ e2
 ·rintro j rfl ⟨b, hb⟩;exact absurd ⟨_, L, hL⟩ (hs.one j ⟨b, hb⟩)
theorem grow_there (hs : SR K β own s.get w) (hw : s.WF) {i o : Nat} {cs news : List Value} {mv : Nat} (hg : s.get i = some (.arr cs mv false)) (hd : β.dom i) (hnob : ∀ b, β.obj i ≠ some b) (ho : o ≤ cs.length)
  (hpos : 0 < news.length) {c : Array Value} {t : TypeId} (hsz : cs.length - o + news.length ≤ c.size)
  (hc : ∀ j, o ≤ j → j < cs.length + news.length → ∃ v v', (cs ++ news)[j]? = some v ∧ c[j - o]? = some v' ∧ VR β v v') :
  Ext β own s w (β.setArr i (cs.length + news.length) ⟨w.heap.size, o, 0, c.size⟩) (upd own w.heap.size (some i)) (s.set i (.arr (cs ++ news) mv false)) (w.alloc (.cells c t)) ∧
   SR K (β.setArr i (cs.length + news.length) ⟨w.heap.size, o, 0, c.size⟩) (upd own w.heap.size (some i)) (s.set i (.arr (cs ++ news) mv false)).get (w.alloc (.cells c t)) := by
 have hlt := hw.lt hg;have hnone : β.arr i (cs.length + news.length) = none := by
  cases h : β.arr i (cs.length + news.length) with
  | none => rfl
  | some M => have := (hs.arr _ _ _ h _ _ _ hg).1; omega
 have hle : β.le (β.setArr i (cs.length + news.length) ⟨w.heap.size, o, 0, c.size⟩) := Bij.le_setArr (.inl hnone);refine change hs (fun j => j = i) (by rintro j rfl; exact ⟨hlt, fun _ => hd⟩) (Nat.le_refl _) hle (fun _ _ => rfl) (fun j hj => by funext k; simp [Bij.setArr, hj])
  (fun j hj => Z23) Z0u (fun b hb hno => ⟨by simp [upd]; omega, heap_alloc_old w _ b hb⟩) ?_ ?_ ?_ ?_ ?_ ?_ rfl rfl rfl
 ·rintro j rfl b hb;exact absurd hb (hnob b)
 ·rintro j rfl hi2 L2 hL2 cs2 mv2 ro2 hc2;rw [St.get_set, if_pos rfl] at hc2;obtain ⟨rfl, rfl, rfl⟩ := by simpa using hc2
  simp only [Bij.setArr] at hL2;split at hL2
  ·rename_i e2;obtain ⟨_, rfl⟩ := e2;obtain rfl := Option.some.inj hL2;refine ⟨Z0u, fun _ => ⟨⟨Z0d, Z0d, c, t, (0, 0), heap_alloc_new w _, fun _ => .inl rfl, rfl, fun k hk1 hk2 => ?_⟩, Z0u, by simp [upd]⟩⟩;obtain ⟨v, v', p1, p2, p3⟩ := hc k hk1 hk2;exact ⟨v, v', p1, by simpa using p2, p3.mono hle⟩
  ·have h0 := (hs.arr _ _ _ hL2 _ _ _ hg).1;refine ⟨Z0d, fun hv2 => ?_⟩;obtain ⟨⟨q1, q2, c2, t2, fr2, q3, q4, q5, q6⟩, q7, q8⟩ := (hs.arr _ _ _ hL2 _ _ _ hg).2 hv2;refine ⟨⟨q1, q2, c2, t2, fr2, by rw [heap_alloc_old w _ _ q7]; exact q3, q4, q5, fun k hk1 hk2 => ?_⟩, Z0d, ?_⟩
   ·obtain ⟨v, v', p1, p2, p3⟩ := q6 k hk1 hk2;exact ⟨v, v', Z18, p2, p3.mono hle⟩
   ·simp only [upd]; rw [if_neg Z4]; exact q8
 ·rintro j rfl hi2 hi3 L2 L3 e2 e3 hb;simp only [Bij.setArr] at e2 e3;split at e2
  ·obtain rfl := Option.some.inj e2;split at e3
   ·exact Option.some.inj e3
   ·have := hs.blk _ _ _ e3; simp at hb; omega
  ·split at e3
   ·obtain rfl := Option.some.inj e3;have := hs.blk _ _ _ e2; simp at hb; omega
   ·exact hs.loc _ _ _ _ _ e2 e3 hb
 ·rintro j rfl hi2 L2 e2;simp only [Bij.setArr] at e2;split at e2
  ·obtain rfl := Option.some.inj e2; simp
  ·have := hs.blk _ _ _ e2; simp; omega
 ·rintro j rfl ⟨b, hb⟩;exact absurd hb (hnob b)
 ·intro b j hb;simp only [upd] at hb;split at hb
  ·rename_i e; subst e; simp
  ·have := hs.small b j hb; simp; omega
theorem fork_row (hs : SR K β own s.get w) (hw : s.WF) (hf : Free β s s') (hn : s.n < s'.n) {i : Nat} {cs : List Value} {mv : Nat} (hg : s.get i = some (.arr cs mv false)) (hd : β.dom i) (hnob : ∀ b, β.obj i ≠ some b)
  {L : ArrLoc} {own' : Nat → Option Nat} {w' : World} {new : List Value} (hR : ArrR β L new new.length false w'.heap[L.block]?) (hsz : w.heap.size ≤ w'.heap.size) (hLb : L.block < w'.heap.size)
  (hown : own' = upd own L.block (some s.n)) (hOld : L.block < w.heap.size → own L.block = some i) (hoth : ∀ b, b < w.heap.size → b ≠ L.block → w'.heap[b]? = w.heap[b]?)
  (e1 : w'.os = w.os) (e2 : w'.tape = w.tape) (e3 : w'.output = w.output) (e4 : DrLe w.drawn w'.drawn := by first | exact DrLe.refl _ | assumption) :
  Ext β own s w (β.setArr s.n new.length L) own' ((s.set i .dead).new (.arr new 0 false)) w' ∧ SR K (β.setArr s.n new.length L) own' ((s.set i .dead).new (.arr new 0 false)).get w' := by
 subst hown;have hlt := hw.lt hg;have h1 := hf.obj hn;have h2 := hf.arr hn;have hle : β.le (β.setArr s.n new.length L) := Bij.le_setArr (.inl (h2 _));have hget : ∀ j, ((s.set i .dead).new (.arr new 0 false)).get j = if j = s.n then some (.arr new 0 false) else if j = i then some .dead else s.get j := by
  intro j; rw [St.get_new, St.n_set, St.get_set]
 refine change hs (fun j => j = i ∨ j = s.n) ?_ Z1y hle (fun _ _ => rfl) (fun j hj => by funext k; simp [Bij.setArr]; intro h; exact absurd (.inr h) hj)
  (fun j hj => by rw [hget, if_neg (fun h => hj (.inr h)), if_neg (fun h => hj (.inl h))]) hsz (fun b hb hno => ?_) ?_ ?_ ?_ ?_ ?_ ?_ e1 e2 e3
 ·rintro j (rfl | rfl)
  ·exact ⟨Z1y, fun _ => hd⟩
  ·exact ⟨Z1y, fun h => Z4⟩
 ·have : b ≠ L.block := by
   rintro rfl;exact hno i (hOld hb) (.inl rfl)
  exact ⟨by simp [upd, this], hoth b hb this⟩
 ·rintro j (rfl | rfl) b hb
  ·exact absurd hb (hnob b)
  ·exfalso;have : β.obj s.n = some b := hb;rw [h1] at this; cases this
 ·rintro j (rfl | rfl) hi2 L2 hL2 cs2 mv2 ro2 hc2
  ·rw [hget, if_neg Z4, if_pos rfl] at hc2;cases hc2
  ·rw [hget, if_pos rfl] at hc2;obtain ⟨rfl, rfl, rfl⟩ := by simpa using hc2
   simp only [Bij.setArr] at hL2;split at hL2
   ·rename_i e;obtain ⟨_, rfl⟩ := e;obtain rfl := Option.some.inj hL2;exact ⟨Nat.le_refl _, fun _ => ⟨hR.mono hle, hLb, by simp [upd]⟩⟩
   ·rw [h2] at hL2; cases hL2
 ·rintro j (rfl | rfl) hi2 hi3 L2 L3 q2 q3 hb
  ·simp only [Bij.setArr] at q2 q3;rw [if_neg Z4] at q2 q3;exact hs.loc _ _ _ _ _ q2 q3 hb
  ·simp only [Bij.setArr] at q2 q3;split at q2
   ·split at q3
    ·rw [q2] at q3; exact Option.some.inj q3
    ·rw [h2] at q3; cases q3
   ·rw [h2] at q2; cases q2
 ·rintro j (rfl | rfl) hi2 L2 q2
  ·simp only [Bij.setArr] at q2;rw [if_neg Z4] at q2;exact Nat.lt_of_lt_of_le (hs.blk _ _ _ q2) hsz
  ·simp only [Bij.setArr] at q2;split at q2
   ·obtain rfl := Option.some.inj q2; exact hLb
   ·rw [h2] at q2; cases q2
 ·rintro j (rfl | rfl) ⟨b, hb⟩
  ·exact absurd hb (hnob b)
  ·exfalso;have : β.obj s.n = some b := hb;rw [h1] at this; cases this
 ·intro b j hb;simp only [upd] at hb;split at hb
  ·rename_i e; subst e; exact hLb
  ·exact Nat.lt_of_lt_of_le (hs.small b j hb) hsz
end
end Go.Ai
/-
  append, copy, strings and bytes: as operations.
-/
namespace Go.Ai
section
variable {P : Program} {C : Cfg} {K : Code → Prop} (H : CfgOk P C K) {β : Bij} {own : Nat → Option Nat} {s s' : St} {w : World}
include H in
theorem append_none (hs : SR K β own s.get w) (hw : s.WF) (hf : Free β s s') {t u ty elem : TypeId} {x' v r : Value} {base : Option Addr} {n : Nat} {news : List Value} {uty : Ty} (hu : C.ty u = some uty) (hud : ∀ k, uty.desc ≠ .int k)
  {desc : TypeDesc} {sz bytes : Nat} {z : Value} {meth : Array Method} {cmp : Bool} (hty : (underlying t).run P w = .ok (.slice elem) w) (het : C.ty elem = some ⟨desc, sz, bytes, some z, meth, cmp⟩) (b1 : sz = z.cells.size) (b2 : 0 < sz) (b3 : 0 < bytes)
  (hlen : (Builtin.lenOf x').run P w = .ok n w) {news' newsD : Array Value} (hnr : (Builtin.firstCells sz n x').run P w = .ok news' w) (hnv : VRs β news news'.toList) (hnl : news.length = n * sz) (hnrD : (Builtin.firstCells sz n x').run P w.drew = .ok newsD w.drew) (hnvD : VRs β news newsD.toList)
  (hkeep : VR β v (.slice base 0 0)) (hv : (if n = 0 then some (v, s) else if n * bytes ≤ 140737488355328 ∧ news.all one = true then some (.slice (some ⟨s.n, 0, some (n * sz)⟩) n sz, s.new (.arr news 0 false)) else none) = some (r, s')) :
  SimV P K β own s w (Builtin.append_ #[t, u] ty #[.slice base 0 0, x']) r s' ∧ s'.WF := by
 obtain ⟨hdx, hsd⟩ := drew_ext hs
 have hnl' : news'.size = n * sz := by have := hnv.length; simp at this; omega
 have hnlD : newsD.size = n * sz := by have := hnvD.length; simp at this; omega
 have R := run_append_any (P := P) (ty := ty) hty het rfl H (run_under H hu) hud b3 (base := base) (sLen := 0) (sCap := 0) hlen hnr hnrD (olds := #[]) (by cases base <;> simp [Builtin.firstCells, loadCells, loadCellsFrom])
 split at hv
 ·rename_i h0
  subst h0
  obtain ⟨rfl, rfl⟩ := Prod.mk.inj (Option.some.inj hv)
  have hnn : news'.toList = [] := by
   have := hnl'
   simp at this; simpa using this
  refine ⟨⟨β, own, w, .slice base 0 0, ?_, .refl .., hs, hkeep⟩, hw⟩
  rw [R.1 (Nat.le_refl _)]
  cases base <;> simp [hnn, storeCells]
 ·rename_i h0
  split at hv
  ·rename_i hby
   obtain ⟨hby, hone⟩ := hby
   obtain ⟨rfl, rfl⟩ := Prod.mk.inj (Option.some.inj hv)
   have R2 := R.2 (by omega) (by rw [Nat.zero_add]; exact hby)
   have hge := grownCap_ge' w (0 + n) 0 elem
   have hcs : (#[] ++ newsD ++ Builtin.zeroCells z.cells (grownCap w (0 + n) 0 elem - (0 + n)) : Array Value).size = grownCap w (0 + n) 0 elem * sz := by
    simp only [Array.size_append, size_zeroCells', hnlD, ← b1]
    rw [Nat.sub_mul]
    have : (0 + n) * sz ≤ grownCap w (0 + n) 0 elem * sz := Nat.mul_le_mul_right _ hge
    simp at this ⊢; omega
   obtain ⟨x1, x2⟩ := new_arr hsd hf news (#[] ++ newsD ++ Builtin.zeroCells z.cells (grownCap w (0 + n) 0 elem - (0 + n))) elem (0, 0) (by rw [St.n_new]; omega) (.inl rfl)
    (by simp; omega) (fun j v hj => by
     obtain ⟨v', q1, q2⟩ := hnvD.get hj
     refine ⟨v', ?_, q2⟩
     have : newsD[j]? = some v' := by simpa using q1
     rw [Array.getElem?_append_left (by have := (Array.getElem?_eq_some_iff.1 this).1; simp; omega)]
     simpa using this)
   refine ⟨⟨_, _, _, _, R2, hdx.trans x1, x2, ?_⟩, hw.new _⟩
   rw [Nat.zero_add]
   refine .sliceArr (L := ⟨w.heap.size, 0, 0, (#[] ++ newsD ++ Builtin.zeroCells z.cells (grownCap w (0 + n) 0 elem - (0 + n))).size⟩) ?_ (Nat.le_refl _) (by simp) b2 (by simp) (.inl ⟨rfl, by simpa using hge, ?_⟩) (fun _ => by have q9 := Nat.mul_le_mul_right sz hge; simp only [Nat.zero_add] at q9 ⊢; omega)
   ·simp [Bij.setArr, hnl]
   ·rw [hcs]; simp
  ·cases hv
include H in
theorem append_vir (hs : SR K β own s.get w) (hw : s.WF) (hf : Free β s s') {t u ty elem : TypeId} {x' r : Value} {a : Addr} {n : Nat} {news : List Value} {uty : Ty} (hu : C.ty u = some uty) (hud : ∀ k, uty.desc ≠ .int k)
    {desc : TypeDesc} {sz bytes : Nat} {z : Value} {meth : Array Method} {cmp : Bool} (hty : (underlying t).run P w = .ok (.slice elem) w) (het : C.ty elem = some ⟨desc, sz, bytes, some z, meth, cmp⟩) (b1 : sz = z.cells.size) (b2 : 0 < sz) (b3 : 0 < bytes)
    (hlen : (Builtin.lenOf x').run P w = .ok n w) {news' newsD : Array Value} (hnr : (Builtin.firstCells sz n x').run P w = .ok news' w) (hnv : VRs β news news'.toList) (hnl : news.length = n * sz) (hnrD : (Builtin.firstCells sz n x').run P w.drew = .ok newsD w.drew) (hnvD : VRs β news newsD.toList)
    (h1 : VR β (.slice (some a) 0 sz) (.slice none 0 0)) (hvir : β.vir a.block) (hspot : a.spot.isSome = true)
    (hv : (if n = 0 then some (.slice (some a) 0 sz, s) else
                if (0 + n) * bytes ≤ 140737488355328 ∧ news.all one = true then
                  match s.get a.block, a.spot with
                  | some (.arr cs mv false), some hi =>
                    if mv ≤ hi ∧ hi ≤ cs.length ∧ a.off + 0 * sz ≤ hi then
                      if a.off + 0 * sz = cs.length then
                        some (.slice (some ⟨a.block, a.off, some (cs.length + n * sz)⟩) (0 + n) sz, s.set a.block (.arr (cs ++ news) mv false))
                      else
                        let s1 := s.set a.block .dead
                        some (.slice (some ⟨s1.n, 0, some ((0 + n) * sz)⟩) (0 + n) sz, s1.new (.arr ((cs.drop a.off).take (0 * sz) ++ news) 0 false))
                    else none
                  | _, _ => none
                else none) = some (r, s')) :
    SimV P K β own s w (Builtin.append_ #[t, u] ty #[.slice none 0 0, x']) r s' ∧ s'.WF := by
  obtain ⟨hdx, hsd⟩ := drew_ext hs
  have hnl' : news'.size = n * sz := by have := hnv.length; simp at this; omega
  have hnlD : newsD.size = n * sz := by have := hnvD.length; simp at this; omega
  have R := run_append_any (P := P) (ty := ty) hty het rfl H (run_under H hu) hud b3 (base := none) (sLen := 0) (sCap := 0) hlen hnr hnrD (olds := #[]) (by simp [Builtin.firstCells])
  split at hv
  · rename_i h0
    subst h0
    obtain ⟨rfl, rfl⟩ := Prod.mk.inj (Option.some.inj hv)
    refine ⟨⟨β, own, w, .slice none 0 0, ?_, .refl .., hs, h1⟩, hw⟩
    rw [R.1 (Nat.le_refl _)]
    rfl
  · rename_i h0
    split at hv
    · rename_i hby
      obtain ⟨hby, hone⟩ := hby
      split at hv
      · rename_i cs mv hi hg hsp
        split at hv
        · rename_i hb
          obtain ⟨hmv, hhi, hoff⟩ := hb
          have R2 := R.2 (by omega) hby
          have hge := grownCap_ge' w (0 + n) 0 elem
          have hcs : (#[] ++ newsD ++ Builtin.zeroCells z.cells (grownCap w (0 + n) 0 elem - (0 + n)) : Array Value).size = grownCap w (0 + n) 0 elem * sz := by
            simp only [Array.size_append, size_zeroCells', hnlD, ← b1]
            rw [Nat.sub_mul]
            have : (0 + n) * sz ≤ grownCap w (0 + n) 0 elem * sz := Nat.mul_le_mul_right _ hge
            simp at this ⊢; omega
          have hnw : ∀ (k : Nat) (v : Value), news[k]? = some v → ∃ v', (#[] ++ newsD ++ Builtin.zeroCells z.cells (grownCap w (0 + n) 0 elem - (0 + n)) : Array Value)[k]? = some v' ∧ VR β v v' := by
            intro k v hv
            obtain ⟨v', z1, z2⟩ := hnvD.get hv
            have hkl : k < news.length := (List.getElem?_eq_some_iff.1 hv).1
            refine ⟨v', ?_, z2⟩
            rw [Array.getElem?_append_left (by simp; omega)]
            simpa using z1
          have hnp : 0 < n * sz := Nat.mul_pos (by omega) b2
          split at hv
          · rename_i hfull
            obtain ⟨rfl, rfl⟩ := Prod.mk.inj (Option.some.inj hv)
            rw [Nat.zero_mul, Nat.add_zero] at hfull
            obtain ⟨q2, q3⟩ := grow_there (t := elem) (news := news) (c := #[] ++ newsD ++ Builtin.zeroCells z.cells (grownCap w (0 + n) 0 elem - (0 + n))) hsd hw hg (.vir hvir) (fun b hb => hs.vir _ ⟨b, hb⟩ hvir) (o := a.off) (by omega) (by omega)
              (by simp; omega) (fun j hj1 hj2 => by
                obtain ⟨v, hvj⟩ : ∃ v, news[j - cs.length]? = some v := ⟨news[j - cs.length]'(by omega), by rw [List.getElem?_eq_getElem]⟩
                obtain ⟨v', z1, z2⟩ := hnw _ v hvj
                exact ⟨v, v', by rw [List.getElem?_append_right (by omega)]; exact hvj, by rw [hfull]; exact z1, z2⟩)
            rw [hnl] at q2 q3
            refine ⟨⟨_, _, _, _, R2, hdx.trans q2, q3, ?_⟩, hw.set hg⟩
            refine .sliceArr (L := ⟨w.heap.size, a.off, 0, (#[] ++ newsD ++ Builtin.zeroCells z.cells (grownCap w (0 + n) 0 elem - (0 + n))).size⟩) (by simp [Bij.setArr]) (Nat.le_refl _) (by rw [Nat.zero_add]; omega) b2 (by simp) (.inl ⟨by simp, hge, by rw [hcs]; simp⟩) (fun _ => by have q9 := Nat.mul_le_mul_right sz hge; simp only [Nat.zero_add] at q9 ⊢; omega)
          · rename_i hfull
            obtain ⟨rfl, rfl⟩ := Prod.mk.inj (Option.some.inj hv)
            have hnew : ((cs.drop a.off).take (0 * sz) ++ news).length = (0 + n) * sz := by
              rw [Nat.zero_mul, List.take_zero, List.nil_append, hnl, Nat.zero_add]
            obtain ⟨q2, q3⟩ := fork_row (s' := (s.set a.block .dead).new (.arr ((cs.drop a.off).take (0 * sz) ++ news) 0 false)) hsd hw hf (by rw [St.n_new, St.n_set]; omega) hg (.vir hvir) (fun b hb => hs.vir _ ⟨b, hb⟩ hvir)
              (L := ⟨w.heap.size, 0, 0, (#[] ++ newsD ++ Builtin.zeroCells z.cells (grownCap w (0 + n) 0 elem - (0 + n))).size⟩) (own' := upd own w.heap.size (some s.n))
              (w' := w.drew.alloc (.cells (#[] ++ newsD ++ Builtin.zeroCells z.cells (grownCap w (0 + n) 0 elem - (0 + n))) elem)) (new := (cs.drop a.off).take (0 * sz) ++ news)
              ⟨Nat.zero_le _, by rw [hnew]; simp; omega, _, elem, (0, 0), heap_alloc_new w.drew _, fun _ => .inl rfl, rfl, fun k hk1 hk2 => by
                rw [hnew] at hk2
                simp only [Nat.sub_zero, Nat.zero_add]
                obtain ⟨v, hvk⟩ : ∃ v, news[k]? = some v := ⟨news[k]'(by rw [Nat.zero_add] at hk2; omega), by rw [List.getElem?_eq_getElem]⟩
                obtain ⟨v', z1, z2⟩ := hnw _ v hvk
                refine ⟨v, v', ?_, by simpa using z1, z2⟩
                rw [Nat.zero_mul, List.take_zero, List.nil_append]; exact hvk⟩
              (by simp) (by simp) rfl (fun h => by simp at h) (fun b hb _ => heap_alloc_old w.drew _ b hb) rfl rfl rfl
            refine ⟨⟨_, _, _, _, R2, hdx.trans q2, q3, ?_⟩, (hw.set hg).new _⟩
            refine .sliceArr (L := ⟨w.heap.size, 0, 0, (#[] ++ newsD ++ Builtin.zeroCells z.cells (grownCap w (0 + n) 0 elem - (0 + n))).size⟩) (by simp only [Bij.setArr, hnew, St.n_set]; simp) (Nat.le_refl _) (by simp) b2 (by simp) (.inl ⟨by simp, hge, by rw [hcs]; simp⟩) (fun _ => by have q9 := Nat.mul_le_mul_right sz hge; simp only [Nat.zero_add] at q9 ⊢; omega)
        · cases hv
      · cases hv
    · cases hv
include H in
theorem append_sim (hs : SR K β own s.get w) (hw : s.WF) (hf : Free β s s') {t u ty : TypeId} {v x v' x' r : Value} (hv : appendV C s t v x = some (r, s')) {uty : Ty} (hu : C.ty u = some uty) (hud : ∀ k, uty.desc ≠ .int k)
    (h1 : VR β v v') (h2 : VR β x x') : SimV P K β own s w (Builtin.append_ #[t, u] ty #[v', x']) r s' ∧ s'.WF := by
  obtain ⟨hdx, hsd⟩ := drew_ext hs
  unfold appendV at hv
  split at hv
  · rename_i elem _ _ _ _ _ hty
    split at hv
    · rename_i desc sz bytes z meth cmp het
      split at hv
      · rename_i hb
        obtain ⟨b1, b2, b3⟩ := hb
        split at hv
        · cases hv
        · rename_i n hn
          split at hv
          · cases hv
          · rename_i news hnews
            have hlen := len_sim H (P := P) (w := w) hn h2
            obtain ⟨news', hnr, hnv, hnl⟩ := first_sim H (P := P) hs hnews h2
            obtain ⟨newsD, hnrD, hnvD, _⟩ := first_sim H (P := P) hsd hnews h2
            have hnl' : news'.size = n * sz := by have := hnv.length; simp at this; omega
            have hnlD : newsD.size = n * sz := by have := hnvD.length; simp at this; omega
            split at hv
            ·
              cases h1
              exact append_none H hs hw hf hu hud (run_under H hty) het b1 b2 b3 hlen hnr hnv hnl hnrD hnvD .sliceNil hv
            · rename_i a len sz'
              split at hv
              · rename_i hsz
                subst hsz
                rcases slice_ptr h1 with ⟨rfl, rfl, hvir, hspot, hz⟩ | ⟨c, cap, rfl, hle, hptr⟩
                · exact append_vir H hs hw hf hu hud (run_under H hty) het b1 b2 b3 hlen hnr hnv hnl hnrD hnvD h1 hvir hspot hv
                split at hv
                · rename_i h0
                  subst h0
                  obtain ⟨rfl, rfl⟩ := Prod.mk.inj (Option.some.inj hv)
                  have hnn : news'.toList = [] := by
                    have := hnl'
                    simp at this; simpa using this
                  have hfc : ∃ olds : Array Value, True := ⟨#[], trivial⟩
                  have run0 : (Builtin.append_ #[t, u] ty #[.slice (some c) len cap, x']).run P w = .ok (.slice (some c) len cap) w := by
                    have hu' := run_under (w := w) H hu
                    unfold Builtin.append_
                    simp only [List.getElem?_toArray, List.getElem?_cons_zero, List.getElem?_cons_succ, Sem.run_bind, run_under H hty, Result.andThen_ok, run_size H het, hu', Sem.run_pure]
                    cases hd : uty.desc with
                    | int k => exact absurd hd (hud k)
                    | _ =>
                      simp only [Bool.false_eq_true, if_false, Sem.run_bind, hlen, Result.andThen_ok]
                      rw [if_pos (by omega)]
                      simp only [Bool.not_false, if_true, Sem.run_bind, hnr, Result.andThen_ok, hnn]
                      simp [storeCells]
                  exact ⟨⟨β, own, w, _, run0, .refl .., hs, h1⟩, hw⟩
                · rename_i h0
                  split at hv
                  · rename_i hby
                    obtain ⟨hby, hone⟩ := hby
                    split at hv
                    · rename_i cs mv hi hg hsp
                      split at hv
                      · rename_i hval
                        obtain ⟨hmv, hhi, hend⟩ := hval
                        have hcat : firstV C s sz' len (.slice (some a) len sz') = some ((cs.drop a.off).take (len * sz')) := by
                          simp only [firstV, and_self, Nat.le_refl, if_true]
                          by_cases hl0 : len = 0
                          · rw [if_pos hl0, hl0]; simp
                          · rw [if_neg hl0]
                            unfold St.cellsAt
                            rw [hg, hsp]
                            simp only
                            rw [if_pos ⟨hmv, hhi, hend⟩]
                        obtain ⟨olds, ho1, ho2, ho3⟩ := first_sim H (P := P) hsd hcat h1
                        have hol : olds.size = len * sz' := by have := ho2.length; simp only [Array.length_toList] at this; omega
                        have R := run_append_any (P := P) (ty := ty) (run_under H hty) het rfl H (run_under H hu) hud b3 (base := some c) (sLen := len) (sCap := cap) hlen hnr hnrD ho1
                        obtain ⟨i, o, sp⟩ := a
                        simp only at hsp
                        subst hsp
                        cases h1 with
                        | @sliceArr _ _ _ _ _ _ L _ hL g1 g2 hz gs hc hbd =>
                        have hsub := (hs.arr _ _ _ hL _ _ _ hg)
                        by_cases hroom : len + n ≤ cap
                        ·
                          rcases hc with ⟨rfl, _, hcap⟩ | ⟨rfl, rfl⟩
                          · have hmulc : (len + n) * sz' ≤ cap * sz' := Nat.mul_le_mul_right _ hroom
                            rw [Nat.add_mul] at hmulc
                            have R1 := R.1 hroom
                            simp only [addr_add] at R1
                            split at hv
                            · rename_i hfull
                              obtain ⟨rfl, rfl⟩ := Prod.mk.inj (Option.some.inj hv)
                              simp only at hfull
                              have ehi : hi = cs.length := by omega
                              subst ehi
                              have hnpos : 0 < n * sz' := Nat.mul_pos (by omega) b2
                              obtain ⟨w', q1, q2, q3⟩ := grow_here (P := P) hs hw hg hL (by omega) hnv hone (by omega) (by omega)
                              rw [show L.base + (cs.length - L.lo) = L.base + (o - L.lo) + len * sz' from by omega] at q1
                              rw [q1] at R1
                              rw [hnl] at q2 q3
                              refine ⟨⟨_, _, _, _, R1, q2, q3, ?_⟩, hw.set hg⟩
                              refine .sliceArr (L := L) (by simp [Bij.setArr]) g1 (by rw [Nat.add_mul]; omega) hz gs (.inl ⟨rfl, hroom, hcap⟩) (fun _ => by show cs.length + n * sz' ≤ o + _; omega)
                            · rename_i hfull
                              obtain ⟨rfl, rfl⟩ := Prod.mk.inj (Option.some.inj hv)
                              obtain ⟨⟨p1, p2, cc, tt, fr, p3, p4, p5, p6⟩, p7, p8⟩ := hsub.2 hmv
                              simp only [Bool.false_eq_true, if_false] at p8
                              have hnv' := hnv.length
                              simp only [Array.length_toList] at hnv'
                              obtain ⟨cur', r1, r2⟩ := run_storeCells_loose (P := P) L.block (L.base + (o - L.lo) + len * sz') tt fr news'.toList 0 cc w p3 (p4 rfl) (by simp; omega) (all_one hnv hone)
                              rw [Nat.add_zero] at r2
                              rw [r1] at R1
                              have hcl : L.base + (o - L.lo) + len * sz' + news'.toList.length ≤ cc.toList.length := by simp; omega
                              have hcur : cur'.size = cc.size := by
                                have : cur'.toList.length = cc.toList.length := by rw [r2]; exact length_splice _ _ _ hcl
                                simpa using this
                              have hat : ∀ k, cur'[k]? = (splice cc.toList (L.base + (o - L.lo) + len * sz') news'.toList)[k]? := fun k => by rw [← r2, Array.getElem?_toList]
                              have hnew : ((cs.drop o).take (len * sz') ++ news).length = (len + n) * sz' := by
                                rw [List.length_append, List.length_take, List.length_drop, hnl, Nat.add_mul]
                                simp only at hend
                                omega
                              obtain ⟨q2, q3⟩ := fork_row (s' := (s.set i .dead).new (.arr ((cs.drop o).take (len * sz') ++ news) 0 false)) hs hw hf (by rw [St.n_new, St.n_set]; omega) hg (.inr ⟨_, _, hL⟩) (fun b hb => hs.one _ ⟨b, hb⟩ ⟨_, _, hL⟩)
                                (L := ⟨L.block, 0, L.base + (o - L.lo), L.size⟩) (own' := upd own L.block (some s.n)) (w' := w.setRow L.block cur') (new := (cs.drop o).take (len * sz') ++ news)
                                ⟨Nat.zero_le _, by rw [hnew, Nat.add_mul]; simp; omega, cur', tt, fr, setRow_heap w _ cc cur' tt fr p3, fun _ => by rw [hcur]; exact p4 rfl, hcur.trans p5, fun k hk1 hk2 => by
                                  rw [hnew, Nat.add_mul] at hk2
                                  simp only [Nat.sub_zero]
                                  rw [hat, splice_get _ _ _ hcl]
                                  simp only at hend
                                  by_cases hk : k < len * sz'
                                  · obtain ⟨v, v', z1, z2, z3⟩ := p6 (o + k) (by omega) (by omega)
                                    refine ⟨v, v', ?_, ?_, z3⟩
                                    · rw [List.getElem?_append_left (by simp; omega), List.getElem?_take_of_lt hk, List.getElem?_drop]; exact z1
                                    · rw [if_neg (by omega)]
                                      rw [show L.base + (o + k - L.lo) = L.base + (o - L.lo) + k from by omega] at z2
                                      simpa using z2
                                  · obtain ⟨v, hvk⟩ : ∃ v, news[k - len * sz']? = some v := ⟨news[k - len * sz']'(by omega), by rw [List.getElem?_eq_getElem]⟩
                                    obtain ⟨v', z1, z2⟩ := hnv.get hvk
                                    refine ⟨v, v', ?_, ?_, z2⟩
                                    · rw [List.getElem?_append_right (by simp; omega)]
                                      have : ((cs.drop o).take (len * sz')).length = len * sz' := by simp; omega
                                      rw [this]; exact hvk
                                    · rw [if_pos (by simp; omega), show L.base + (o - L.lo) + k - (L.base + (o - L.lo) + len * sz') = k - len * sz' from by omega]; exact z1⟩
                                (by simp) (by simpa using p7) rfl (fun _ => p8) (fun b _ hb => setRow_other w _ _ _ hb) rfl rfl rfl
                              refine ⟨⟨_, _, _, _, R1, q2, q3, ?_⟩, (hw.set hg).new _⟩
                              refine .sliceArr (L := ⟨L.block, 0, L.base + (o - L.lo), L.size⟩) (by simp only [Bij.setArr, hnew, St.n_set]; simp) (Nat.le_refl _) (by simp) hz gs (.inl ⟨by simp, hroom, by simpa using hcap⟩) (fun _ => by rw [Nat.zero_add, Nat.add_mul]; exact hmulc)
                          · exfalso; omega
                        ·
                          have R2 := R.2 (by omega) hby
                          have hge := grownCap_ge' w (len + n) cap elem
                          have hmulg : (len + n) * sz' ≤ grownCap w (len + n) cap elem * sz' := Nat.mul_le_mul_right _ hge
                          rw [Nat.add_mul] at hmulg
                          have hcs : (olds ++ newsD ++ Builtin.zeroCells z.cells (grownCap w (len + n) cap elem - (len + n)) : Array Value).size = grownCap w (len + n) cap elem * sz' := by
                            simp only [Array.size_append, size_zeroCells', hnlD, hol, ← b1]
                            rw [Nat.sub_mul, Nat.add_mul]
                            omega
                          have hold : ∀ k v, k < len * sz' → cs[o + k]? = some v → ∃ v', (olds ++ newsD ++ Builtin.zeroCells z.cells (grownCap w (len + n) cap elem - (len + n)) : Array Value)[k]? = some v' ∧ VR β v v' := by
                            intro k v hk hv
                            have : ((cs.drop o).take (len * sz'))[k]? = some v := by rw [List.getElem?_take_of_lt hk, List.getElem?_drop]; exact hv
                            obtain ⟨v', z1, z2⟩ := ho2.get this
                            refine ⟨v', ?_, z2⟩
                            rw [Array.getElem?_append_left (by simp; omega), Array.getElem?_append_left (by omega)]
                            simpa using z1
                          have hnw : ∀ k v, news[k]? = some v → ∃ v', (olds ++ newsD ++ Builtin.zeroCells z.cells (grownCap w (len + n) cap elem - (len + n)) : Array Value)[len * sz' + k]? = some v' ∧ VR β v v' := by
                            intro k v hv
                            obtain ⟨v', z1, z2⟩ := hnvD.get hv
                            have hkl : k < news.length := (List.getElem?_eq_some_iff.1 hv).1
                            refine ⟨v', ?_, z2⟩
                            rw [Array.getElem?_append_left (by simp; omega), Array.getElem?_append_right (by omega)]
                            rw [show len * sz' + k - olds.size = k from by omega]
                            simpa using z1
                          simp only at hend
                          split at hv
                          · rename_i hfull
                            obtain ⟨rfl, rfl⟩ := Prod.mk.inj (Option.some.inj hv)
                            simp only at hfull
                            obtain ⟨q2, q3⟩ := grow_there (t := elem) (news := news) (c := olds ++ newsD ++ Builtin.zeroCells z.cells (grownCap w (len + n) cap elem - (len + n))) hsd hw hg (.inr ⟨_, _, hL⟩) (fun b hb => hs.one _ ⟨b, hb⟩ ⟨_, _, hL⟩) (o := o) (by omega) (by rw [hnl]; exact Nat.mul_pos (by omega) b2)
                              (by rw [hcs]; omega) (fun j hj1 hj2 => by
                                by_cases hj : j < cs.length
                                · obtain ⟨v, hvj⟩ : ∃ v, cs[j]? = some v := ⟨cs[j], by simp [hj]⟩
                                  obtain ⟨v', z1, z2⟩ := hold (j - o) v (by omega) (by rw [show o + (j - o) = j from by omega]; exact hvj)
                                  exact ⟨v, v', by rw [List.getElem?_append_left hj]; exact hvj, z1, z2⟩
                                · obtain ⟨v, hvj⟩ : ∃ v, news[j - cs.length]? = some v := ⟨news[j - cs.length]'(by omega), by rw [List.getElem?_eq_getElem]⟩
                                  obtain ⟨v', z1, z2⟩ := hnw (j - cs.length) v hvj
                                  exact ⟨v, v', by rw [List.getElem?_append_right (by omega)]; exact hvj, by rw [show j - o = len * sz' + (j - cs.length) from by omega]; exact z1, z2⟩)
                            rw [hnl] at q2 q3
                            refine ⟨⟨_, _, _, _, R2, hdx.trans q2, q3, ?_⟩, hw.set hg⟩
                            show VR _ (.slice (some ⟨i, o, some (cs.length + n * sz')⟩) (len + n) sz') _
                            refine .sliceArr (L := ⟨w.heap.size, o, 0, (olds ++ newsD ++ Builtin.zeroCells z.cells (grownCap w (len + n) cap elem - (len + n))).size⟩) (by simp [Bij.setArr]) (Nat.le_refl _) (by rw [Nat.add_mul]; omega) hz (by simp) (.inl ⟨by simp, hge, by rw [hcs]; simp⟩) (fun _ => by show cs.length + n * sz' ≤ o + _; omega)
                          · rename_i hfull
                            obtain ⟨rfl, rfl⟩ := Prod.mk.inj (Option.some.inj hv)
                            have hnew : ((cs.drop o).take (len * sz') ++ news).length = (len + n) * sz' := by
                              rw [List.length_append, List.length_take, List.length_drop, hnl, Nat.add_mul]
                              omega
                            obtain ⟨q2, q3⟩ := fork_row (s' := (s.set i .dead).new (.arr ((cs.drop o).take (len * sz') ++ news) 0 false)) hsd hw hf (by rw [St.n_new, St.n_set]; omega) hg (.inr ⟨_, _, hL⟩) (fun b hb => hs.one _ ⟨b, hb⟩ ⟨_, _, hL⟩)
                              (L := ⟨w.heap.size, 0, 0, (olds ++ newsD ++ Builtin.zeroCells z.cells (grownCap w (len + n) cap elem - (len + n))).size⟩) (own' := upd own w.heap.size (some s.n))
                              (w' := w.drew.alloc (.cells (olds ++ newsD ++ Builtin.zeroCells z.cells (grownCap w (len + n) cap elem - (len + n))) elem)) (new := (cs.drop o).take (len * sz') ++ news)
                              ⟨Nat.zero_le _, by rw [hcs, hnew, Nat.add_mul]; simp; omega, _, elem, (0, 0), heap_alloc_new w.drew _, fun _ => .inl rfl, rfl, fun k hk1 hk2 => by
                                rw [hnew, Nat.add_mul] at hk2
                                simp only [Nat.sub_zero, Nat.zero_add]
                                by_cases hk : k < len * sz'
                                · obtain ⟨v, hvk⟩ : ∃ v, cs[o + k]? = some v := ⟨cs[o + k]'(by omega), by rw [List.getElem?_eq_getElem]⟩
                                  obtain ⟨v', z1, z2⟩ := hold k v hk hvk
                                  exact ⟨v, v', by rw [List.getElem?_append_left (by simp; omega), List.getElem?_take_of_lt hk, List.getElem?_drop]; exact hvk, z1, z2⟩
                                · obtain ⟨v, hvk⟩ : ∃ v, news[k - len * sz']? = some v := ⟨news[k - len * sz']'(by omega), by rw [List.getElem?_eq_getElem]⟩
                                  obtain ⟨v', z1, z2⟩ := hnw _ v hvk
                                  refine ⟨v, v', ?_, by rw [show k = len * sz' + (k - len * sz') from by omega]; exact z1, z2⟩
                                  rw [List.getElem?_append_right (by simp; omega)]
                                  have : ((cs.drop o).take (len * sz')).length = len * sz' := by simp; omega
                                  rw [this]; exact hvk⟩
                              (by simp) (by simp) rfl (fun h => by simp at h) (fun b hb _ => heap_alloc_old w.drew _ b hb) rfl rfl rfl
                            refine ⟨⟨_, _, _, _, R2, hdx.trans q2, q3, ?_⟩, (hw.set hg).new _⟩
                            refine .sliceArr (L := ⟨w.heap.size, 0, 0, (olds ++ newsD ++ Builtin.zeroCells z.cells (grownCap w (len + n) cap elem - (len + n))).size⟩) (by simp only [Bij.setArr, hnew, St.n_set]; simp) (Nat.le_refl _) (by simp) hz (by simp) (.inl ⟨by simp, hge, by rw [hcs]; simp⟩) (fun _ => by rw [Nat.zero_add, Nat.add_mul]; exact hmulg)
                      · cases hv
                    · cases hv
                  · cases hv
              · cases hv
            · rename_i c
              split at hv
              · rename_i hd
                have hi := tok_inv H h1 hd
                cases hi with
                | bareNil => exact append_none H hs hw hf hu hud (run_under H hty) het b1 b2 b3 hlen hnr hnv hnl hnrD hnvD h1 hv
                | bare => exact append_none H hs hw hf hu hud (run_under H hty) het b1 b2 b3 hlen hnr hnv hnl hnrD hnvD h1 hv
              · cases hv
            · cases hv
      · cases hv
    · cases hv
  · cases hv
end
end Go.Ai
/-
  copy, strings and bytes, len.
-/
namespace Go.Ai
section
variable {P : Program} {C : Cfg} {K : Code → Prop} (H : CfgOk P C K) {β : Bij} {own : Nat → Option Nat} {s s' : St} {w : World}
include H in
theorem copy_sim (hs : SR K β own s.get w) (hw : s.WF) {t u ty : TypeId} {d x d' x' r : Value} (hv : copyV C s t d x = some (r, s')) (h1 : VR β d d') (h2 : VR β x x') :
  SimV P K β own s w (Builtin.copy_ #[t, u] ty #[d', x']) r s' ∧ s'.WF := by
 unfold copyV at hv
 split at hv
 ·rename_i elem _ _ _ _ _ base dlen sz hty
  split at hv
  ·rename_i et slen het hsl
   have hlen := len_sim H (P := P) (w := w) hsl h2
   dsimp only at hv
   split at hv
   ·rename_i h0
    obtain ⟨rfl, rfl⟩ := Prod.mk.inj (Option.some.inj hv)
    have hd : ∃ b' cap, d' = .slice b' dlen cap := by
     cases h1 <;> exact ⟨_, _, rfl⟩
    obtain ⟨b', cap, rfl⟩ := hd
    have hfirst : ∃ cs : Array Value, (Builtin.firstCells et.size 0 x').run P w = .ok cs w ∧ cs.toList = [] := by
     unfold lenV at hsl
     split at hsl
     ·cases h2 <;> exact ⟨#[], by simp [Builtin.firstCells, loadCells, loadCellsFrom], rfl⟩
     ·cases h2
      refine ⟨#[], ?_, rfl⟩
      simp [Builtin.firstCells]
     ·split at hsl
      ·rename_i hd
       have hi := tok_inv H h2 hd
       cases hi <;> exact ⟨#[], by simp [Builtin.firstCells, loadCells, loadCellsFrom], rfl⟩
      ·cases hsl
     ·cases hsl
    obtain ⟨cs, hc1, hc2⟩ := hfirst
    refine ⟨⟨β, own, w, goInt 0, ?_, .refl .., hs, .int _ _⟩, hw⟩
    simp only [Builtin.copy_, List.getElem?_toArray, List.getElem?_cons_zero, List.getElem?_cons_succ, Sem.run_bind, run_under H hty, Result.andThen_ok, hlen, run_size H het, h0, hc1, hc2]
    cases b' <;> simp [storeCells]
   ·rename_i h0
    split at hv
    ·rename_i a
     split at hv
     ·rename_i hsz
      subst hsz
      split at hv
      ·rename_i cs hcs
       rw [Option.map_eq_some_iff] at hv
       obtain ⟨s1, hp, e⟩ := hv
       obtain ⟨rfl, rfl⟩ := Prod.mk.inj e
       have hpos : 0 < dlen := by
        rcases Nat.eq_zero_or_pos dlen with h | h
        ·exfalso; apply h0; rw [h]; exact Nat.min_zero _
        ·exact h
       rcases slice_ptr h1 with ⟨_, hd0, _⟩ | ⟨c, cap, rfl, hle, hptr⟩
       ·omega
       obtain ⟨cs', f1, f2, f3⟩ := first_sim H (P := P) hs hcs h2
       obtain ⟨w', q1, q2, q3, q4, q5⟩ := putCells_sim (P := P) hs hw hp (hptr hpos) f2
       refine ⟨⟨_, _, w', _, ?_, q2, q3, .int _ _⟩, q4⟩
       simp only [Builtin.copy_, List.getElem?_toArray, List.getElem?_cons_zero, List.getElem?_cons_succ, Sem.run_bind, run_under H hty, Result.andThen_ok, hlen, run_size H het, f1, q1]
       rfl
      ·cases hv
     ·cases hv
    ·cases hv
  ·cases hv
 ·cases hv
theorem zeros_eq (z : Array Value) (n : Nat) (hz : 0 < z.size) : (Builtin.zeroCells z n).toList = zeros z.toList n := by
 unfold Builtin.zeroCells;exact rowZeros z _ hz n rfl
theorem zeros_vrs {β : Bij} {l l' : List Value} (h : VRs β l l') : ∀ n, VRs β (zeros l n) (zeros l' n)
 | 0 => .nil
 | n + 1 => h.append (zeros_vrs h n)
include H in
theorem clear_sim (hs : SR K β own s.get w) (hw : s.WF) {t ty : TypeId} {x x' r : Value} (hv : clearV C s t x = some (r, s')) (h1 : VR β x x') :
  SimV P K β own s w (Builtin.clear_ #[t] ty #[x']) r s' ∧ s'.WF := by
 unfold clearV at hv
 split at hv
 ·rename_i elem _ _ _ _ _ base n sz hty
  split at hv
  ·rename_i h0
   subst h0
   obtain ⟨rfl, rfl⟩ := Prod.mk.inj (Option.some.inj hv)
   have hd : ∃ b' cap, x' = .slice b' 0 cap := by
    cases h1 <;> exact ⟨_, _, rfl⟩
   obtain ⟨b', cap, rfl⟩ := hd
   refine ⟨⟨β, own, w, .tuple #[], ?_, .refl .., hs, .tuple .nil⟩, hw⟩
   simp only [Builtin.clear_, List.getElem?_toArray, List.getElem?_cons_zero, Sem.run_bind, run_under H hty, Result.andThen_ok]
   cases b' <;> rfl
  ·rename_i h0
   split at hv
   ·rename_i a _ _ _ z _ _ het
    split at hv
    ·rename_i hsz
     obtain ⟨rfl, hz, hz0⟩ := hsz
     rw [Option.map_eq_some_iff] at hv
     obtain ⟨s1, hp, e⟩ := hv
     obtain ⟨rfl, rfl⟩ := Prod.mk.inj e
     have hpos : 0 < n := Nat.pos_of_ne_zero h0
     rcases slice_ptr h1 with ⟨_, hd0, _⟩ | ⟨c, cap, rfl, hle, hptr⟩
     ·omega
     have hzr : VRs β (zeros z.cells.toList n) (Builtin.zeroCells z.cells n).toList := by
      rw [zeros_eq _ _ (by omega)]
      exact zeros_vrs (litOk_self β (H.zero _ _ _ het rfl)).cells n
     obtain ⟨w', q1, q2, q3, q4, q5⟩ := putCells_sim (P := P) hs hw hp (hptr hpos) hzr
     refine ⟨⟨_, _, w', _, ?_, q2, q3, .tuple .nil⟩, q4⟩
     obtain ⟨m, rfl⟩ : ∃ m, n = m + 1 := ⟨n - 1, by omega⟩
     simp only [Builtin.clear_, List.getElem?_toArray, List.getElem?_cons_zero, Sem.run_bind, run_under H hty, Result.andThen_ok, run_zero H het rfl, q1]
     rfl
    ·cases hv
   ·cases hv
 ·cases hv
theorem freeze_new (w : World) (c : Array Value) (t : TypeId) : (w.alloc (.cells c t)).freeze ⟨w.heap.size, c.size, none⟩ 1 = w.alloc (.cells c t (c.size, c.size + 1)) := by
 unfold World.freeze World.alloc;simp only [Nat.one_ne_zero, if_false];congr 1
 apply Array.ext
 ·simp
 ·intro i h1 h2;simp only [Array.getElem_modify];by_cases e : w.heap.size = i
  ·subst e; simp
  ·have : i < w.heap.size := by simp at h2; omega
   simp [e, Array.getElem_push, this]
theorem frozen_loose {fr : Nat × Nat} {n : Nat} (h : Loose fr n) : Loose (if fr.1 == fr.2 then (n, n + 1) else (min fr.1 n, max fr.2 (n + 1))) n := by
 rcases h with h | h
 ·rw [h]; simp [Loose]
 ·by_cases e : fr.1 = fr.2
  ·simp [e, Loose]
  ·simp [e, Loose, Nat.min_eq_right h]
theorem freeze_heap (w : World) {b : Nat} {c : Array Value} {t : TypeId} {fr : Nat × Nat} (hb : w.heap[b]? = some (.cells c t fr)) (n : Nat) :
  (w.freeze ⟨b, n, none⟩ 1).heap[b]? = some (.cells c t (if fr.1 == fr.2 then (n, n + 1) else (min fr.1 n, max fr.2 (n + 1)))) := by
 have hlt : b < w.heap.size := (Array.getElem?_eq_some_iff.1 hb).1;have hv : w.heap[b] = .cells c t fr := (Array.getElem?_eq_some_iff.1 hb).2;unfold World.freeze;simp only [Nat.one_ne_zero, if_false];rw [Array.getElem?_eq_getElem (by simpa using hlt), Array.getElem_modify];simp [hv]
theorem freeze_other (w : World) {b k : Nat} (h : k ≠ b) (n : Nat) : (w.freeze ⟨b, n, none⟩ 1).heap[k]? = w.heap[k]? := by
 unfold World.freeze;simp [Array.getElem?_modify, Ne.symm h]
theorem freeze_size (w : World) (b n : Nat) : (w.freeze ⟨b, n, none⟩ 1).heap.size = w.heap.size := by simp [World.freeze]
theorem freeze_sim (hs : SR K β own s.get w) (hw : s.WF) {i hi : Nat} {cs : List Value} {mv : Nat} {L : ArrLoc} (hg : s.get i = some (.arr cs mv false)) (hL : β.arr i hi = some L) (hmv : mv ≤ hi) (c : Addr) (hc : c.block = L.block) :
  ∃ w', (markStringish c).run P w = .ok () w' ∧ Ext β own s w β own s w' ∧ SR K β own s.get w' := by
 obtain ⟨_, gv⟩ := hs.arr _ _ _ hL _ _ _ hg;obtain ⟨⟨g1, g2, cc, t, fr, e, hfr, hcs, g4⟩, gs, go⟩ := gv hmv;simp only [Bool.false_eq_true, if_false] at go;have hlt := hw.lt hg;have hsh : w.shape? L.block = some (t, cc.size) := by simp [World.shape?, e]
 refine ⟨w.freeze ⟨L.block, cc.size, none⟩ 1, by simp only [markStringish, Sem.run_bind, run_shape, Result.andThen_ok, hc, hsh, run_freeze], ?_⟩;have hN := freeze_heap w e cc.size;have hO : ∀ k, k ≠ L.block → (w.freeze ⟨L.block, cc.size, none⟩ 1).heap[k]? = w.heap[k]? := fun k hk => freeze_other w hk _
 have hS := freeze_size w L.block cc.size;refine change hs (fun j => j = i) Z11 (Nat.le_refl _) (Bij.le_refl β) (fun _ _ => rfl) (fun _ _ => rfl) (fun _ _ => rfl) Z4
  (fun b hb hno => ⟨rfl, hO b Z1x⟩) ?_ ?_ ?_ ?_ ?_ (fun b j hb => by have := hs.small b j hb; omega) rfl rfl rfl
 ·rintro j rfl b hb;exact absurd ⟨_, L, hL⟩ (hs.one j ⟨b, hb⟩)
 ·rintro j rfl hi2 L2 hL2 cs2 mv2 ro2 hc2;obtain ⟨h0, hv⟩ := hs.arr _ _ _ hL2 _ _ _ hc2;refine ⟨h0, fun hmv2 => ?_⟩;obtain ⟨⟨q1, q2, c2, t2, fr2, q3, q4, q5, q6⟩, q7, q8⟩ := hv hmv2;by_cases hb : L2.block = L.block
  ·rw [hb] at q3;rw [e] at q3;obtain ⟨rfl, rfl, rfl⟩ := by simpa using q3
   refine ⟨⟨q1, q2, cc, t, _, by rw [hb]; exact hN, fun _ => frozen_loose (hfr rfl), q5, q6⟩, Z4, q8⟩
  ·exact ⟨⟨q1, q2, c2, t2, fr2, by rw [hO _ hb]; exact q3, q4, q5, q6⟩, Z4, q8⟩
 ·rintro j rfl; exact hs.loc j
 ·rintro j rfl hi2 L2 hL2; have := hs.blk j hi2 L2 hL2; omega
 ·rintro j rfl h; exact hs.one j h
theorem EntsR.length {l l' : List MapEntry} (h : EntsR β l l') : l'.length = l.length := by
 induction h with
 | nil => rfl
 | cons _ _ ih => simp [ih]
theorem bytes_vals : ∀ {l : List Value} {bs : List UInt8}, bytesOf l = some bs → ∃ ns : List Int, l = ns.map (Value.int .u8) ∧ bs = ns.map fun n => UInt8.ofNat n.toNat
  | [], bs, h => by obtain rfl := Option.some.inj h; exact ⟨[], rfl, rfl⟩
  | .int .u8 n :: r, bs, h => by
    unfold bytesOf at h;rw [Option.map_eq_some_iff] at h;obtain ⟨b, hb, rfl⟩ := h;obtain ⟨ns, rfl, rfl⟩ := bytes_vals hb;exact ⟨n :: ns, rfl, rfl⟩
  | .bool _ :: _, bs, h => Z0b
  | .float _ _ :: _, bs, h => Z0b
  | .complex _ _ _ :: _, bs, h => Z0b
  | .string _ :: _, bs, h => Z0b
  | .pointer _ :: _, bs, h => Z0b
  | .slice _ _ _ :: _, bs, h => Z0b
  | .map _ :: _, bs, h => Z0b
  | .chan _ :: _, bs, h => Z0b
  | .func _ _ _ :: _, bs, h => Z0b
  | .nilFunc :: _, bs, h => Z0b
  | .iface _ _ :: _, bs, h => Z0b
  | .nilIface :: _, bs, h => Z0b
  | .agg _ :: _, bs, h => Z0b
  | .tuple _ :: _, bs, h => Z0b
  | .int .i8 _ :: _, bs, h => Z0b
  | .int .i16 _ :: _, bs, h => Z0b
  | .int .i32 _ :: _, bs, h => Z0b
  | .int .i64 _ :: _, bs, h => Z0b
  | .int .u16 _ :: _, bs, h => Z0b
  | .int .u32 _ :: _, bs, h => Z0b
  | .int .u64 _ :: _, bs, h => Z0b
def strDst (C : Cfg) (a b : TypeId) : Bool :=
 match C.ty a, C.ty b with
 | some { desc := .slice _, .. }, some { desc := .string, .. } => true
 | _, _ => false
theorem convStr_same {a b : TypeId} (hst : strDst C a b = true) {x r : Value} (hv : convS C s a b x = some (r, s')) : s' = s := by
 have map_ : ∀ {α : Type} {x : Option α} {f : α → Value}, (x.map fun v => (f v, s)) = some (r, s') → s' = s := by
  intro α x f h;rw [Option.map_eq_some_iff] at h;obtain ⟨q, _, e⟩ := h;exact (Prod.mk.inj e).2.symm
 unfold convS at hv;split at hv
 ·rename_i hta htb; simp [strDst, hta, htb] at hst
 ·repeat' split at hv
  all_goals first | (cases hv; done) | exact (Prod.mk.inj (Option.some.inj hv)).2.symm | exact map_ hv
 ·rename_i hta htb; simp [strDst, hta, htb] at hst
 ·split at hv
  ·exact map_ hv
  ·cases hv
 ·rename_i hta htb; simp [strDst, hta, htb] at hst
 ·rename_i hta htb; simp [strDst, hta, htb] at hst
 ·exact map_ hv
include H in
theorem convStr_pure (hs : SR K β own s.get w) {a b : TypeId} (hst : strDst C a b = true) {x x' r : Value} (hv : convS C s a b x = some (r, s')) (hx : VR β x x') : s' = s ∧ ∃ v', (convert a b x').run P w = .ok v' w ∧ VR β r v' := by
  unfold convS at hv
  split at hv
  · rename_i hta htb; simp [strDst, hta, htb] at hst
  · rename_i e _ _ _ _ _ _ _ _ _ _ a0 len sz hta htb
    split at hv
    · rename_i _ _ het
      obtain ⟨rfl, rfl⟩ := Prod.mk.inj (Option.some.inj hv)
      cases hx
      refine ⟨rfl, _, ?_, .string _⟩
      simp only [convert, Sem.run_bind, run_under H hta, run_under H htb, Result.andThen_ok, run_under H het, Conv.bytesToString, Sem.run_pure]
    · rename_i a1 het
      split at hv
      · rename_i h0
        subst h0
        obtain ⟨rfl, rfl⟩ := Prod.mk.inj (Option.some.inj hv)
        rcases slice_ptr hx with ⟨rfl, _⟩ | ⟨c, cap, rfl, hle, hptr⟩
        · refine ⟨rfl, _, ?_, .string _⟩
          simp only [convert, Sem.run_bind, run_under H hta, run_under H htb, Result.andThen_ok, run_under H het, Conv.bytesToString, Sem.run_pure]
        refine ⟨rfl, _, ?_, .string _⟩
        have hload : (loadCells c 0).run P w = .ok (([] : List Int).map (Value.int .u8)).toArray w := by simp [loadCells, loadCellsFrom]
        have := run_bytesToString (P := P) w c 0 cap [] hload
        simp only [convert, Sem.run_bind, run_under H hta, run_under H htb, Result.andThen_ok, run_under H het]
        rw [this]
        rfl
      split at hv
      · rename_i hsz
        subst hsz
        split at hv
        · rename_i cs hcs
          rw [Option.map_eq_some_iff] at hv
          obtain ⟨bs, hbs, e⟩ := hv
          obtain ⟨rfl, rfl⟩ := Prod.mk.inj e
          rcases slice_ptr hx with ⟨_, h0, _⟩ | ⟨c, cap, rfl, hle, hptr⟩
          · exact absurd h0 (by assumption)
          obtain ⟨ns, rfl, rfl⟩ := bytes_vals hbs
          refine ⟨rfl, _, ?_, .string _⟩
          have hload : (loadCells c len).run P w = .ok (ns.map (Value.int .u8)).toArray w := by
            by_cases h0 : len = 0
            · subst h0
              have : ns = [] := by
                have : (ns.map (Value.int .u8)).length = 0 := by
                  unfold St.cellsAt at hcs
                  split at hcs
                  · split at hcs
                    · rw [← Option.some.inj hcs]; simp
                    · cases hcs
                  · split at hcs
                    · rw [← Option.some.inj hcs]; simp
                    · cases hcs
                  · cases hcs
                simpa using this
              subst this
              simp [loadCells, loadCellsFrom]
            · obtain ⟨cs', hr, hl, hcell⟩ := cellsAt_sim hs hcs (hptr (by omega))
              have hl' := hr.length.trans hl
              have := run_loadCells_list (P := P) w c cs' hcell
              rw [hl'] at this
              rw [this]
              congr 2
              apply List.ext_getElem?
              intro j
              cases hj : (ns.map (Value.int .u8))[j]? with
              | none => rw [List.getElem?_eq_none_iff] at hj ⊢; rw [hr.length]; exact hj
              | some v =>
                obtain ⟨v', q1, q2⟩ := hr.get hj
                rw [q1]
                simp only [List.getElem?_map, Option.map_eq_some_iff] at hj
                obtain ⟨_, _, rfl⟩ := hj
                rw [int_inv q2]
          have := run_bytesToString (P := P) w c len cap ns hload
          simp only [convert, Sem.run_bind, run_under H hta, run_under H htb, Result.andThen_ok, run_under H het]
          rw [this, foldl_push_bytes]
          simp
        · cases hv
      · cases hv
    · cases hv
  · rename_i hta htb; simp [strDst, hta, htb] at hst
  · rename_i e _ _ _ _ _ _ _ _ _ _ c hta htb
    split at hv
    · rename_i n cs sp het hd
      rw [Option.map_eq_some_iff] at hv
      obtain ⟨bs, hbs, e⟩ := hv
      obtain ⟨rfl, rfl⟩ := Prod.mk.inj e
      have hi := tok_inv H hx hd
      obtain ⟨ns, rfl, rfl⟩ := bytes_vals hbs
      refine ⟨rfl, _, ?_, .string _⟩
      generalize hcs : ns.map (Value.int .u8) = cs0 at hi
      cases hi with
      | none =>
        obtain rfl : ns = [] := by simpa using hcs
        simp only [convert, Sem.run_bind, run_under H hta, run_under H htb, Result.andThen_ok, run_under H het, Conv.bytesToString, Sem.run_pure]
        rfl
      | @empty _ cap a =>
        obtain rfl : ns = [] := by simpa using hcs
        have hload : (loadCells a 0).run P w = .ok (([] : List Int).map (Value.int .u8)).toArray w := by simp [loadCells, loadCellsFrom]
        have := run_bytesToString (P := P) w a 0 cap [] hload
        simp only [convert, Sem.run_bind, run_under H hta, run_under H htb, Result.andThen_ok, run_under H het]
        rw [this]
        rfl
      | @slice _ _ cap b o _ _ hz hl hn hc hI =>
        subst hcs
        obtain ⟨cs', hr, hl', hcell⟩ := ice_cells (cs := ns.map (Value.int .u8)) hs fun j v hj => hI _ _ (by rw [List.getElem?_append_left (List.getElem?_eq_some_iff.1 hj).1]; exact hj)
        have hlen : ns.length = n := by simpa using hl
        have e : cs' = ns.map (Value.int .u8) := by
          apply List.ext_getElem?
          intro j
          cases hj : (ns.map (Value.int .u8))[j]? with
          | none => rw [List.getElem?_eq_none_iff] at hj ⊢; rw [hl']; exact hj
          | some v =>
            obtain ⟨v', q1, q2⟩ := hr.get hj
            rw [q1]
            simp only [List.getElem?_map, Option.map_eq_some_iff] at hj
            obtain ⟨_, _, rfl⟩ := hj
            rw [int_inv q2]
        have hload : (loadCells ⟨b, o, none⟩ n).run P w = .ok (ns.map (Value.int .u8)).toArray w := by
          have := run_loadCells_list (P := P) w ⟨b, o, none⟩ cs' fun j v hj => by
            rw [addr_add, hcell j (by rw [← hl']; exact (List.getElem?_eq_some_iff.1 hj).1), hj]
          rw [hl', List.length_map, hlen, e] at this
          exact this
        have := run_bytesToString (P := P) w ⟨b, o, none⟩ n cap ns hload
        simp only [convert, Sem.run_bind, run_under H hta, run_under H htb, Result.andThen_ok, run_under H het]
        rw [this, foldl_push_bytes]
        simp
    · cases hv
  · rename_i hta htb; simp [strDst, hta, htb] at hst
  · rename_i hta htb; simp [strDst, hta, htb] at hst
  · rename_i n1 n2 n3 n4 n5 n6
    rw [Option.map_eq_some_iff] at hv
    obtain ⟨v, hv, e⟩ := hv
    obtain ⟨rfl, rfl⟩ := Prod.mk.inj e
    exact ⟨rfl, conv_sim H hv hx⟩
include H in
theorem convS_sim (hs : SR K β own s.get w) (hw : s.WF) (hf : Free β s s') {a b : TypeId} {x x' r : Value} (hv : convS C s a b x = some (r, s')) (hx : VR β x x') : SimV P K β own s w (convert a b x') r s' ∧ s'.WF := by
  by_cases hst : strDst C a b = true
  · obtain ⟨rfl, h⟩ := convStr_pure H hs hst hv hx
    exact ⟨SimV.same hs h, hw⟩
  unfold convS at hv
  split at hv
  · rename_i _ _ _ _ _ e _ _ _ _ _ bs hta htb
    obtain rfl := string_inv hx
    split at hv
    · rename_i het
      obtain ⟨rfl, rfl⟩ := Prod.mk.inj (Option.some.inj hv)
      obtain ⟨hdx, hsd⟩ := drew_ext hs
      have hge : bs.size ≤ (Question.appendCap bs.size 0 e).cut (w.tape w.drawn (.appendCap bs.size 0 e)) := by simp [Question.cut]
      generalize hcap : (Question.appendCap bs.size 0 e).cut (w.tape w.drawn (.appendCap bs.size 0 e)) = cap at hge
      let row : Array Value := (bs.data.map fun b => Value.int .u8 b.toNat) ++ Array.replicate (cap - bs.size) (.int .u8 0)
      have hrow : row.size = cap := by
        simp only [row, Array.size_append, Array.size_map, Array.size_replicate]
        have : bs.data.size = bs.size := rfl
        omega
      have hl : (bs.data.toList.map fun x => Value.int .u8 (x.toNat : Int)).length = bs.size := by simp
      obtain ⟨x1, x2⟩ := new_arr hsd hf (bs.data.toList.map fun x => Value.int .u8 x.toNat) row e (row.size, row.size + 1) (by rw [St.n_new]; omega) (.inr (Nat.le_refl _)) (by rw [hl]; omega)
        (fun j v hj => by
          have hjl : j < bs.data.size := by
            have := (List.getElem?_eq_some_iff.1 hj).1
            simpa using this
          refine ⟨v, ?_, ?_⟩
          · simp only [row]
            rw [Array.getElem?_append_left (by simpa using hjl)]
            simp only [Array.getElem?_map]
            simpa using hj
          · simp only [List.getElem?_map, Option.map_eq_some_iff] at hj
            obtain ⟨_, _, rfl⟩ := hj
            exact .int _ _)
      refine ⟨⟨_, _, _, .slice (some ⟨w.heap.size, 0, none⟩) bs.size cap, ?_, hdx.trans x1, x2, ?_⟩, hw.new _⟩
      · have hfz := freeze_new w.drew row e
        simp only [convert, Sem.run_bind, run_under H hta, run_under H htb, Result.andThen_ok, run_under H het]
        simp only [Conv.stringToBytes, Sem.run_bind, run_choose, Question.forced, Bool.false_eq_true, if_false, Result.andThen_ok, World.drew_eq, hcap, newRow, run_newObj, Sem.run_pure, World.alloc_eq]
        have hsh : (w.drew.alloc (.cells row e)).shape? w.drew.heap.size = some (e, row.size) := by
          simp only [World.shape?, heap_alloc_new]
        simp only [markStringish, Sem.run_bind, run_shape, Result.andThen_ok]
        rw [show (bs.data.map (fun b => Value.int .u8 (b.toNat : Int)) ++ Array.replicate (cap - bs.size) (.int .u8 0)) = row from rfl, hsh]
        simp only [run_freeze, Result.andThen_ok]
        rw [show ({ block := w.drew.heap.size, off := row.size } : Addr) = ⟨w.drew.heap.size, row.size, none⟩ from rfl, hfz]
        rfl
      · refine .sliceArr (L := ⟨w.heap.size, 0, 0, row.size⟩) (by simp only [Bij.setArr, hl]; simp) (Nat.le_refl _) (by simp) (by omega) (by simp) (.inl ⟨rfl, hge, by simp [hrow]⟩) (fun _ => by have q9 := hge; simp; omega)
    · cases hv
  · rename_i hta htb; exact absurd (by simp [strDst, hta, htb]) hst
  · rename_i e _ _ _ _ _ _ _ _ _ _ _ a0 len sz hta htb
    split at hv
    · rename_i het
      split at hv
      · rename_i cs mv hi hg hsp
        split at hv
        · rename_i hb
          obtain ⟨rfl, hmv, hhi, hpos⟩ := hb
          obtain ⟨rfl, rfl⟩ := Prod.mk.inj (Option.some.inj hv)
          obtain ⟨i, o, sp⟩ := a0
          simp only at hsp
          subst hsp
          cases hx with
          | sliceVir => omega
          | @sliceArr _ _ _ _ _ cap L c hL g1 g2 hz gs hc hbd =>
            have hcb : c.block = L.block := by
              rcases hc with ⟨rfl, _, _⟩ | ⟨h, _⟩
              · rfl
              · omega
            obtain ⟨w', q1, q2, q3⟩ := freeze_sim (P := P) hs hw hg hL hmv c hcb
            refine ⟨⟨β, own, w', .slice (some c) len cap, ?_, q2, q3, .sliceArr hL g1 g2 hz gs hc hbd⟩, hw⟩
            simp only [convert, Sem.run_bind, run_under H hta, Result.andThen_ok, run_under H het, beq_self_eq_true, q1, Sem.run_pure]
        · cases hv
      · cases hv
    · cases hv
  · rename_i hta htb; exact absurd (by simp [strDst, hta, htb]) hst
  · rename_i e _ _ _ _ _ _ _ _ _ _ a hta htb
    split at hv
    · rename_i et cs ty het hg hsp
      split at hv
      · rename_i hc
        obtain ⟨rfl, rfl⟩ := Prod.mk.inj (Option.some.inj hv)
        obtain ⟨i, o, sp⟩ := a
        simp only at hsp hg
        subst hsp
        cases hx with
        | @ptrObj _ _ b hb =>
          obtain ⟨_, _, g3⟩ := hs.obj _ _ hb
          obtain ⟨c, t, e1, hr, _⟩ := g3 _ hg
          obtain ⟨_, j, hj, hsz, _⟩ := H.ty _ _ het
          have hl := hr.length
          rw [Array.length_toList] at hl
          exact ⟨SimV.same hs ⟨_, Lib.run_to_unsafe w ⟨b, o, none⟩ (H.ty _ _ hta).1 (H.ty _ _ htb).1 hj (by rw [hsz]; exact hc.1) (e := t) (cells := c.size) (by simp [World.shape?, e1]) (by have := hc.2; simp only at this ⊢; omega), .ptrObj hb⟩, hw⟩
      · cases hv
    · cases hv
  · rename_i _ _ _ _ _ e _ _ _ _ _ a hta htb
    split at hv
    · rename_i et cs ty het hg hsp
      split at hv
      · rename_i hc
        obtain ⟨h1, h2, h3, h4, h5⟩ := hc
        obtain ⟨rfl, rfl⟩ := Prod.mk.inj (Option.some.inj hv)
        obtain ⟨i, o, sp⟩ := a
        simp only at hsp hg h3
        subst hsp h3 h2
        cases hx with
        | @ptrObj _ _ b hb =>
          obtain ⟨_, _, g3⟩ := hs.obj _ _ hb
          obtain ⟨c, t, e1, hr, ht⟩ := g3 _ hg
          obtain rfl := ht _ rfl
          obtain ⟨_, j, hj, hsz, _⟩ := H.ty _ _ het
          have hl := hr.length
          rw [Array.length_toList] at hl
          have hcz : P.cellsOf t = et.size := by simp [Program.cellsOf, hj, hsz]
          exact ⟨SimV.same hs ⟨_, Lib.run_from_unsafe w ⟨b, 0, none⟩ (H.ty _ _ hta).1 (H.ty _ _ htb).1 hj (e := t) (cells := c.size) (by simp [World.shape?, e1]) (by rw [hl, h4, hcz, Nat.div_self (by omega)]; exact H.lie _ h1), .ptrObj hb⟩, hw⟩
      · cases hv
    · cases hv
  · rename_i n1 n2 n3 n4 n5 n6
    rw [Option.map_eq_some_iff] at hv
    obtain ⟨v, hv, e⟩ := hv
    obtain ⟨rfl, rfl⟩ := Prod.mk.inj e
    exact ⟨SimV.same hs (conv_sim H hv hx), hw⟩
include H in
theorem capB_sim {t ty : TypeId} {x x' r : Value} (hv : capB C t x = some r) (hx : VR β x x') : ∃ v', (Builtin.cap_ #[t] ty #[x']).run P w = .ok v' w ∧ VR β r v' := by
  unfold capB at hv
  split at hv
  · rename_i c hty
    split at hv
    · rename_i hd
      obtain rfl := Option.some.inj hv
      have hi := tok_inv H hx hd
      cases hi with
      | none hz => exact ⟨goInt (0 : Nat), by simp [Builtin.cap_, run_under H hty, goInt], .complex _ _ _ (by simp)⟩
      | @empty _ cap _ hz => exact ⟨goInt (cap : Nat), by simp [Builtin.cap_, run_under H hty, goInt], .complex _ _ _ (by simp)⟩
      | @slice _ _ cap _ _ _ _ hz hl hn hc h =>
        refine ⟨goInt (cap : Nat), by simp [Builtin.cap_, run_under H hty, goInt], .complex _ _ _ ?_⟩
        exact Int.ofNat_le.2 (Nat.div_le_of_le_mul (by rw [Nat.mul_comm]; exact hc))
    · cases hv
  · cases hv
include H in
theorem lenB_sim (hs : SR K β own s.get w) {t ty : TypeId} {x x' r : Value} (hv : lenB C s t x = some r) (hx : VR β x x') : ∃ v', (Builtin.len_ #[t] ty #[x']).run P w = .ok v' w ∧ VR β r v' := by
  unfold lenB at hv
  split at hv
  · rename_i bs hty
    obtain rfl := string_inv hx
    obtain rfl := Option.some.inj hv
    exact ⟨_, by simp [Builtin.len_, run_under H hty, goInt], .int _ _⟩
  · rename_i n _ _ _ _ _ _ _ hty
    obtain rfl := Option.some.inj hv
    exact ⟨_, by simp [Builtin.len_, run_under H hty, goInt], .int _ _⟩
  · rename_i arr _ _ _ _ _ _ _ hty
    split at hv
    · rename_i n _ _ _ _ _ _ harr
      obtain rfl := Option.some.inj hv
      exact ⟨_, by simp [Builtin.len_, run_under H hty, run_under H harr, goInt], .int _ _⟩
    · cases hv
  · rename_i _ _ _ _ _ _ a n c hty
    obtain rfl := Option.some.inj hv
    refine ⟨_, ?_, .int _ _⟩
    cases hx <;> simp [Builtin.len_, run_under H hty, goInt]
  · rename_i hty
    obtain rfl := Option.some.inj hv
    cases hx
    exact ⟨_, by simp [Builtin.len_, run_under H hty, goInt], .int _ _⟩
  · rename_i m hty
    split at hv
    · rename_i es clock hg
      obtain rfl := Option.some.inj hv
      cases hx with
      | map hb =>
        obtain ⟨_, _, h3⟩ := hs.obj _ _ hb
        obtain ⟨es', e, hr⟩ := h3 _ hg
        have hl : es'.toList.length = es.length := hr.length
        refine ⟨goInt es'.size, ?_, ?_⟩
        · simp [Builtin.len_, run_under H hty, getObj, Sem.run, e, goInt]
        · have : es'.size = es.length := by simpa using hl
          rw [this]; exact .int _ _
    · cases hv
  · rename_i c hty
    split at hv
    · rename_i hd
      obtain rfl := Option.some.inj hv
      have hi := tok_inv H hx hd
      refine ⟨_, ?_, .int _ _⟩
      cases hi <;> simp [Builtin.len_, run_under H hty, goInt]
    · rename_i hd
      obtain rfl := Option.some.inj hv
      have hi := tok_inv H hx hd
      refine ⟨_, ?_, .int _ _⟩
      cases hi <;> simp [Builtin.len_, run_under H hty, goInt]
    · cases hv
  · cases hv
end
end Go.Ai