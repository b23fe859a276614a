/-
  append, copy, strings and bytes.
-/
import Derived.Test.YtfnbgfmmlgbfjaaGreatDoorAiOps6
namespace Go.Ai

section
variable {P : Program} {C : Cfg} {K : Code → Prop} (H : CfgOk P C K) {β : Bij} {own : Nat → Option Nat} {s s' : St} {w : World}

/-- an address in a slice -/
theorem slice_ptr {a : Addr} {n sz : Nat} {v : Value} (h : VR β (.slice (some a) n sz) v) : ∃ c cap, v = .slice (some c) n cap ∧ n ≤ cap ∧ (0 < n → VR β (.pointer (some a)) (.pointer (some c))) := by
  cases h with
  | sliceObj hb hz hc =>
    rcases hc with ⟨rfl, h1, _⟩ | ⟨rfl, rfl⟩
    · exact ⟨_, _, rfl, h1, fun _ => .ptrObj hb⟩
    · exact ⟨_, _, rfl, Nat.le_refl _, fun h => by omega⟩
  | sliceArr hL h1 h2 hz hs hc =>
    rcases hc with ⟨rfl, h3, _⟩ | ⟨rfl, rfl⟩
    · exact ⟨_, _, rfl, h3, fun _ => .ptrArr hL h1⟩
    · exact ⟨_, _, rfl, Nat.le_refl _, fun h => by omega⟩

theorem first_sim (hs : SR K β own s.get w) {sz n : Nat} {x x' : Value} {cs : List Value} (h : firstV s sz n x = some cs) (hx : VR β x x') :
    ∃ cs' : Array Value, (Builtin.firstCells sz n x').run P w = .ok cs' w ∧ VRs β cs cs'.toList ∧ cs.length = n * sz := by
  unfold firstV at h
  split at h
  · split at h
    · rename_i hn
      subst hn
      obtain rfl := Option.some.inj h
      cases hx
      exact ⟨#[], by simp [Builtin.firstCells], .nil, by simp⟩
    · cases h
  · rename_i a len sz'
    split at h
    · rename_i hb
      obtain ⟨rfl, hn⟩ := hb
      obtain ⟨c, cap, rfl, hc, hp⟩ := slice_ptr hx
      by_cases h0 : n = 0
      · subst h0
        have : cs = [] := by
          rw [if_pos rfl] at h
          exact (Option.some.inj h).symm
        subst this
        refine ⟨#[], ?_, .nil, by simp⟩
        simp [Builtin.firstCells, loadCells, loadCellsFrom]
      · rw [if_neg h0] at h
        obtain ⟨cs', hr, hl, hcell⟩ := cellsAt_sim hs h (hp (by omega))
        refine ⟨cs'.toArray, ?_, by simpa using hr, hl⟩
        have := run_firstCells_some (P := P) (w := w) sz' n c len cap cs' (hr.length.trans hl) hcell
        exact this
    · cases h
  · rename_i b
    split at h
    · rename_i hb
      obtain ⟨rfl, hn⟩ := hb
      obtain rfl := Option.some.inj h
      obtain rfl := string_inv hx
      refine ⟨(b.extract 0 n).data.map fun b => .int .u8 b.toNat, by simp [Builtin.firstCells], ?_, by simp; exact Nat.min_eq_left hn⟩
      have e : ((b.extract 0 n).data.map fun b => Value.int .u8 b.toNat).toList = (b.data.toList.take n).map fun x => Value.int .u8 x.toNat := by
        simp [ByteArray.extract, ByteArray.copySlice]
      rw [e]
      refine .of rfl fun j v v' hv hv' => ?_
      rw [hv] at hv'
      obtain rfl := Option.some.inj hv'
      simp only [List.getElem?_map, Option.map_eq_some_iff] at hv
      obtain ⟨_, _, rfl⟩ := hv
      exact .int _ _
    · cases h
  · cases h

theorem len_sim {x x' : Value} {n : Nat} (h : lenV x = some n) (hx : VR β x x') : (Builtin.lenOf x').run P w = .ok n w := by
  unfold lenV at h
  split at h
  · obtain rfl := Option.some.inj h
    cases hx <;> rfl
  · obtain rfl := Option.some.inj h
    obtain rfl := string_inv hx; rfl
  · cases h

theorem drew_ext (hs : SR K β own s.get w) : Ext β own s w β own s w.drew ∧ SR K β own s.get w.drew :=
  ⟨⟨Bij.le_refl β, fun _ h => .inl h, Nat.le_refl _, fun _ _ _ => rfl, Nat.le_refl _, fun _ _ _ => ⟨rfl, rfl⟩, rfl, rfl, rfl, fun _ _ => ⟨rfl, rfl⟩⟩, ⟨hs.obj, hs.arr, hs.loc, hs.blk, hs.one, hs.small⟩⟩

theorem size_zeroCells' (z : Array Value) (n : Nat) : (Builtin.zeroCells z n).size = n * z.size := by simp [Builtin.zeroCells]
theorem grownCap_ge' (w : World) (need old : Nat) (e : TypeId) : need ≤ grownCap w need old e := by simp [grownCap, Question.cut]

/-- the model's append, as it goes -/
theorem run_append_any {t ty u e : TypeId} {et : Ty} {z : Value} (ht : (underlying t).run P w = .ok (.slice e) w) (het : C.ty e = some et) (hz : et.zero = some z) (H : CfgOk P C K)
    {d : TypeDesc} (hu : (underlying u).run P w = .ok d w) (hd : ∀ k, d ≠ .int k) (hbp : 0 < et.bytes)
    {base : Option Addr} {sLen sCap n : Nat} {x : Value} (hlen : (Builtin.lenOf x).run P w = .ok n w) {news newsD olds : Array Value}
    (h0 : (Builtin.firstCells et.size n x).run P w = .ok news w) (h1 : (Builtin.firstCells et.size n x).run P w.drew = .ok newsD w.drew)
    (g1 : (Builtin.firstCells et.size sLen (.slice base sLen sCap)).run P w.drew = .ok olds w.drew) :
    (sLen + n ≤ sCap → (Builtin.append_ #[t, u] ty #[.slice base sLen sCap, x]).run P w = ((match base with | some a => storeCells (a.add (sLen * et.size)) news.toList | none => pure () : Sem Unit).run P w).andThen fun _ w' => .ok (.slice base (sLen + n) sCap) w') ∧
    (sCap < sLen + n → (sLen + n) * et.bytes ≤ 140737488355328 → (Builtin.append_ #[t, u] ty #[.slice base sLen sCap, x]).run P w =
      .ok (.slice (some ⟨w.heap.size, 0, none⟩) (sLen + n) (grownCap w (sLen + n) sCap e)) (w.drew.alloc (.cells (olds ++ newsD ++ Builtin.zeroCells z.cells (grownCap w (sLen + n) sCap e - (sLen + n))) e))) := by
  obtain ⟨i, hi, _, _, hby, _⟩ := run_info (P := P) (w := w) H het
  obtain ⟨i2, hi2, _, _, hby2, _⟩ := run_info (P := P) (w := w.drew) H het
  constructor
  · intro hroom
    unfold Builtin.append_
    simp only [List.getElem?_toArray, List.getElem?_cons_zero, List.getElem?_cons_succ, Sem.run_bind, ht, Result.andThen_ok, run_size H het, hu, Sem.run_pure]
    cases d with
    | int k => exact absurd rfl (hd k)
    | _ =>
      simp only [Bool.false_eq_true, if_false, Sem.run_bind, hlen, Result.andThen_ok]
      rw [if_pos hroom]
      simp only [Bool.not_false, if_true, Sem.run_bind, h0, Result.andThen_ok]
      cases base <;> simp
  · intro hgrow hbytes
    have h63 : ¬ (((sLen + n : Nat) : Int) > IntKind.i64.max ∧ (false = true ∨ et.bytes = 0)) := by
      rintro ⟨_, h | h⟩
      · cases h
      · omega
    have h48 : ¬ (Builtin.nextslicecap (sLen + n) sCap * et.bytes > 2 ^ 48) := by
      have := growslice_fits hgrow hbytes
      have e : (2 : Nat) ^ 48 = 281474976710656 := rfl
      rw [e]; omega
    unfold Builtin.append_
    simp only [List.getElem?_toArray, List.getElem?_cons_zero, List.getElem?_cons_succ, Sem.run_bind, ht, Result.andThen_ok, run_size H het, hu, Sem.run_pure]
    cases d with
    | int k => exact absurd rfl (hd k)
    | _ =>
      simp only [Bool.false_eq_true, if_false, Sem.run_bind, hlen, Result.andThen_ok]
      rw [if_neg (by omega)]
      simp only [Sem.run_bind, hi, Result.andThen_ok, hby]
      rw [if_neg (by rintro ⟨_, h | h⟩; exact absurd h (by simp); omega)]
      simp only [Sem.run_bind, hi, Result.andThen_ok, hby]
      rw [if_neg h48]
      simp only [Sem.run_bind, run_choose, Question.forced, Bool.false_eq_true, if_false, Result.andThen_ok, World.drew_eq, hi2, run_askRoom, g1, Bool.not_false, if_true, h1, run_zero H het hz, newRow, run_newObj, Sem.run_pure, World.alloc_eq]
      simp [grownCap]


theorem SliceC.le {c a : Addr} {n cap sz m : Nat} (h : SliceC c a n cap sz m) : n ≤ cap := by
  rcases h with ⟨_, h, _⟩ | ⟨rfl, rfl⟩
  · exact h
  · exact Nat.le_refl _

/-- a row grows where it lies -/
theorem grow_here (hs : SR K β own s.get w) (hw : s.WF) {i : Nat} {cs news news' : List Value} {mv : Nat} {L : ArrLoc} (hg : s.get i = some (.arr cs mv false)) (hL : β.arr i cs.length = some L) (hmv : mv ≤ cs.length)
    (hv : VRs β news news') (h1 : news.all one = true) (hpos : 0 < news.length) (hfit : L.base + (cs.length - L.lo) + news.length ≤ L.size) :
    ∃ w', (storeCells ⟨L.block, L.base + (cs.length - L.lo), none⟩ news').run P w = .ok () w' ∧
      Ext β own s w (β.setArr i (cs.length + news.length) L) own (s.set i (.arr (cs ++ news) mv false)) w' ∧ SR K (β.setArr i (cs.length + news.length) L) own (s.set i (.arr (cs ++ news) mv false)).get w' := by
  obtain ⟨_, gv⟩ := hs.arr _ _ _ hL _ _ _ hg
  obtain ⟨⟨g1, g2, c, t, fr, e, hfr, hcs, g4⟩, gs, go⟩ := gv hmv
  simp only [Bool.false_eq_true, if_false] at go
  have hlt := hw.lt hg
  have hnl := hv.length
  obtain ⟨cur', r1, r2⟩ := run_storeCells_loose (P := P) L.block (L.base + (cs.length - L.lo)) t fr news' 0 c w e (hfr rfl) (by omega) (all_one hv h1)
  rw [Nat.add_zero] at r2
  have hcl : L.base + (cs.length - L.lo) + news'.length ≤ c.toList.length := by simp; omega
  have hcur : cur'.size = c.size := by
    have : cur'.toList.length = c.toList.length := by rw [r2]; exact length_splice _ _ _ hcl
    simpa using this
  have hat : ∀ k, cur'[k]? = (splice c.toList (L.base + (cs.length - L.lo)) news')[k]? := fun k => by rw [← r2, Array.getElem?_toList]
  have hnone : β.arr i (cs.length + news.length) = none := by
    cases h : β.arr i (cs.length + news.length) with
    | none => rfl
    | some M => have := (hs.arr _ _ _ h _ _ _ hg).1; omega
  have hle : β.le (β.setArr i (cs.length + news.length) L) := Bij.le_setArr (.inl hnone)
  refine ⟨_, r1, ?_⟩
  refine change hs (fun j => j = i) (by rintro j rfl; exact ⟨hlt, fun _ => .inr ⟨_, L, hL⟩⟩) (Nat.le_refl _) hle (fun _ _ => rfl) (fun j hj => by funext k; simp [Bij.setArr, hj])
    (fun j hj => by rw [St.get_set, if_neg hj]) (by simp) (fun b hb hno => ⟨rfl, setRow_other w L.block b cur' (by rintro rfl; exact hno i go rfl)⟩) ?_ ?_ ?_ ?_ ?_ (fun b j hb => by simpa using hs.small b j hb) rfl rfl rfl
  · rintro j rfl b hb
    exact absurd ⟨_, L, hL⟩ (hs.one j ⟨b, hb⟩)
  · rintro j rfl hi2 L2 hL2 cs2 mv2 ro2 hc2
    rw [St.get_set, if_pos rfl] at hc2
    obtain ⟨rfl, rfl, rfl⟩ := by simpa using hc2
    simp only [Bij.setArr] at hL2
    split at hL2
    · rename_i e2
      obtain ⟨_, rfl⟩ := e2
      obtain rfl := Option.some.inj hL2
      refine ⟨by simp, fun _ => ⟨⟨by omega, by omega, cur', t, fr, setRow_heap w L.block c cur' t fr e, fun _ => by rw [hcur]; exact hfr rfl, hcur.trans hcs, fun k hk1 hk2 => ?_⟩, by simpa using gs, by simpa using go⟩⟩
      rw [hat, splice_get _ _ _ hcl]
      by_cases hk : k < cs.length
      · obtain ⟨v, v', p1, p2, p3⟩ := g4 k hk1 hk
        exact ⟨v, v', by rw [List.getElem?_append_left hk]; exact p1, by rw [if_neg (by omega)]; simpa using p2, p3.mono hle⟩
      · obtain ⟨x, hx⟩ : ∃ x, news[k - cs.length]? = some x := ⟨news[k - cs.length]'(by omega), by rw [List.getElem?_eq_getElem]⟩
        obtain ⟨x', hx', hxr⟩ := hv.get hx
        exact ⟨x, x', by rw [List.getElem?_append_right (by omega)]; exact hx, by rw [if_pos (by omega), show L.base + (k - L.lo) - (L.base + (cs.length - L.lo)) = k - cs.length from by omega]; exact hx', hxr.mono hle⟩
    · have h0 := (hs.arr _ _ _ hL2 _ _ _ hg).1
      refine ⟨by simp; omega, fun hv2 => ?_⟩
      obtain ⟨⟨q1, q2, c2, t2, fr2, q3, q4, q5, q6⟩, q7, q8⟩ := (hs.arr _ _ _ hL2 _ _ _ hg).2 hv2
      by_cases hb : L2.block = L.block
      · have := hs.loc _ _ _ _ _ hL2 hL hb
        subst this
        refine ⟨⟨q1, q2, cur', t, fr, setRow_heap w _ c cur' t fr e, fun _ => by rw [hcur]; exact hfr rfl, hcur.trans hcs, fun k hk1 hk2 => ?_⟩, by simpa using gs, by simpa using go⟩
        obtain ⟨v, v', p1, p2, p3⟩ := g4 k hk1 (by omega)
        rw [hat, splice_get _ _ _ hcl]
        exact ⟨v, v', by rw [List.getElem?_append_left (by omega)]; exact p1, by rw [if_neg (by omega)]; simpa using p2, p3.mono hle⟩
      · refine ⟨⟨q1, q2, c2, t2, fr2, by rw [setRow_other w _ _ _ hb]; exact q3, q4, q5, fun k hk1 hk2 => ?_⟩, by simpa using q7, q8⟩
        obtain ⟨v, v', p1, p2, p3⟩ := q6 k hk1 hk2
        exact ⟨v, v', by rw [List.getElem?_append_left (by omega)]; exact p1, p2, p3.mono hle⟩
  · rintro j rfl hi2 hi3 L2 L3 e2 e3 hb
    simp only [Bij.setArr] at e2 e3
    split at e2
    · obtain rfl := Option.some.inj e2
      split at e3
      · exact Option.some.inj e3
      · exact hs.loc _ _ _ _ _ hL e3 hb
    · split at e3
      · obtain rfl := Option.some.inj e3
        exact hs.loc _ _ _ _ _ e2 hL hb
      · exact hs.loc _ _ _ _ _ e2 e3 hb
  · rintro j rfl hi2 L2 e2
    simp only [Bij.setArr] at e2
    split at e2
    · obtain rfl := Option.some.inj e2; simpa using gs
    · simpa using hs.blk _ _ _ e2
  · rintro j rfl ⟨b, hb⟩
    exact absurd ⟨_, L, hL⟩ (hs.one j ⟨b, hb⟩)

/-- a row grows in a new block -/
theorem grow_there (hs : SR K β own s.get w) (hw : s.WF) {i o : Nat} {cs news : List Value} {mv hi0 : Nat} {L0 : ArrLoc} (hg : s.get i = some (.arr cs mv false)) (hL : β.arr i hi0 = some L0) (ho : o ≤ cs.length)
    (hpos : 0 < news.length) {c : Array Value} {t : TypeId} (hsz : cs.length - o + news.length ≤ c.size)
    (hc : ∀ j, o ≤ j → j < cs.length + news.length → ∃ v v', (cs ++ news)[j]? = some v ∧ c[j - o]? = some v' ∧ VR β v v') :
    Ext β own s w (β.setArr i (cs.length + news.length) ⟨w.heap.size, o, 0, c.size⟩) (upd own w.heap.size (some i)) (s.set i (.arr (cs ++ news) mv false)) (w.alloc (.cells c t)) ∧
      SR K (β.setArr i (cs.length + news.length) ⟨w.heap.size, o, 0, c.size⟩) (upd own w.heap.size (some i)) (s.set i (.arr (cs ++ news) mv false)).get (w.alloc (.cells c t)) := by
  have hlt := hw.lt hg
  have hnone : β.arr i (cs.length + news.length) = none := by
    cases h : β.arr i (cs.length + news.length) with
    | none => rfl
    | some M => have := (hs.arr _ _ _ h _ _ _ hg).1; omega
  have hle : β.le (β.setArr i (cs.length + news.length) ⟨w.heap.size, o, 0, c.size⟩) := Bij.le_setArr (.inl hnone)
  refine change hs (fun j => j = i) (by rintro j rfl; exact ⟨hlt, fun _ => .inr ⟨_, L0, hL⟩⟩) (Nat.le_refl _) hle (fun _ _ => rfl) (fun j hj => by funext k; simp [Bij.setArr, hj])
    (fun j hj => by rw [St.get_set, if_neg hj]) (by simp) (fun b hb hno => ⟨by simp [upd]; omega, heap_alloc_old w _ b hb⟩) ?_ ?_ ?_ ?_ ?_ ?_ rfl rfl rfl
  · rintro j rfl b hb
    exact absurd ⟨_, L0, hL⟩ (hs.one j ⟨b, hb⟩)
  · rintro j rfl hi2 L2 hL2 cs2 mv2 ro2 hc2
    rw [St.get_set, if_pos rfl] at hc2
    obtain ⟨rfl, rfl, rfl⟩ := by simpa using hc2
    simp only [Bij.setArr] at hL2
    split at hL2
    · rename_i e2
      obtain ⟨_, rfl⟩ := e2
      obtain rfl := Option.some.inj hL2
      refine ⟨by simp, fun _ => ⟨⟨by simp; omega, by simp; omega, c, t, (0, 0), heap_alloc_new w _, fun _ => .inl rfl, rfl, fun k hk1 hk2 => ?_⟩, by simp, by simp [upd]⟩⟩
      obtain ⟨v, v', p1, p2, p3⟩ := hc k hk1 hk2
      exact ⟨v, v', p1, by simpa using p2, p3.mono hle⟩
    · have h0 := (hs.arr _ _ _ hL2 _ _ _ hg).1
      refine ⟨by simp; omega, fun hv2 => ?_⟩
      obtain ⟨⟨q1, q2, c2, t2, fr2, q3, q4, q5, q6⟩, q7, q8⟩ := (hs.arr _ _ _ hL2 _ _ _ hg).2 hv2
      refine ⟨⟨q1, q2, c2, t2, fr2, by rw [heap_alloc_old w _ _ q7]; exact q3, q4, q5, fun k hk1 hk2 => ?_⟩, by simp; omega, ?_⟩
      · obtain ⟨v, v', p1, p2, p3⟩ := q6 k hk1 hk2
        exact ⟨v, v', by rw [List.getElem?_append_left (by omega)]; exact p1, p2, p3.mono hle⟩
      · simp only [upd]; rw [if_neg (by omega)]; exact q8
  · rintro j rfl hi2 hi3 L2 L3 e2 e3 hb
    simp only [Bij.setArr] at e2 e3
    split at e2
    · obtain rfl := Option.some.inj e2
      split at e3
      · exact Option.some.inj e3
      · have := hs.blk _ _ _ e3; simp at hb; omega
    · split at e3
      · obtain rfl := Option.some.inj e3
        have := hs.blk _ _ _ e2; simp at hb; omega
      · exact hs.loc _ _ _ _ _ e2 e3 hb
  · rintro j rfl hi2 L2 e2
    simp only [Bij.setArr] at e2
    split at e2
    · obtain rfl := Option.some.inj e2; simp
    · have := hs.blk _ _ _ e2; simp; omega
  · rintro j rfl ⟨b, hb⟩
    exact absurd ⟨_, L0, hL⟩ (hs.one j ⟨b, hb⟩)
  · intro b j hb
    simp only [upd] at hb
    split at hb
    · rename_i e; subst e; simp
    · have := hs.small b j hb; simp; omega

/-- a row is left, another one takes its place: where it lies, or in a new block -/
theorem fork_row (hs : SR K β own s.get w) (hw : s.WF) (hf : Free β s s') (hn : s.n < s'.n) {i : Nat} {cs : List Value} {mv hi0 : Nat} {L0 : ArrLoc} (hg : s.get i = some (.arr cs mv false)) (hL : β.arr i hi0 = some L0)
    {L : ArrLoc} {own' : Nat → Option Nat} {w' : World} {new : List Value} (hR : ArrR β L new new.length false w'.heap[L.block]?) (hsz : w.heap.size ≤ w'.heap.size) (hLb : L.block < w'.heap.size)
    (hown : own' = upd own L.block (some s.n)) (hOld : L.block < w.heap.size → own L.block = some i) (hoth : ∀ b, b < w.heap.size → b ≠ L.block → w'.heap[b]? = w.heap[b]?)
    (e1 : w'.os = w.os) (e2 : w'.tape = w.tape) (e3 : w'.output = w.output) :
    Ext β own s w (β.setArr s.n new.length L) own' ((s.set i .dead).new (.arr new 0 false)) w' ∧ SR K (β.setArr s.n new.length L) own' ((s.set i .dead).new (.arr new 0 false)).get w' := by
  subst hown
  have hlt := hw.lt hg
  have h1 := hf.obj hn
  have h2 := hf.arr hn
  have hle : β.le (β.setArr s.n new.length L) := Bij.le_setArr (.inl (h2 _))
  have hget : ∀ j, ((s.set i .dead).new (.arr new 0 false)).get j = if j = s.n then some (.arr new 0 false) else if j = i then some .dead else s.get j := by
    intro j; rw [St.get_new, St.n_set, St.get_set]
  refine change hs (fun j => j = i ∨ j = s.n) ?_ (by rw [St.n_new, St.n_set]; omega) hle (fun _ _ => rfl) (fun j hj => by funext k; simp [Bij.setArr]; intro h; exact absurd (.inr h) hj)
    (fun j hj => by rw [hget, if_neg (fun h => hj (.inr h)), if_neg (fun h => hj (.inl h))]) hsz (fun b hb hno => ?_) ?_ ?_ ?_ ?_ ?_ ?_ e1 e2 e3
  · rintro j (rfl | rfl)
    · exact ⟨by rw [St.n_new, St.n_set]; omega, fun _ => .inr ⟨_, L0, hL⟩⟩
    · exact ⟨by rw [St.n_new, St.n_set]; omega, fun h => by omega⟩
  · have : b ≠ L.block := by
      rintro rfl
      exact hno i (hOld hb) (.inl rfl)
    exact ⟨by simp [upd, this], hoth b hb this⟩
  · rintro j (rfl | rfl) b hb
    · exact absurd ⟨_, L0, hL⟩ (hs.one j ⟨b, hb⟩)
    · exfalso
      have : β.obj s.n = some b := hb
      rw [h1] at this; cases this
  · rintro j (rfl | rfl) hi2 L2 hL2 cs2 mv2 ro2 hc2
    · rw [hget, if_neg (by omega), if_pos rfl] at hc2
      cases hc2
    · rw [hget, if_pos rfl] at hc2
      obtain ⟨rfl, rfl, rfl⟩ := by simpa using hc2
      simp only [Bij.setArr] at hL2
      split at hL2
      · rename_i e
        obtain ⟨_, rfl⟩ := e
        obtain rfl := Option.some.inj hL2
        exact ⟨Nat.le_refl _, fun _ => ⟨hR.mono hle, hLb, by simp [upd]⟩⟩
      · rw [h2] at hL2; cases hL2
  · rintro j (rfl | rfl) hi2 hi3 L2 L3 q2 q3 hb
    · simp only [Bij.setArr] at q2 q3
      rw [if_neg (by omega)] at q2 q3
      exact hs.loc _ _ _ _ _ q2 q3 hb
    · simp only [Bij.setArr] at q2 q3
      split at q2
      · split at q3
        · rw [q2] at q3; exact Option.some.inj q3
        · rw [h2] at q3; cases q3
      · rw [h2] at q2; cases q2
  · rintro j (rfl | rfl) hi2 L2 q2
    · simp only [Bij.setArr] at q2
      rw [if_neg (by omega)] at q2
      exact Nat.lt_of_lt_of_le (hs.blk _ _ _ q2) hsz
    · simp only [Bij.setArr] at q2
      split at q2
      · obtain rfl := Option.some.inj q2; exact hLb
      · rw [h2] at q2; cases q2
  · rintro j (rfl | rfl) ⟨b, hb⟩
    · exact absurd ⟨_, L0, hL⟩ (hs.one j ⟨b, hb⟩)
    · exfalso
      have : β.obj s.n = some b := hb
      rw [h1] at this; cases this
  · intro b j hb
    simp only [upd] at hb
    split at hb
    · rename_i e; subst e; exact hLb
    · exact Nat.lt_of_lt_of_le (hs.small b j hb) hsz

end
end Go.Ai
