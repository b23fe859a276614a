/-
  copy, strings and bytes, len.
-/
import Derived.Test.YtfnbgfmmlgbfjaaGreatDoorAiOps8
namespace Go.Ai

section
variable {P : Program} {C : Cfg} {K : Code → Prop} (H : CfgOk P C K) {β : Bij} {own : Nat → Option Nat} {s s' : St} {w : World}

include H in
theorem copy_sim (hs : SR K β own s.get w) (hw : s.WF) {t u ty : TypeId} {d x d' x' r : Value} (hv : copyV C s t d x = some (r, s')) (h1 : VR β d d') (h2 : VR β x x') :
    SimV P K β own s w (Builtin.copy_ #[t, u] ty #[d', x']) r s' ∧ s'.WF := by
  unfold copyV at hv
  split at hv
  · rename_i elem _ _ _ _ _ base dlen sz hty
    split at hv
    · rename_i et slen het hsl
      have hlen := len_sim (P := P) (w := w) hsl h2
      dsimp only at hv
      split at hv
      · rename_i h0
        obtain ⟨rfl, rfl⟩ := Prod.mk.inj (Option.some.inj hv)
        -- nothing is copied
        have hd : ∃ b' cap, d' = .slice b' dlen cap := by
          cases h1 <;> exact ⟨_, _, rfl⟩
        obtain ⟨b', cap, rfl⟩ := hd
        have hfirst : ∃ cs : Array Value, (Builtin.firstCells et.size 0 x').run P w = .ok cs w ∧ cs.toList = [] := by
          unfold lenV at hsl
          split at hsl
          · cases h2 <;> exact ⟨#[], by simp [Builtin.firstCells, loadCells, loadCellsFrom], rfl⟩
          · cases h2
            refine ⟨#[], ?_, rfl⟩
            simp [Builtin.firstCells]
          · cases hsl
        obtain ⟨cs, hc1, hc2⟩ := hfirst
        refine ⟨⟨β, own, w, goInt 0, ?_, .refl .., hs, .int _ _⟩, hw⟩
        simp only [Builtin.copy_, List.getElem?_toArray, List.getElem?_cons_zero, List.getElem?_cons_succ, Sem.run_bind, run_under H hty, Result.andThen_ok, hlen, run_size H het, h0, hc1, hc2]
        cases b' <;> simp [storeCells]
      · rename_i h0
        split at hv
        · rename_i a
          split at hv
          · rename_i hsz
            subst hsz
            split at hv
            · rename_i cs hcs
              rw [Option.map_eq_some_iff] at hv
              obtain ⟨s1, hp, e⟩ := hv
              obtain ⟨rfl, rfl⟩ := Prod.mk.inj e
              obtain ⟨c, cap, rfl, hle, hptr⟩ := slice_ptr h1
              have hpos : 0 < dlen := by
                rcases Nat.eq_zero_or_pos dlen with h | h
                · exfalso; apply h0; rw [h]; exact Nat.min_zero _
                · exact h
              obtain ⟨cs', f1, f2, f3⟩ := first_sim (P := P) hs hcs h2
              obtain ⟨w', q1, q2, q3, q4, q5⟩ := putCells_sim (P := P) hs hw hp (hptr hpos) f2
              refine ⟨⟨_, _, w', _, ?_, q2, q3, .int _ _⟩, q4⟩
              simp only [Builtin.copy_, List.getElem?_toArray, List.getElem?_cons_zero, List.getElem?_cons_succ, Sem.run_bind, run_under H hty, Result.andThen_ok, hlen, run_size H het, f1, q1]
              rfl
            · cases hv
          · cases hv
        · cases hv
    · cases hv
  · cases hv

theorem freeze_new (w : World) (c : Array Value) (t : TypeId) : (w.alloc (.cells c t)).freeze ⟨w.heap.size, c.size, none⟩ 1 = w.alloc (.cells c t (c.size, c.size + 1)) := by
  unfold World.freeze World.alloc
  simp only [Nat.one_ne_zero, if_false]
  congr 1
  apply Array.ext
  · simp
  · intro i h1 h2
    simp only [Array.getElem_modify]
    by_cases e : w.heap.size = i
    · subst e; simp
    · have : i < w.heap.size := by simp at h2; omega
      simp [e, Array.getElem_push, this]

theorem frozen_loose {fr : Nat × Nat} {n : Nat} (h : Loose fr n) : Loose (if fr.1 == fr.2 then (n, n + 1) else (min fr.1 n, max fr.2 (n + 1))) n := by
  rcases h with h | h
  · rw [h]; simp [Loose]
  · by_cases e : fr.1 = fr.2
    · simp [e, Loose]
    · simp [e, Loose, Nat.min_eq_right h]

theorem freeze_heap (w : World) {b : Nat} {c : Array Value} {t : TypeId} {fr : Nat × Nat} (hb : w.heap[b]? = some (.cells c t fr)) (n : Nat) :
    (w.freeze ⟨b, n, none⟩ 1).heap[b]? = some (.cells c t (if fr.1 == fr.2 then (n, n + 1) else (min fr.1 n, max fr.2 (n + 1)))) := by
  have hlt : b < w.heap.size := (Array.getElem?_eq_some_iff.1 hb).1
  have hv : w.heap[b] = .cells c t fr := (Array.getElem?_eq_some_iff.1 hb).2
  unfold World.freeze
  simp only [Nat.one_ne_zero, if_false]
  rw [Array.getElem?_eq_getElem (by simpa using hlt), Array.getElem_modify]
  simp [hv]
theorem freeze_other (w : World) {b k : Nat} (h : k ≠ b) (n : Nat) : (w.freeze ⟨b, n, none⟩ 1).heap[k]? = w.heap[k]? := by
  unfold World.freeze
  simp [Array.getElem?_modify, Ne.symm h]
theorem freeze_size (w : World) (b n : Nat) : (w.freeze ⟨b, n, none⟩ 1).heap.size = w.heap.size := by simp [World.freeze]

/-- a row is marked behind its end -/
theorem freeze_sim (hs : SR K β own s.get w) (hw : s.WF) {i hi : Nat} {cs : List Value} {mv : Nat} {L : ArrLoc} (hg : s.get i = some (.arr cs mv false)) (hL : β.arr i hi = some L) (hmv : mv ≤ hi) (c : Addr) (hc : c.block = L.block) :
    ∃ w', (markStringish c).run P w = .ok () w' ∧ Ext β own s w β own s w' ∧ SR K β own s.get w' := by
  obtain ⟨_, gv⟩ := hs.arr _ _ _ hL _ _ _ hg
  obtain ⟨⟨g1, g2, cc, t, fr, e, hfr, hcs, g4⟩, gs, go⟩ := gv hmv
  simp only [Bool.false_eq_true, if_false] at go
  have hlt := hw.lt hg
  have hsh : w.shape? L.block = some (t, cc.size) := by simp [World.shape?, e]
  refine ⟨w.freeze ⟨L.block, cc.size, none⟩ 1, by simp only [markStringish, Sem.run_bind, run_shape, Result.andThen_ok, hc, hsh, run_freeze], ?_⟩
  have hN := freeze_heap w e cc.size
  have hO : ∀ k, k ≠ L.block → (w.freeze ⟨L.block, cc.size, none⟩ 1).heap[k]? = w.heap[k]? := fun k hk => freeze_other w hk _
  have hS := freeze_size w L.block cc.size
  refine change hs (fun j => j = i) (by rintro j rfl; exact ⟨hlt, fun _ => .inr ⟨_, L, hL⟩⟩) (Nat.le_refl _) (Bij.le_refl β) (fun _ _ => rfl) (fun _ _ => rfl) (fun _ _ => rfl) (by omega)
    (fun b hb hno => ⟨rfl, hO b (by rintro rfl; exact hno i go rfl)⟩) ?_ ?_ ?_ ?_ ?_ (fun b j hb => by have := hs.small b j hb; omega) rfl rfl rfl
  · rintro j rfl b hb
    exact absurd ⟨_, L, hL⟩ (hs.one j ⟨b, hb⟩)
  · rintro j rfl hi2 L2 hL2 cs2 mv2 ro2 hc2
    obtain ⟨h0, hv⟩ := hs.arr _ _ _ hL2 _ _ _ hc2
    refine ⟨h0, fun hmv2 => ?_⟩
    obtain ⟨⟨q1, q2, c2, t2, fr2, q3, q4, q5, q6⟩, q7, q8⟩ := hv hmv2
    by_cases hb : L2.block = L.block
    · rw [hb] at q3
      rw [e] at q3
      obtain ⟨rfl, rfl, rfl⟩ := by simpa using q3
      refine ⟨⟨q1, q2, cc, t, _, by rw [hb]; exact hN, fun _ => frozen_loose (hfr rfl), q5, q6⟩, by omega, q8⟩
    · exact ⟨⟨q1, q2, c2, t2, fr2, by rw [hO _ hb]; exact q3, q4, q5, q6⟩, by omega, q8⟩
  · rintro j rfl; exact hs.loc j
  · rintro j rfl hi2 L2 hL2; have := hs.blk j hi2 L2 hL2; omega
  · rintro j rfl h; exact hs.one j h

theorem EntsR.length {l l' : List MapEntry} (h : EntsR β l l') : l'.length = l.length := by
  induction h with
  | nil => rfl
  | cons _ _ ih => simp [ih]

theorem bytes_vals : ∀ {l : List Value} {bs : List UInt8}, bytesOf l = some bs → ∃ ns : List Int, l = ns.map (Value.int .u8) ∧ bs = ns.map fun n => UInt8.ofNat n.toNat
  | [], bs, h => by obtain rfl := Option.some.inj h; exact ⟨[], rfl, rfl⟩
  | .int .u8 n :: r, bs, h => by
    unfold bytesOf at h
    rw [Option.map_eq_some_iff] at h
    obtain ⟨b, hb, rfl⟩ := h
    obtain ⟨ns, rfl, rfl⟩ := bytes_vals hb
    exact ⟨n :: ns, rfl, rfl⟩
  | .bool _ :: _, bs, h => by simp [bytesOf] at h
  | .float _ _ :: _, bs, h => by simp [bytesOf] at h
  | .complex _ _ _ :: _, bs, h => by simp [bytesOf] at h
  | .string _ :: _, bs, h => by simp [bytesOf] at h
  | .pointer _ :: _, bs, h => by simp [bytesOf] at h
  | .slice _ _ _ :: _, bs, h => by simp [bytesOf] at h
  | .map _ :: _, bs, h => by simp [bytesOf] at h
  | .chan _ :: _, bs, h => by simp [bytesOf] at h
  | .func _ _ _ :: _, bs, h => by simp [bytesOf] at h
  | .nilFunc :: _, bs, h => by simp [bytesOf] at h
  | .iface _ _ :: _, bs, h => by simp [bytesOf] at h
  | .nilIface :: _, bs, h => by simp [bytesOf] at h
  | .agg _ :: _, bs, h => by simp [bytesOf] at h
  | .tuple _ :: _, bs, h => by simp [bytesOf] at h
  | .int .i8 _ :: _, bs, h => by simp [bytesOf] at h
  | .int .i16 _ :: _, bs, h => by simp [bytesOf] at h
  | .int .i32 _ :: _, bs, h => by simp [bytesOf] at h
  | .int .i64 _ :: _, bs, h => by simp [bytesOf] at h
  | .int .u16 _ :: _, bs, h => by simp [bytesOf] at h
  | .int .u32 _ :: _, bs, h => by simp [bytesOf] at h
  | .int .u64 _ :: _, bs, h => by simp [bytesOf] at h


include H in
theorem convS_sim (hs : SR K β own s.get w) (hw : s.WF) (hf : Free β s s') {a b : TypeId} {x x' r : Value} (hv : convS C s a b x = some (r, s')) (hx : VR β x x') : SimV P K β own s w (convert a b x') r s' ∧ s'.WF := by
  unfold convS at hv
  split at hv
  · rename_i _ _ _ _ _ e _ _ _ _ _ bs hta htb
    obtain rfl := string_inv hx
    split at hv
    · rename_i het
      obtain ⟨rfl, rfl⟩ := Prod.mk.inj (Option.some.inj hv)
      obtain ⟨hdx, hsd⟩ := drew_ext hs
      have hge : bs.size ≤ (Question.appendCap bs.size 0 e).cut (w.tape w.drawn (.appendCap bs.size 0 e)) := by simp [Question.cut]
      generalize hcap : (Question.appendCap bs.size 0 e).cut (w.tape w.drawn (.appendCap bs.size 0 e)) = cap at hge
      let row : Array Value := (bs.data.map fun b => Value.int .u8 b.toNat) ++ Array.replicate (cap - bs.size) (.int .u8 0)
      have hrow : row.size = cap := by
        simp only [row, Array.size_append, Array.size_map, Array.size_replicate]
        have : bs.data.size = bs.size := rfl
        omega
      have hl : (bs.data.toList.map fun x => Value.int .u8 (x.toNat : Int)).length = bs.size := by simp
      obtain ⟨x1, x2⟩ := new_arr hsd hf (bs.data.toList.map fun x => Value.int .u8 x.toNat) row e (row.size, row.size + 1) (by rw [St.n_new]; omega) (.inr (Nat.le_refl _)) (by rw [hl]; omega)
        (fun j v hj => by
          have hjl : j < bs.data.size := by
            have := (List.getElem?_eq_some_iff.1 hj).1
            simpa using this
          refine ⟨v, ?_, ?_⟩
          · simp only [row]
            rw [Array.getElem?_append_left (by simpa using hjl)]
            simp only [Array.getElem?_map]
            simpa using hj
          · simp only [List.getElem?_map, Option.map_eq_some_iff] at hj
            obtain ⟨_, _, rfl⟩ := hj
            exact .int _ _)
      refine ⟨⟨_, _, _, .slice (some ⟨w.heap.size, 0, none⟩) bs.size cap, ?_, hdx.trans x1, x2, ?_⟩, hw.new _⟩
      · have hfz := freeze_new w.drew row e
        simp only [convert, Sem.run_bind, run_under H hta, run_under H htb, Result.andThen_ok, run_under H het]
        simp only [Conv.stringToBytes, Sem.run_bind, run_choose, Question.forced, Bool.false_eq_true, if_false, Result.andThen_ok, World.drew_eq, hcap, newRow, run_newObj, Sem.run_pure, World.alloc_eq]
        have hsh : (w.drew.alloc (.cells row e)).shape? w.drew.heap.size = some (e, row.size) := by
          simp only [World.shape?, heap_alloc_new]
        simp only [markStringish, Sem.run_bind, run_shape, Result.andThen_ok]
        rw [show (bs.data.map (fun b => Value.int .u8 (b.toNat : Int)) ++ Array.replicate (cap - bs.size) (.int .u8 0)) = row from rfl, hsh]
        simp only [run_freeze, Result.andThen_ok]
        rw [show ({ block := w.drew.heap.size, off := row.size } : Addr) = ⟨w.drew.heap.size, row.size, none⟩ from rfl, hfz]
        rfl
      · refine .sliceArr (L := ⟨w.heap.size, 0, 0, row.size⟩) (by simp only [Bij.setArr, hl]; simp) (Nat.le_refl _) (by simp) (by omega) (by simp) (.inl ⟨rfl, hge, by simp [hrow]⟩)
    · cases hv
  · rename_i e _ _ _ _ _ _ _ _ _ _ a0 len sz hta htb
    split at hv
    · rename_i _ _ het
      obtain ⟨rfl, rfl⟩ := Prod.mk.inj (Option.some.inj hv)
      cases hx
      refine ⟨SimV.same hs ⟨_, ?_, .string _⟩, hw⟩
      simp only [convert, Sem.run_bind, run_under H hta, run_under H htb, Result.andThen_ok, run_under H het, Conv.bytesToString, Sem.run_pure]
    · rename_i a1 het
      split at hv
      · rename_i h0
        subst h0
        obtain ⟨rfl, rfl⟩ := Prod.mk.inj (Option.some.inj hv)
        obtain ⟨c, cap, rfl, hle, hptr⟩ := slice_ptr hx
        refine ⟨SimV.same hs ⟨_, ?_, .string _⟩, hw⟩
        have hload : (loadCells c 0).run P w = .ok (([] : List Int).map (Value.int .u8)).toArray w := by simp [loadCells, loadCellsFrom]
        have := run_bytesToString (P := P) w c 0 cap [] hload
        simp only [convert, Sem.run_bind, run_under H hta, run_under H htb, Result.andThen_ok, run_under H het]
        rw [this]
        rfl
      split at hv
      · rename_i hsz
        subst hsz
        split at hv
        · rename_i cs hcs
          rw [Option.map_eq_some_iff] at hv
          obtain ⟨bs, hbs, e⟩ := hv
          obtain ⟨rfl, rfl⟩ := Prod.mk.inj e
          obtain ⟨c, cap, rfl, hle, hptr⟩ := slice_ptr hx
          obtain ⟨ns, rfl, rfl⟩ := bytes_vals hbs
          refine ⟨SimV.same hs ⟨_, ?_, .string _⟩, hw⟩
          have hload : (loadCells c len).run P w = .ok (ns.map (Value.int .u8)).toArray w := by
            by_cases h0 : len = 0
            · subst h0
              have : ns = [] := by
                have : (ns.map (Value.int .u8)).length = 0 := by
                  unfold St.cellsAt at hcs
                  split at hcs
                  · split at hcs
                    · rw [← Option.some.inj hcs]; simp
                    · cases hcs
                  · split at hcs
                    · rw [← Option.some.inj hcs]; simp
                    · cases hcs
                  · cases hcs
                simpa using this
              subst this
              simp [loadCells, loadCellsFrom]
            · obtain ⟨cs', hr, hl, hcell⟩ := cellsAt_sim hs hcs (hptr (by omega))
              have hl' := hr.length.trans hl
              have := run_loadCells_list (P := P) w c cs' hcell
              rw [hl'] at this
              rw [this]
              congr 2
              -- the cells are the same
              apply List.ext_getElem?
              intro j
              cases hj : (ns.map (Value.int .u8))[j]? with
              | none => rw [List.getElem?_eq_none_iff] at hj ⊢; rw [hr.length]; exact hj
              | some v =>
                obtain ⟨v', q1, q2⟩ := hr.get hj
                rw [q1]
                simp only [List.getElem?_map, Option.map_eq_some_iff] at hj
                obtain ⟨_, _, rfl⟩ := hj
                rw [int_inv q2]
          have := run_bytesToString (P := P) w c len cap ns hload
          simp only [convert, Sem.run_bind, run_under H hta, run_under H htb, Result.andThen_ok, run_under H het]
          rw [this, foldl_push_bytes]
          simp
        · cases hv
      · cases hv
    · cases hv
  · rename_i e _ _ _ _ _ _ _ _ _ _ _ a0 len sz hta htb
    split at hv
    · rename_i het
      split at hv
      · rename_i cs mv hi hg hsp
        split at hv
        · rename_i hb
          obtain ⟨rfl, hmv, hhi, hpos⟩ := hb
          obtain ⟨rfl, rfl⟩ := Prod.mk.inj (Option.some.inj hv)
          obtain ⟨i, o, sp⟩ := a0
          simp only at hsp
          subst hsp
          cases hx with
          | @sliceArr _ _ _ _ _ cap L c hL g1 g2 hz gs hc =>
            have hcb : c.block = L.block := by
              rcases hc with ⟨rfl, _, _⟩ | ⟨h, _⟩
              · rfl
              · omega
            obtain ⟨w', q1, q2, q3⟩ := freeze_sim (P := P) hs hw hg hL hmv c hcb
            refine ⟨⟨β, own, w', .slice (some c) len cap, ?_, q2, q3, .sliceArr hL g1 g2 hz gs hc⟩, hw⟩
            simp only [convert, Sem.run_bind, run_under H hta, Result.andThen_ok, run_under H het, beq_self_eq_true, q1, Sem.run_pure]
        · cases hv
      · cases hv
    · cases hv
  · rename_i n1 n2 n3
    rw [Option.map_eq_some_iff] at hv
    obtain ⟨v, hv, e⟩ := hv
    obtain ⟨rfl, rfl⟩ := Prod.mk.inj e
    exact ⟨SimV.same hs (conv_sim H hv hx), hw⟩

include H in
theorem lenB_sim (hs : SR K β own s.get w) {t ty : TypeId} {x x' r : Value} (hv : lenB C s t x = some r) (hx : VR β x x') : ∃ v', (Builtin.len_ #[t] ty #[x']).run P w = .ok v' w ∧ VR β r v' := by
  unfold lenB at hv
  split at hv
  · rename_i bs hty
    obtain rfl := string_inv hx
    obtain rfl := Option.some.inj hv
    exact ⟨_, by simp [Builtin.len_, run_under H hty, goInt], .int _ _⟩
  · rename_i n _ _ _ _ _ _ _ hty
    obtain rfl := Option.some.inj hv
    exact ⟨_, by simp [Builtin.len_, run_under H hty, goInt], .int _ _⟩
  · rename_i arr _ _ _ _ _ _ _ hty
    split at hv
    · rename_i n _ _ _ _ _ _ harr
      obtain rfl := Option.some.inj hv
      exact ⟨_, by simp [Builtin.len_, run_under H hty, run_under H harr, goInt], .int _ _⟩
    · cases hv
  · rename_i _ _ _ _ _ _ a n c hty
    obtain rfl := Option.some.inj hv
    refine ⟨_, ?_, .int _ _⟩
    cases hx <;> simp [Builtin.len_, run_under H hty, goInt]
  · rename_i hty
    obtain rfl := Option.some.inj hv
    cases hx
    exact ⟨_, by simp [Builtin.len_, run_under H hty, goInt], .int _ _⟩
  · rename_i m hty
    split at hv
    · rename_i es clock hg
      obtain rfl := Option.some.inj hv
      cases hx with
      | map hb =>
        obtain ⟨_, _, h3⟩ := hs.obj _ _ hb
        obtain ⟨es', e, hr⟩ := h3 _ hg
        have hl : es'.toList.length = es.length := hr.length
        refine ⟨goInt es'.size, ?_, ?_⟩
        · simp [Builtin.len_, run_under H hty, getObj, Sem.run, e, goInt]
        · have : es'.size = es.length := by simpa using hl
          rw [this]; exact .int _ _
    · cases hv
  · cases hv

end
end Go.Ai
