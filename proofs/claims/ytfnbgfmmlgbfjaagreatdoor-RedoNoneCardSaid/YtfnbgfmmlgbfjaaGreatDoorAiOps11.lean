/-
  Iterators; every operation that is no call of a function.
-/
import Derived.Test.YtfnbgfmmlgbfjaaGreatDoorAiOps10
namespace Go.Ai

section
variable {P : Program} {C : Cfg} {K : Code → Prop} (H : CfgOk P C K) {β : Bij} {own : Nat → Option Nat} {s s' : St} {w : World}

theorem SimV.new_obj (hs : SR K β own s.get w) (hw : s.WF) {s1 : St} (hf : Free β s s1) {m : Sem Value} {o : AObj} {O : Obj} (hn : s1 = s.new o) (ho : ∀ b, ObjR (β.setObj s.n b) K o (some O))
    {v : Value} {v' : Value} (hm : m.run P w = .ok v' (w.alloc O)) (hv : VR (β.setObj s.n w.heap.size) v v') : SimV P K β own s w m v s1 ∧ s1.WF := by
  subst hn
  obtain ⟨x1, x2⟩ := Ai.new_obj hs hf o O (by rw [St.n_new]; omega) (ho _)
  exact ⟨⟨_, _, _, _, hm, x1, x2, hv⟩, hw.new _⟩

theorem setObj_at (β : Bij) (i b : Nat) : (β.setObj i b).obj i = some b := by simp [Bij.setObj]

include H in
theorem range_sim (hs : SR K β own s.get w) (hw : s.WF) (hf : Free β s s') {t : TypeId} {x x' v : Value} (hv : rangeV C s t x = some (v, s')) (hx : VR β x x') : SimV P K β own s w (Instr.range t x') v s' ∧ s'.WF := by
  unfold rangeV at hv
  split at hv
  · rename_i b hty
    obtain ⟨rfl, rfl⟩ := Prod.mk.inj (Option.some.inj hv)
    obtain rfl := string_inv hx
    refine SimV.new_obj (O := .stringIter b 0) hs hw hf rfl (fun _ => rfl) (v' := .pointer (some ⟨w.heap.size, 0, none⟩)) ?_ (.ptrObj (setObj_at _ _ _))
    simp [Instr.range, run_under H hty]
  · rename_i hty
    obtain ⟨rfl, rfl⟩ := Prod.mk.inj (Option.some.inj hv)
    cases hx
    refine SimV.new_obj (O := .mapIter none 0 #[] 0) hs hw hf rfl (fun _ => rfl) (v' := .pointer (some ⟨w.heap.size, 0, none⟩)) ?_ (.ptrObj (setObj_at _ _ _))
    simp [Instr.range, run_under H hty]
  · rename_i m hty
    split at hv
    · rename_i es clock hg
      obtain ⟨rfl, rfl⟩ := Prod.mk.inj (Option.some.inj hv)
      obtain ⟨b, es', rfl, hb, hh, hr⟩ := map_at hs hg hx
      have hne : m ≠ s.n := by
        have := hw.lt hg; omega
      refine SimV.new_obj (O := .mapIter (some b) clock #[] clock) hs hw hf rfl (fun c => ⟨b, by simp [Bij.setObj, hne]; exact hb, rfl⟩) (v' := .pointer (some ⟨w.heap.size, 0, none⟩)) ?_ (.ptrObj (setObj_at _ _ _))
      simp [Instr.range, run_under H hty, run_getMap hh]
    · cases hv
  · cases hv

theorem run_getObj {b : Nat} {O : Obj} (h : w.heap[b]? = some O) (hn : ∀ c t fr, O ≠ .cells c t fr) : (getObj b).run P w = .ok O w := by
  cases O <;> first
    | exact absurd rfl (hn _ _ _)
    | simp [getObj, Sem.run, h]
theorem run_setObj {b : Nat} {O : Obj} (h : w.heap[b]? = some O) (hn : ∀ c t fr, O ≠ .cells c t fr) (O' : Obj) : (setObj b O').run P w = .ok () { w with heap := w.heap.setIfInBounds b O' } := by
  cases O <;> first
    | exact absurd rfl (hn _ _ _)
    | simp [setObj, Sem.run, h]

theorem entry_sim (hs : SR K β own s.get w) {it it' v : Value} (hv : entryV s it = some v) (hx : VR β it it') : ∃ v', (Instr.entry it').run P w = .ok v' w ∧ VR β v v' := by
  unfold entryV at hv
  split at hv
  · rename_i r
    split at hv
    · rename_i m since seen stepped hg
      split at hv
      · rename_i stamp es clock hse hgm
        split at hv
        · rename_i hc
          rw [Option.map_eq_some_iff] at hv
          obtain ⟨e, he, rfl⟩ := hv
          cases hx with
          | ptrObj hb =>
            obtain ⟨_, _, h3⟩ := hs.obj _ _ hb
            obtain ⟨bm, hbm, hO⟩ := h3 _ hg
            obtain ⟨_, _, h4⟩ := hs.obj _ _ hbm
            obtain ⟨es', hm, hr⟩ := h4 _ hgm
            obtain ⟨e', he', hre⟩ := hr.find (fun b => b == stamp) he
            have he2 : es'.find? (fun e => e.born == stamp) = some e' := by
              have := List.find?_toArray (fun e : MapEntry => e.born == stamp) es'.toList
              simp only [Array.toArray_toList] at this
              rw [this]; exact he'
            refine ⟨.tuple #[e'.key, e'.val], ?_, .tuple (.cons (by rw [hre.key]; exact (by
              have := hre.plain
              exact plain_rel this)) (.cons hre.val .nil))⟩
            have hlast : seen.toArray.back? = some stamp := by simpa using hse
            simp only [Instr.entry, Sem.run_bind, run_getObj hO (by intros; simp), Result.andThen_ok, hlast, run_getMap hm]
            rw [if_neg (by simpa using hc)]
            simp only [Sem.run_pure, he2]
        · cases hv
      · cases hv
    · cases hv
  · cases hv
where
  plain_rel {k : Value} (h : keyPlain k = true) : VR β k k := by
    unfold keyPlain at h
    split at h
    · exact .int _ _
    · exact .string _
    · exact .bool _
    · rename_i cs
      refine .agg (.of rfl fun j v v' hv hv' => ?_)
      rw [hv] at hv'
      obtain rfl := Option.some.inj hv'
      have := List.all_eq_true.1 h v (List.mem_of_getElem? hv)
      split at this
      · exact .int _ _
      · exact .string _
      · exact .bool _
      · cases this
    · cases h

theorem plain_rel {β : Bij} {k : Value} (h : keyPlain k = true) : VR β k k := entry_sim.plain_rel h

/-- a step of an iterator: one of the answers -/
theorem next_sim (hs : SR K β own s.get w) (hw : s.WF) {it it' : Value} {isS : Bool} {l : List (Value × St)} (hl : nextV s it isS = some l) (hx : VR β it it') (t : TypeId) :
    ∃ v s', (M.ofList l).Has (v, s') ∧ s'.WF ∧ s'.n = s.n ∧ SimV P K β own s w (Instr.next it' isS t) v s' := by
  unfold nextV at hl
  split at hl
  · rename_i r
    cases hx with
    | @ptrObj _ _ br hb =>
    obtain ⟨_, _, h3⟩ := hs.obj _ _ hb
    split at hl
    · rename_i b pos hg
      have hO : w.heap[br]? = some (.stringIter b pos) := h3 _ hg
      split at hl
      · rename_i hp
        obtain rfl := Option.some.inj hl
        obtain ⟨s1, s2, s3⟩ := setMap w (O' := .stringIter b (pos + (Utf8.decode b pos).2)) hO
        obtain ⟨x1, x2⟩ := set_obj (o := .siter b (pos + (Utf8.decode b pos).2)) hs hw hb hg s1 rfl s3 s2 rfl rfl rfl
        refine ⟨_, _, .ret _, hw.set hg, rfl, β, own, _, .tuple #[.bool true, goInt pos, .int .i32 (Utf8.decode b pos).1], ?_, x1, x2, .tuple (.cons (.bool _) (.cons (.int _ _) (.cons (.int _ _) .nil)))⟩
        simp only [Instr.next, Sem.run_bind, run_getObj hO (by intros; simp), Result.andThen_ok]
        rw [if_pos hp]
        simp only [Sem.run_bind, run_setObj hO (by intros; simp), Result.andThen_ok, Sem.run_pure]
      · rename_i hp
        obtain rfl := Option.some.inj hl
        refine ⟨_, _, .ret _, hw, rfl, SimV.same hs ⟨.tuple #[.bool false], ?_, .tuple (.cons (.bool _) .nil)⟩⟩
        simp only [Instr.next, Sem.run_bind, run_getObj hO (by intros; simp), Result.andThen_ok]
        rw [if_neg hp]; rfl
    · rename_i hg
      have hO : w.heap[br]? = some (.mapIter none _ _ _) := h3 _ hg
      obtain rfl := Option.some.inj hl
      refine ⟨_, _, .ret _, hw, rfl, SimV.same hs ⟨.tuple #[.bool false], ?_, .tuple (.cons (.bool _) .nil)⟩⟩
      simp only [Instr.next, Sem.run_bind, run_getObj hO (by intros; simp), Result.andThen_ok]
      rfl
    · rename_i m since seen last hg
      split at hl
      · rename_i es clock hgm
        split at hl
        · cases hl
        · rename_i hbad
          obtain ⟨bm, hbm, hO⟩ := h3 _ hg
          obtain ⟨_, _, h4⟩ := hs.obj _ _ hbm
          obtain ⟨es', hm, hr⟩ := h4 _ hgm
          have hl := Option.some.inj hl
          -- the entries that are left
          have hbad' : ¬ ((!seen.toArray.isEmpty && !es'.isEmpty && es'.all fun e => decide (e.born ≥ last)) = true) := by
            have e1 : seen.toArray.isEmpty = seen.isEmpty := by cases seen <;> rfl
            have e2 : es'.isEmpty = es.isEmpty := by
              have := hr.length
              cases es <;> cases es' with
              | mk l => cases l <;> simp_all
            have e3 : (es'.all fun e => decide (e.born ≥ last)) = es.all fun e => decide (e.born ≥ last) := by
              have := hr.all fun b => decide (b ≥ last)
              rw [← this]; simp
            rw [e1, e2, e3]; exact hbad
          let left := es.filter fun e => !seen.contains e.born
          let left' := es'.filter fun e => !seen.toArray.contains e.born
          have hleft : EntsR β left left'.toList := by
            have := hr.filter fun b => !seen.contains b
            simpa [left, left'] using this
          let old := left.filter fun e => decide (e.born < since)
          let old' := left'.filter fun e => decide (e.born < since)
          have hold : EntsR β old old'.toList := by simpa [old, old'] using hleft.filter fun b => decide (b < since)
          let new := left.filter fun e => decide (e.born ≥ since)
          let new' := left'.filter fun e => decide (e.born ≥ since)
          have hnew : EntsR β new new'.toList := by simpa [new, new'] using hleft.filter fun b => decide (b ≥ since)
          have hall : EntsR β (old ++ new) (old' ++ new').toList := by simpa using hold.append hnew
          have hemp : old'.isEmpty = old.isEmpty := by
            have := hold.length
            cases h : old <;> cases h' : old' with
            | mk l => cases l <;> simp_all
          let F : MapEntry → Value × St := fun e => (.tuple #[.bool true, e.key, e.val], s.set r (.iter (some m) since (seen ++ [e.born]) clock))
          have hl : ((if old.isEmpty then [(Value.tuple #[.bool false], s)] else []) ++ (old ++ new).map F) = l := hl
          let cands : Array (Option MapEntry) := (if old'.isEmpty then #[none] else #[]) ++ (old' ++ new').map some
          have hsz : cands.size = l.length := by
            rw [← hl]
            simp only [cands, hemp]
            have := hall.length
            simp at this
            split <;> simp <;> omega
          have hpos : 0 < l.length := by
            rw [← hl]
            cases h : old with
            | nil => simp
            | cons => simp
          -- the pick
          obtain ⟨c, w1, hc, hcl, hw1⟩ : ∃ c w1, (choose (.mapNext cands.size)).run P w = .ok c w1 ∧ c < l.length ∧ (w1 = w ∨ w1 = w.drew) := by
            rw [run_choose]
            by_cases h1 : cands.size ≤ 1
            · refine ⟨0, w, by simp [Question.forced, h1], hpos, .inl rfl⟩
            · refine ⟨_, w.drew, by simp [Question.forced, h1]; rfl, ?_, .inr rfl⟩
              simp only [Question.cut]
              rw [hsz]
              exact Nat.mod_lt _ hpos
          have hs1 : Ext β own s w β own s w1 ∧ SR K β own s.get w1 := by
            rcases hw1 with rfl | rfl
            · exact ⟨.refl .., hs⟩
            · exact drew_ext hs
          have hO1 : w1.heap[br]? = some (.mapIter (some bm) since seen.toArray last) := by rcases hw1 with rfl | rfl <;> exact hO
          -- what is picked
          obtain ⟨x, hx⟩ : ∃ x, l[c]? = some x := ⟨l[c], by simp [hcl]⟩
          have hhas : (M.ofList l).Has x := by
            cases l with
            | nil => simp at hcl
            | cons a r =>
              cases r with
              | nil =>
                have : c = 0 := by simp at hcl; omega
                subst this
                simp at hx; subst hx
                exact .ret _
              | cons b r =>
                unfold M.ofList
                refine .ask hcl ?_
                rw [hx]; exact .ret _
          have hrun : ∀ (r1 : Result Value), (do
              let c ← choose (.mapNext cands.size)
              match cands[c]? with
              | some (some e) =>
                setObj br (.mapIter (some bm) since (seen.toArray.push e.born) clock)
                pure (.tuple #[.bool true, e.key, e.val])
              | some none => pure (.tuple #[.bool false])
              | none => stuck "Next: no such candidate" : Sem Value).run P w = r1 → (Instr.next (.pointer (some ⟨br, 0, none⟩)) false t).run P w = r1 := by
            intro r1 h1
            simp only [Instr.next, Sem.run_bind, run_getObj hO (by intros; simp), Result.andThen_ok, run_getMap hm]
            rw [if_neg hbad']
            rw [← h1]
            simp only [Sem.run_bind]
            rfl
          have hcase : (old.isEmpty = true ∧ c = 0 ∧ x = (Value.tuple #[.bool false], s) ∧ cands[c]? = some none) ∨ (∃ e e', x = F e ∧ EntR β e e' ∧ cands[c]? = some (some e')) := by
            rw [← hl] at hx
            by_cases he : old.isEmpty = true
            · simp only [he, if_true] at hx
              cases c with
              | zero =>
                left
                simp only [List.singleton_append, List.getElem?_cons_zero, Option.some.injEq] at hx
                refine ⟨he, rfl, hx.symm, ?_⟩
                simp only [cands, hemp, he, if_true]
                rw [Array.getElem?_append_left (by simp)]
                rfl
              | succ c =>
                right
                simp only [List.singleton_append, List.getElem?_cons_succ, List.getElem?_map, Option.map_eq_some_iff] at hx
                obtain ⟨e, he1, rfl⟩ := hx
                obtain ⟨e', h1, h2⟩ := hall.get he1
                refine ⟨e, e', rfl, h2, ?_⟩
                have h1' : (old' ++ new')[c]? = some e' := by rw [← Array.getElem?_toList]; exact h1
                simp only [cands, hemp, he, if_true]
                rw [Array.getElem?_append_right (by simp)]
                simp only [Array.getElem?_map]
                rw [show c + 1 - (#[none] : Array (Option MapEntry)).size = c from by simp, h1']
                rfl
            · right
              simp only [he, Bool.false_eq_true, if_false, List.nil_append, List.getElem?_map, Option.map_eq_some_iff] at hx
              obtain ⟨e, he1, rfl⟩ := hx
              obtain ⟨e', h1, h2⟩ := hall.get he1
              refine ⟨e, e', rfl, h2, ?_⟩
              have h1' : (old' ++ new')[c]? = some e' := by rw [← Array.getElem?_toList]; exact h1
              simp only [cands, hemp, he, Bool.false_eq_true, if_false]
              simp only [Array.empty_append, Array.getElem?_map, h1']
              rfl
          rcases hcase with ⟨_, _, rfl, hcand⟩ | ⟨e, e', rfl, hre, hcand⟩
          · refine ⟨_, _, hhas, hw, rfl, β, own, w1, .tuple #[.bool false], hrun _ ?_, hs1.1, hs1.2, .tuple (.cons (.bool _) .nil)⟩
            simp only [Sem.run_bind, hc, Result.andThen_ok, hcand, Sem.run_pure]
          · obtain ⟨s1, s2, s3⟩ := setMap w1 (O' := .mapIter (some bm) since (seen.toArray.push e'.born) clock) hO1
            obtain ⟨x1, x2⟩ := set_obj (o := .iter (some m) since (seen ++ [e.born]) clock) hs1.2 hw hb hg s1 ⟨bm, hbm, by rw [hre.born]; simp⟩ s3 s2 rfl rfl rfl
            refine ⟨_, _, hhas, hw.set hg, rfl, β, own, _, .tuple #[.bool true, e'.key, e'.val], hrun _ ?_, hs1.1.trans x1, x2, .tuple (.cons (.bool _) (.cons (by rw [hre.key]; exact plain_rel hre.plain) (.cons hre.val .nil)))⟩
            simp only [Sem.run_bind, hc, Result.andThen_ok, hcand, run_setObj hO1 (by intros; simp), Sem.run_pure]
      · cases hl
    · cases hl
  · cases hl

end
end Go.Ai
