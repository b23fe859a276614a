/-
  append, copy, strings and bytes: as operations.
-/
import Derived.Test.YtfnbgfmmlgbfjaaGreatDoorAiOps7
namespace Go.Ai

section
variable {P : Program} {C : Cfg} {K : Code → Prop} (H : CfgOk P C K) {β : Bij} {own : Nat → Option Nat} {s s' : St} {w : World}

include H in
theorem append_sim (hs : SR K β own s.get w) (hw : s.WF) (hf : Free β s s') {t u ty : TypeId} {v x v' x' r : Value} (hv : appendV C s t v x = some (r, s')) {uty : Ty} (hu : C.ty u = some uty) (hud : ∀ k, uty.desc ≠ .int k)
    (h1 : VR β v v') (h2 : VR β x x') : SimV P K β own s w (Builtin.append_ #[t, u] ty #[v', x']) r s' ∧ s'.WF := by
  obtain ⟨hdx, hsd⟩ := drew_ext hs
  unfold appendV at hv
  split at hv
  · rename_i elem _ _ _ _ _ hty
    split at hv
    · rename_i desc sz bytes z meth cmp het
      split at hv
      · rename_i hb
        obtain ⟨b1, b2, b3⟩ := hb
        split at hv
        · cases hv
        · rename_i n hn
          split at hv
          · cases hv
          · rename_i news hnews
            have hlen := len_sim (P := P) (w := w) hn h2
            obtain ⟨news', hnr, hnv, hnl⟩ := first_sim (P := P) hs hnews h2
            obtain ⟨newsD, hnrD, hnvD, _⟩ := first_sim (P := P) hsd hnews h2
            have hnl' : news'.size = n * sz := by have := hnv.length; simp at this; omega
            have hnlD : newsD.size = n * sz := by have := hnvD.length; simp at this; omega
            split at hv
            · -- onto nil
              cases h1
              have R := run_append_any (P := P) (ty := ty) (run_under H hty) het rfl H (run_under H hu) hud b3 (base := none) (sLen := 0) (sCap := 0) hlen hnr hnrD (olds := #[]) (by simp [Builtin.firstCells])
              split at hv
              · rename_i h0
                subst h0
                obtain ⟨rfl, rfl⟩ := Prod.mk.inj (Option.some.inj hv)
                exact ⟨⟨β, own, w, .slice none 0 0, by rw [R.1 (Nat.le_refl _)]; rfl, .refl .., hs, .sliceNil⟩, hw⟩
              · rename_i h0
                split at hv
                · rename_i hby
                  obtain ⟨hby, hone⟩ := hby
                  obtain ⟨rfl, rfl⟩ := Prod.mk.inj (Option.some.inj hv)
                  have R2 := R.2 (by omega) (by rw [Nat.zero_add]; exact hby)
                  have hge := grownCap_ge' w (0 + n) 0 elem
                  have hcs : (#[] ++ newsD ++ Builtin.zeroCells z.cells (grownCap w (0 + n) 0 elem - (0 + n)) : Array Value).size = grownCap w (0 + n) 0 elem * sz := by
                    simp only [Array.size_append, size_zeroCells', hnlD, ← b1]
                    rw [Nat.sub_mul]
                    have : (0 + n) * sz ≤ grownCap w (0 + n) 0 elem * sz := Nat.mul_le_mul_right _ hge
                    simp at this ⊢; omega
                  obtain ⟨x1, x2⟩ := new_arr hsd hf news (#[] ++ newsD ++ Builtin.zeroCells z.cells (grownCap w (0 + n) 0 elem - (0 + n))) elem (0, 0) (by rw [St.n_new]; omega) (.inl rfl)
                    (by simp; omega) (fun j v hj => by
                      obtain ⟨v', q1, q2⟩ := hnvD.get hj
                      refine ⟨v', ?_, q2⟩
                      have : newsD[j]? = some v' := by simpa using q1
                      rw [Array.getElem?_append_left (by have := (Array.getElem?_eq_some_iff.1 this).1; simp; omega)]
                      simpa using this)
                  refine ⟨⟨_, _, _, _, R2, hdx.trans x1, x2, ?_⟩, hw.new _⟩
                  rw [Nat.zero_add]
                  refine .sliceArr (L := ⟨w.heap.size, 0, 0, (#[] ++ newsD ++ Builtin.zeroCells z.cells (grownCap w (0 + n) 0 elem - (0 + n))).size⟩) ?_ (Nat.le_refl _) (by simp) b2 (by simp) (.inl ⟨rfl, by simpa using hge, ?_⟩)
                  · simp [Bij.setArr, hnl]
                  · rw [hcs]; simp
                · cases hv
            · rename_i a len sz'
              split at hv
              · rename_i hsz
                subst hsz
                obtain ⟨c, cap, rfl, hle, hptr⟩ := slice_ptr h1
                split at hv
                · rename_i h0
                  subst h0
                  obtain ⟨rfl, rfl⟩ := Prod.mk.inj (Option.some.inj hv)
                  have hnn : news'.toList = [] := by
                    have := hnl'
                    simp at this; simpa using this
                  have hfc : ∃ olds : Array Value, True := ⟨#[], trivial⟩
                  have run0 : (Builtin.append_ #[t, u] ty #[.slice (some c) len cap, x']).run P w = .ok (.slice (some c) len cap) w := by
                    have hu' := run_under (w := w) H hu
                    unfold Builtin.append_
                    simp only [List.getElem?_toArray, List.getElem?_cons_zero, List.getElem?_cons_succ, Sem.run_bind, run_under H hty, Result.andThen_ok, run_size H het, hu', Sem.run_pure]
                    cases hd : uty.desc with
                    | int k => exact absurd hd (hud k)
                    | _ =>
                      simp only [Bool.false_eq_true, if_false, Sem.run_bind, hlen, Result.andThen_ok]
                      rw [if_pos (by omega)]
                      simp only [Bool.not_false, if_true, Sem.run_bind, hnr, Result.andThen_ok, hnn]
                      simp [storeCells]
                  exact ⟨⟨β, own, w, _, run0, .refl .., hs, h1⟩, hw⟩
                · rename_i h0
                  split at hv
                  · rename_i hby
                    obtain ⟨hby, hone⟩ := hby
                    split at hv
                    · rename_i cs mv hi hg hsp
                      split at hv
                      · rename_i hval
                        obtain ⟨hmv, hhi, hend⟩ := hval
                        -- the old cells, in w.drew
                        have hcat : firstV s sz' len (.slice (some a) len sz') = some ((cs.drop a.off).take (len * sz')) := by
                          simp only [firstV, and_self, Nat.le_refl, if_true]
                          by_cases hl0 : len = 0
                          · rw [if_pos hl0, hl0]; simp
                          · rw [if_neg hl0]
                            unfold St.cellsAt
                            rw [hg, hsp]
                            simp only
                            rw [if_pos ⟨hmv, hhi, hend⟩]
                        obtain ⟨olds, ho1, ho2, ho3⟩ := first_sim (P := P) hsd hcat h1
                        have hol : olds.size = len * sz' := by have := ho2.length; simp only [Array.length_toList] at this; omega
                        have R := run_append_any (P := P) (ty := ty) (run_under H hty) het rfl H (run_under H hu) hud b3 (base := some c) (sLen := len) (sCap := cap) hlen hnr hnrD ho1
                        obtain ⟨i, o, sp⟩ := a
                        simp only at hsp
                        subst hsp
                        cases h1 with
                        | @sliceArr _ _ _ _ _ _ L _ hL g1 g2 hz gs hc =>
                        have hsub := (hs.arr _ _ _ hL _ _ _ hg)
                        by_cases hroom : len + n ≤ cap
                        · -- in place
                          rcases hc with ⟨rfl, _, hcap⟩ | ⟨rfl, rfl⟩
                          · have hmulc : (len + n) * sz' ≤ cap * sz' := Nat.mul_le_mul_right _ hroom
                            rw [Nat.add_mul] at hmulc
                            have R1 := R.1 hroom
                            simp only [addr_add] at R1
                            split at hv
                            · rename_i hfull
                              obtain ⟨rfl, rfl⟩ := Prod.mk.inj (Option.some.inj hv)
                              simp only at hfull
                              have ehi : hi = cs.length := by omega
                              subst ehi
                              have hnpos : 0 < n * sz' := Nat.mul_pos (by omega) b2
                              obtain ⟨w', q1, q2, q3⟩ := grow_here (P := P) hs hw hg hL (by omega) hnv hone (by omega) (by omega)
                              rw [show L.base + (cs.length - L.lo) = L.base + (o - L.lo) + len * sz' from by omega] at q1
                              rw [q1] at R1
                              rw [hnl] at q2 q3
                              refine ⟨⟨_, _, _, _, R1, q2, q3, ?_⟩, hw.set hg⟩
                              refine .sliceArr (L := L) (by simp [Bij.setArr]) g1 (by rw [Nat.add_mul]; omega) hz gs (.inl ⟨rfl, hroom, hcap⟩)
                            · rename_i hfull
                              obtain ⟨rfl, rfl⟩ := Prod.mk.inj (Option.some.inj hv)
                              obtain ⟨⟨p1, p2, cc, tt, fr, p3, p4, p5, p6⟩, p7, p8⟩ := hsub.2 hmv
                              simp only [Bool.false_eq_true, if_false] at p8
                              have hnv' := hnv.length
                              simp only [Array.length_toList] at hnv'
                              obtain ⟨cur', r1, r2⟩ := run_storeCells_loose (P := P) L.block (L.base + (o - L.lo) + len * sz') tt fr news'.toList 0 cc w p3 (p4 rfl) (by simp; omega) (all_one hnv hone)
                              rw [Nat.add_zero] at r2
                              rw [r1] at R1
                              have hcl : L.base + (o - L.lo) + len * sz' + news'.toList.length ≤ cc.toList.length := by simp; omega
                              have hcur : cur'.size = cc.size := by
                                have : cur'.toList.length = cc.toList.length := by rw [r2]; exact length_splice _ _ _ hcl
                                simpa using this
                              have hat : ∀ k, cur'[k]? = (splice cc.toList (L.base + (o - L.lo) + len * sz') news'.toList)[k]? := fun k => by rw [← r2, Array.getElem?_toList]
                              have hnew : ((cs.drop o).take (len * sz') ++ news).length = (len + n) * sz' := by
                                rw [List.length_append, List.length_take, List.length_drop, hnl, Nat.add_mul]
                                simp only at hend
                                omega
                              obtain ⟨q2, q3⟩ := fork_row (s' := (s.set i .dead).new (.arr ((cs.drop o).take (len * sz') ++ news) 0 false)) hs hw hf (by rw [St.n_new, St.n_set]; omega) hg hL
                                (L := ⟨L.block, 0, L.base + (o - L.lo), L.size⟩) (own' := upd own L.block (some s.n)) (w' := w.setRow L.block cur') (new := (cs.drop o).take (len * sz') ++ news)
                                ⟨Nat.zero_le _, by rw [hnew, Nat.add_mul]; simp; omega, cur', tt, fr, setRow_heap w _ cc cur' tt fr p3, fun _ => by rw [hcur]; exact p4 rfl, hcur.trans p5, fun k hk1 hk2 => by
                                  rw [hnew, Nat.add_mul] at hk2
                                  simp only [Nat.sub_zero]
                                  rw [hat, splice_get _ _ _ hcl]
                                  simp only at hend
                                  by_cases hk : k < len * sz'
                                  · obtain ⟨v, v', z1, z2, z3⟩ := p6 (o + k) (by omega) (by omega)
                                    refine ⟨v, v', ?_, ?_, z3⟩
                                    · rw [List.getElem?_append_left (by simp; omega), List.getElem?_take_of_lt hk, List.getElem?_drop]; exact z1
                                    · rw [if_neg (by omega)]
                                      rw [show L.base + (o + k - L.lo) = L.base + (o - L.lo) + k from by omega] at z2
                                      simpa using z2
                                  · obtain ⟨v, hvk⟩ : ∃ v, news[k - len * sz']? = some v := ⟨news[k - len * sz']'(by omega), by rw [List.getElem?_eq_getElem]⟩
                                    obtain ⟨v', z1, z2⟩ := hnv.get hvk
                                    refine ⟨v, v', ?_, ?_, z2⟩
                                    · rw [List.getElem?_append_right (by simp; omega)]
                                      have : ((cs.drop o).take (len * sz')).length = len * sz' := by simp; omega
                                      rw [this]; exact hvk
                                    · rw [if_pos (by simp; omega), show L.base + (o - L.lo) + k - (L.base + (o - L.lo) + len * sz') = k - len * sz' from by omega]; exact z1⟩
                                (by simp) (by simpa using p7) rfl (fun _ => p8) (fun b _ hb => setRow_other w _ _ _ hb) rfl rfl rfl
                              refine ⟨⟨_, _, _, _, R1, q2, q3, ?_⟩, (hw.set hg).new _⟩
                              refine .sliceArr (L := ⟨L.block, 0, L.base + (o - L.lo), L.size⟩) (by simp only [Bij.setArr, hnew, St.n_set]; simp) (Nat.le_refl _) (by simp) hz gs (.inl ⟨by simp, hroom, by simpa using hcap⟩)
                          · exfalso; omega
                        · -- in a new block
                          have R2 := R.2 (by omega) hby
                          have hge := grownCap_ge' w (len + n) cap elem
                          have hmulg : (len + n) * sz' ≤ grownCap w (len + n) cap elem * sz' := Nat.mul_le_mul_right _ hge
                          rw [Nat.add_mul] at hmulg
                          have hcs : (olds ++ newsD ++ Builtin.zeroCells z.cells (grownCap w (len + n) cap elem - (len + n)) : Array Value).size = grownCap w (len + n) cap elem * sz' := by
                            simp only [Array.size_append, size_zeroCells', hnlD, hol, ← b1]
                            rw [Nat.sub_mul, Nat.add_mul]
                            omega
                          have hold : ∀ k v, k < len * sz' → cs[o + k]? = some v → ∃ v', (olds ++ newsD ++ Builtin.zeroCells z.cells (grownCap w (len + n) cap elem - (len + n)) : Array Value)[k]? = some v' ∧ VR β v v' := by
                            intro k v hk hv
                            have : ((cs.drop o).take (len * sz'))[k]? = some v := by rw [List.getElem?_take_of_lt hk, List.getElem?_drop]; exact hv
                            obtain ⟨v', z1, z2⟩ := ho2.get this
                            refine ⟨v', ?_, z2⟩
                            rw [Array.getElem?_append_left (by simp; omega), Array.getElem?_append_left (by omega)]
                            simpa using z1
                          have hnw : ∀ k v, news[k]? = some v → ∃ v', (olds ++ newsD ++ Builtin.zeroCells z.cells (grownCap w (len + n) cap elem - (len + n)) : Array Value)[len * sz' + k]? = some v' ∧ VR β v v' := by
                            intro k v hv
                            obtain ⟨v', z1, z2⟩ := hnvD.get hv
                            have hkl : k < news.length := (List.getElem?_eq_some_iff.1 hv).1
                            refine ⟨v', ?_, z2⟩
                            rw [Array.getElem?_append_left (by simp; omega), Array.getElem?_append_right (by omega)]
                            rw [show len * sz' + k - olds.size = k from by omega]
                            simpa using z1
                          simp only at hend
                          split at hv
                          · rename_i hfull
                            obtain ⟨rfl, rfl⟩ := Prod.mk.inj (Option.some.inj hv)
                            simp only at hfull
                            obtain ⟨q2, q3⟩ := grow_there (t := elem) (news := news) (c := olds ++ newsD ++ Builtin.zeroCells z.cells (grownCap w (len + n) cap elem - (len + n))) hsd hw hg hL (o := o) (by omega) (by rw [hnl]; exact Nat.mul_pos (by omega) b2)
                              (by rw [hcs]; omega) (fun j hj1 hj2 => by
                                by_cases hj : j < cs.length
                                · obtain ⟨v, hvj⟩ : ∃ v, cs[j]? = some v := ⟨cs[j], by simp [hj]⟩
                                  obtain ⟨v', z1, z2⟩ := hold (j - o) v (by omega) (by rw [show o + (j - o) = j from by omega]; exact hvj)
                                  exact ⟨v, v', by rw [List.getElem?_append_left hj]; exact hvj, z1, z2⟩
                                · obtain ⟨v, hvj⟩ : ∃ v, news[j - cs.length]? = some v := ⟨news[j - cs.length]'(by omega), by rw [List.getElem?_eq_getElem]⟩
                                  obtain ⟨v', z1, z2⟩ := hnw (j - cs.length) v hvj
                                  exact ⟨v, v', by rw [List.getElem?_append_right (by omega)]; exact hvj, by rw [show j - o = len * sz' + (j - cs.length) from by omega]; exact z1, z2⟩)
                            rw [hnl] at q2 q3
                            refine ⟨⟨_, _, _, _, R2, hdx.trans q2, q3, ?_⟩, hw.set hg⟩
                            show VR _ (.slice (some ⟨i, o, some (cs.length + n * sz')⟩) (len + n) sz') _
                            refine .sliceArr (L := ⟨w.heap.size, o, 0, (olds ++ newsD ++ Builtin.zeroCells z.cells (grownCap w (len + n) cap elem - (len + n))).size⟩) (by simp [Bij.setArr]) (Nat.le_refl _) (by rw [Nat.add_mul]; omega) hz (by simp) (.inl ⟨by simp, hge, by rw [hcs]; simp⟩)
                          · rename_i hfull
                            obtain ⟨rfl, rfl⟩ := Prod.mk.inj (Option.some.inj hv)
                            have hnew : ((cs.drop o).take (len * sz') ++ news).length = (len + n) * sz' := by
                              rw [List.length_append, List.length_take, List.length_drop, hnl, Nat.add_mul]
                              omega
                            obtain ⟨q2, q3⟩ := fork_row (s' := (s.set i .dead).new (.arr ((cs.drop o).take (len * sz') ++ news) 0 false)) hsd hw hf (by rw [St.n_new, St.n_set]; omega) hg hL
                              (L := ⟨w.heap.size, 0, 0, (olds ++ newsD ++ Builtin.zeroCells z.cells (grownCap w (len + n) cap elem - (len + n))).size⟩) (own' := upd own w.heap.size (some s.n))
                              (w' := w.drew.alloc (.cells (olds ++ newsD ++ Builtin.zeroCells z.cells (grownCap w (len + n) cap elem - (len + n))) elem)) (new := (cs.drop o).take (len * sz') ++ news)
                              ⟨Nat.zero_le _, by rw [hcs, hnew, Nat.add_mul]; simp; omega, _, elem, (0, 0), heap_alloc_new w.drew _, fun _ => .inl rfl, rfl, fun k hk1 hk2 => by
                                rw [hnew, Nat.add_mul] at hk2
                                simp only [Nat.sub_zero, Nat.zero_add]
                                by_cases hk : k < len * sz'
                                · obtain ⟨v, hvk⟩ : ∃ v, cs[o + k]? = some v := ⟨cs[o + k]'(by omega), by rw [List.getElem?_eq_getElem]⟩
                                  obtain ⟨v', z1, z2⟩ := hold k v hk hvk
                                  exact ⟨v, v', by rw [List.getElem?_append_left (by simp; omega), List.getElem?_take_of_lt hk, List.getElem?_drop]; exact hvk, z1, z2⟩
                                · obtain ⟨v, hvk⟩ : ∃ v, news[k - len * sz']? = some v := ⟨news[k - len * sz']'(by omega), by rw [List.getElem?_eq_getElem]⟩
                                  obtain ⟨v', z1, z2⟩ := hnw _ v hvk
                                  refine ⟨v, v', ?_, by rw [show k = len * sz' + (k - len * sz') from by omega]; exact z1, z2⟩
                                  rw [List.getElem?_append_right (by simp; omega)]
                                  have : ((cs.drop o).take (len * sz')).length = len * sz' := by simp; omega
                                  rw [this]; exact hvk⟩
                              (by simp) (by simp) rfl (fun h => by simp at h) (fun b hb _ => heap_alloc_old w.drew _ b hb) rfl rfl rfl
                            refine ⟨⟨_, _, _, _, R2, hdx.trans q2, q3, ?_⟩, (hw.set hg).new _⟩
                            refine .sliceArr (L := ⟨w.heap.size, 0, 0, (olds ++ newsD ++ Builtin.zeroCells z.cells (grownCap w (len + n) cap elem - (len + n))).size⟩) (by simp only [Bij.setArr, hnew, St.n_set]; simp) (Nat.le_refl _) (by simp) hz (by simp) (.inl ⟨by simp, hge, by rw [hcs]; simp⟩)
                      · cases hv
                    · cases hv
                  · cases hv
              · cases hv
            · cases hv
      · cases hv
    · cases hv
  · cases hv

end
end Go.Ai
