/- Feet. -/
import Derived.Test.YtfpkfcdeoiofiaaPure
set_option linter.unusedVariables false
set_option linter.unusedSimpArgs false
set_option linter.unnecessarySimpa false
namespace Go.Proofs.Ytfpkfcdeoiofiaa
open Go.Ai
theorem orI_fn : Try.cfg.fn 34 = some Try.f34 := by kernel_rfl
set_option maxHeartbeats 4000000 in
set_option maxRecDepth 100000 in
theorem orI_sc (l : List Int) (h0 : l.length ≤ 1000000) : SC Try.prog 0 34 [slL 0 1 l.length] ((St.empty 0).new (rowL icells l)) fun v s' => v = .int .i64 (orL l) ∧ s'.n ≤ 400 ∧ ∀ a, a < 1 → s'.get a = some (objL [rowL icells l] a) := by
  have hS := sound_run Try.cfgOk 300
  refine sc_body Try.cfgOk orI_fn rfl ?_
  refine sk_seq ?_
  refine kK Try.cfgOk hS ?_
  refine sk_seq ?_
  refine kK Try.cfgOk hS ?_
  refine sk_seq (sk_seq ?_)
  refine kK Try.cfgOk hS ?_
  refine sk_block ?_
  refine sk_live 18 ((fun a : Nat => [(3, .int .i64 0), (6, slL 0 1 l.length), (7, .int .i64 ((l.length : Nat) : Int)), (8, .int .i64 ((a : Nat) : Int))]) 0) (by kernel_rfl) ⟨by kernel_rfl, by kernel_rfl, by kernel_rfl, by kernel_rfl, trivial⟩ fun m1 => ?_
  refine sk_st ((fun a : Nat => ((St.empty 0).new (rowL icells l))) 0) (by kernel_rfl) ?_
  refine (sk_while (k := 1) (N := 400) (live := (fun a : Nat => [(3, .int .i64 0), (6, slL 0 1 l.length), (7, .int .i64 ((l.length : Nat) : Int)), (8, .int .i64 ((a : Nat) : Int))])) (M := (fun a : Nat => ((St.empty 0).new (rowL icells l)))) (fun a : Nat => (a ≤ l.length) ∧ (NoHit (fun x : Int => x ≠ 0) l a)) (fun a : Nat => l.length - a) (fun (a : Nat) (o : Out) (lv : List (Nat × Value)) (M : St) => (o = .exit 0 ∧ (¬ a < l.length) ∧ lv = [(3, .int .i64 0), (6, slL 0 1 l.length), (7, .int .i64 ((l.length : Nat) : Int)), (8, .int .i64 ((a : Nat) : Int))] ∧ M = ((St.empty 0).new (rowL icells l))) ∨ (o = .ret ∧ ∃ v : Int, (l[a]? = some v ∧ v ≠ 0) ∧ lv = [(2, .int .i64 v)] ∧ M = ((St.empty 0).new (rowL icells l)))) (Nat.zero_le _) (fun a ha => ?_) (fun a ha => ?_) (fun a m ha => ?_) (fun a m ha => ?_) 0 m1 ?_).up ?_
  · exact ⟨by kernel_rfl, ((wf_empty 0).new _), (selfs (all_cons (o := rowL icells l) (by kernel_rfl) (OSub.arr (subs_clo (flatL_clo icells_clo))) (all_none)))⟩
  · exact ⟨sub_clo rfl, .slice ⟨by decide, rfl⟩, sub_clo rfl, sub_clo rfl, trivial⟩
  · exact ⟨by kernel_rfl, by kernel_rfl, by kernel_rfl, by kernel_rfl, trivial⟩
  · obtain ⟨i, ea⟩ : ∃ z, z = a := ⟨_, rfl⟩
    subst ea
    obtain ⟨i0, i1⟩ := ha
    refine sk_seq ?_
    refine sk_regionL Try.cfgOk hS ?_
    refine aT (fun h2 => ?_) (fun h2 => ?_)
    · have c3e : (decide ((((i : Nat) : Int) : Int) < ((l.length : Nat) : Int))) = true := Eq.trans (by kernel_rfl) h2
      clear h2
      have c3 : (((i : Nat) : Int) : Int) < ((l.length : Nat) : Int) := of_decide_eq_true c3e
      clear c3e
      refine al_nil ?_
      refine sk_seq ?_
      refine kT ?_
      refine sk_skip (sk_seq (sk_block (sk_seq ?_)))
      refine sk_regionL Try.cfgOk hS ?_
      refine aM (indexAddrV Try.cfg 92 (slL 0 1 l.length) (.int .i64 ((i : Nat) : Int))) (.pointer (some ⟨0, i * 1, some (l.length * 1)⟩)) (idx_rowL (by kernel_rfl) (by omega)) ?_
      have hx4l : i < l.length := by omega
      refine Exists.elim (get_ex hx4l) fun x4 hx4 => ?_
      clear hx4l
      refine aM (loadV Try.cfg ((St.empty 0).new (rowL icells l)) 3 (.pointer (some ⟨0, i * 1, some (l.length * 1)⟩))) (.int .i64 x4) (load_rowL1 (o := 0) (l := l) (by kernel_rfl) icells_len (by kernel_rfl) hx4 rfl) ?_
      refine aN ?_
      refine sk_seq ?_
      refine sk_regionL Try.cfgOk hS ?_
      refine aK 2 ?_
      refine aT (fun h5 => ?_) (fun h5 => ?_)
      · have c6e : ((x4 : Int) != 0) = true := Eq.trans (by kernel_rfl) h5
        clear h5
        have c6 : ¬ (x4 : Int) = 0 := bne_iff_ne.1 c6e
        clear c6e
        refine al_nil ?_
        refine kT ?_
        refine sk_seq ?_
        refine kK Try.cfgOk hS ?_
        refine sk_ret ?_
        refine .inr ⟨_, _, (fun h => by cases h), .inr ⟨rfl, x4, ?_, rfl, rfl⟩, ⟨by kernel_rfl, ⟨by kernel_rfl, trivial⟩, ⟨sub_clo rfl, trivial⟩, Nat.le_of_ble_eq_true (by kernel_rfl), ⟨by kernel_rfl, ((wf_empty 0).new _), (selfs (all_cons (o := rowL icells l) (by kernel_rfl) (OSub.arr (subs_clo (flatL_clo icells_clo))) (all_none)))⟩, mem_all (by kernel_rfl)⟩⟩
        · exact ⟨by assumption, by first | assumption | omega⟩
      · have c6e : ((x4 : Int) != 0) = false := Eq.trans (by kernel_rfl) h5
        clear h5
        have c6 : (x4 : Int) = 0 := bne_eq_false_iff_eq.1 c6e
        clear c6e
        refine al_nil ?_
        refine kF ?_
        refine sk_skip ?_
        refine sk_regionL Try.cfgOk hS ?_
        refine aE (v := .int .i64 (IntKind.wrap .i64 (((i : Nat) : Int) + 1))) (.int .i64 ((i + 1 : Nat) : Int)) (congrArg (Value.int .i64) (wrap_to (by omega) (by omega))) ?_
        refine aN ?_
        refine .inl ⟨i + 1, rfl, ⟨?_, ?_⟩, ?_, ⟨by kernel_rfl, ⟨by kernel_rfl, by kernel_rfl, by kernel_rfl, by kernel_rfl, trivial⟩, ⟨sub_clo rfl, .slice ⟨by decide, rfl⟩, sub_clo rfl, sub_clo rfl, trivial⟩, Nat.le_of_ble_eq_true (by kernel_rfl), ⟨by kernel_rfl, ((wf_empty 0).new _), (selfs (all_cons (o := rowL icells l) (by kernel_rfl) (OSub.arr (subs_clo (flatL_clo icells_clo))) (all_none)))⟩, mem_all (by kernel_rfl)⟩⟩
        · (try dsimp only); omega
        · (try dsimp only); exact NoHit.succ (p := (fun x : Int => x ≠ 0)) (by assumption) (by assumption) (by first | assumption | omega | exact fun h => h.elim (by assumption) (by assumption) | (simp_all; done))
        · omega
    · have c3e : (decide ((((i : Nat) : Int) : Int) < ((l.length : Nat) : Int))) = false := Eq.trans (by kernel_rfl) h2
      clear h2
      have c3 : ¬ (((i : Nat) : Int) : Int) < ((l.length : Nat) : Int) := of_decide_eq_false c3e
      clear c3e
      refine al_nil ?_
      refine sk_seq ?_
      refine kF ?_
      refine sk_exit ?_
      dsimp only
      refine .inr ⟨_, _, (fun h => by cases h), .inl ⟨rfl, ?_, rfl, rfl⟩, ⟨by kernel_rfl, ⟨by kernel_rfl, by kernel_rfl, by kernel_rfl, by kernel_rfl, trivial⟩, ⟨sub_clo rfl, .slice ⟨by decide, rfl⟩, sub_clo rfl, sub_clo rfl, trivial⟩, Nat.le_of_ble_eq_true (by kernel_rfl), ⟨by kernel_rfl, ((wf_empty 0).new _), (selfs (all_cons (o := rowL icells l) (by kernel_rfl) (OSub.arr (subs_clo (flatL_clo icells_clo))) (all_none)))⟩, mem_all (by kernel_rfl)⟩⟩
      · omega
  · exact ⟨by ((try dsimp only); first | done | (omega)), by ((try dsimp only); first | done | (exact NoHit.zero))⟩
  rintro o e1 s1 ⟨a, lv1, M1, m1, ha, (⟨rfl, hx, rfl, rfl⟩ | ⟨rfl, v, hx, rfl, rfl⟩), rfl, rfl⟩
  ·
    obtain ⟨i, ea⟩ : ∃ z, z = a := ⟨_, rfl⟩
    subst ea
    obtain ⟨i0, i1⟩ := ha
    dsimp only
    try rw [if_pos rfl]
    refine sk_seq ?_
    refine kK Try.cfgOk hS ?_
    refine sk_ret ?_
    exact ⟨[.int .i64 0], by kernel_rfl, congrArg (Value.int .i64) (by first | (exact (orL_hit (by assumption) hx.1 hx.2).symm) | exact (orL_none (NoHit.none (by assumption) hx)).symm), Nat.le_of_ble_eq_true (by kernel_rfl), all1 (by kernel_rfl)⟩
  ·
    obtain ⟨i, ea⟩ : ∃ z, z = a := ⟨_, rfl⟩
    subst ea
    obtain ⟨i0, i1⟩ := ha
    dsimp only
    exact ⟨[.int .i64 v], by kernel_rfl, congrArg (Value.int .i64) (by first | (exact (orL_hit (by assumption) hx.1 hx.2).symm) | exact (orL_none (NoHit.none (by assumption) hx)).symm), Nat.le_of_ble_eq_true (by kernel_rfl), all1 (by kernel_rfl)⟩
noncomputable def sm_orI : Small Try.prog 0 34 ((List Int)) where
  k := 1
  A := fun z9 ρ => [slL (ρ 0) 1 z9.length]
  M := fun z9 ρ => objL [rowL icells z9]
  M1 := fun z9 ρ => objL [rowL icells z9]
  V := fun z9 ρ => .int .i64 (orL z9)
  Pre := fun z9 => (z9.length ≤ 1000000)
  ch := []
  N := 400
  s0 := fun z9 => ((St.empty 0).new (rowL icells z9))
  hch := by decide
  hsame := fun x ρ => all1 (fun _ => rfl)
  hG := rfl
  hn := fun x => rfl
  hwf := fun x => ((wf_empty 0).new _)
  hget := fun x => all1 (by kernel_rfl)
  noloop := fun x ρ => all1 (fun h => h.elim)
  inA := fun x ρ R hR => .cons (.slice (hR 0 _ (by decide))) .nil
  inM := fun x ρ R hR => all1 (OSub.arr (subs_clo (flatL_clo icells_clo)))
  outM := fun x ρ R hR => all1 (OSub.arr (subs_clo (flatL_clo icells_clo)))
  outV := fun x ρ R hR => sub_clo rfl
  dom := by
    intro x ρ a ha
    cases ha
  sc := by
    rintro x p0
    exact orI_sc x p0
  det := by
    rintro x ρ y σ s h hm hm'
    simp only [List.cons.injEq, and_true, Int.natCast_inj, UInt8.toNat_inj, Value.int.injEq, Value.bool.injEq, Value.string.injEq, Value.agg.injEq, Array.mk.injEq, true_and, Value.pointer.injEq, Option.some.injEq, Addr.mk.injEq, Value.func.injEq, AObj.cells.injEq, AObj.arr.injEq, slL_iff, icells_row] at h
    have q0 : ρ 0 = σ 0 := by simp_all
    have e0 := (hm 0 (by decide)).symm.trans ((congrArg s.get q0).trans (hm' 0 (by decide)))
    simp only [objL, List.getD_cons_zero, List.getD_cons_succ, List.cons.injEq, and_true, Int.natCast_inj, UInt8.toNat_inj, Value.int.injEq, Value.bool.injEq, Value.string.injEq, Value.agg.injEq, Array.mk.injEq, true_and, Value.pointer.injEq, Option.some.injEq, Addr.mk.injEq, Value.func.injEq, AObj.cells.injEq, AObj.arr.injEq, slL_iff, icells_row] at e0
    have q : ∀ a, a < 1 → ρ a = σ a := all1 q0
    clear hm hm'
    exact ⟨by first | rfl | (simp_all [Prod.ext_iff]; done) | exact e0, q⟩
  par := by
    intro x ρ σ h
    have h0 := h 0 (by decide)
    exact ⟨by first | rfl | simp only [h0], by first | exact fun _ _ => rfl | (intro a ha; simp only [h0])⟩
noncomputable def con_orI : Con Try.prog 0 := sm_orI.con
theorem con_orI_at (l : List Int) (i0 : Nat) (h0 : l.length ≤ 1000000) (s : St) (hn : nodupB [i0] = true) (m0 : s.get i0 = some (rowL icells l)) : con_orI.rel [slL i0 1 l.length] s (.int .i64 (orL l)) s :=
  sm_orI.at_ l [i0] s _ h0 rfl hn rfl (all1 m0) rfl rfl
theorem byKey_fn : Try.cfg.fn 30 = some Try.f30 := by kernel_rfl
set_option maxHeartbeats 4000000 in
set_option maxRecDepth 100000 in
theorem byKey_sc (at_ : Int) (ak : Int) (bt : Int) (bk : Int)  : SC Try.prog 0 30 [.agg #[.int .i64 at_, .int .i64 ak], .agg #[.int .i64 bt, .int .i64 bk]] (St.empty 0) fun v s' => v = .int .i64 (orL [cmpI at_ bt, cmpI ak bk]) ∧ s'.n ≤ 400 := by
  obtain ⟨rc, hS, hC⟩ := rc_con (sound_run Try.cfgOk 300) [con_compare, con_orI] (by kernel_rfl)
  have hC35 := hC con_compare (.head _)
  have hC34 := hC con_orI (.tail _ (.head _))
  refine sc_ice0 (N := 400) (v2 := .int .i64 (orL [cmpI at_ bt, cmpI ak bk])) (Q := fun v s' => FS 0 s' v (.int .i64 (orL [cmpI at_ bt, cmpI ak bk])) ∧ s'.n ≤ 400) ?_ (fun _ _ h => h)
  refine sc_body Try.cfgOk byKey_fn rfl ?_
  refine sk_seq ?_
  refine kK Try.cfgOk hS ?_
  refine sk_seq ?_
  refine sk_drawL Try.cfgOk hS ?_
  refine dK 4 ?_
  refine dC 35 [.int .i64 at_, .int .i64 bt] (.int .i64 (cmpI at_ bt)) _ rfl (hC35 _ _ _ _ (con_compare_at at_ bt  _)) ?_
  refine dK 1 ?_
  refine ald_readK (d := (0, St.empty 0, St.empty 0)) (by kernel_rfl) (by kernel_rfl) (by kernel_rfl) (by kernel_rfl) (below_len (k := 1) (by kernel_rfl) (all1 (.inr (read_again (by kernel_rfl) (Eq.trans (b := .int .i64 ak) (by kernel_rfl) (by kernel_rfl)))))) ?_
  refine dK 1 ?_
  refine ald_readK (d := (0, St.empty 0, St.empty 0)) (by kernel_rfl) (by kernel_rfl) (by kernel_rfl) (by kernel_rfl) (below_len (k := 1) (by kernel_rfl) (all1 (.inr (read_again (by kernel_rfl) (Eq.trans (b := .int .i64 bk) (by kernel_rfl) (by kernel_rfl)))))) ?_
  refine dC 35 [.int .i64 ak, .int .i64 bk] (.int .i64 (cmpI ak bk)) _ rfl (hC35 _ _ _ _ (con_compare_at ak bk  _)) ?_
  refine dK 1 ?_
  refine dC 34 [.slice (some ⟨2, 0, some 2⟩) 2 1] (.int .i64 (orL ([(cmpI at_ bt), (cmpI ak bk)]))) _ rfl (hC34 _ _ _ _ (con_orI_at ([(cmpI at_ bt), (cmpI ak bk)]) 2 (by first | omega | (simp; done) | (simp; omega)) _ (by kernel_rfl) (by kernel_rfl) )) ?_
  refine dK 1 ?_
  refine ald_nil ?_
  refine sk_ret ?_
  exact ⟨[.int .i64 (orL ([(cmpI at_ bt), (cmpI ak bk)]))], by kernel_rfl, fs_to (fs_clo rfl) (congrArg (Value.int .i64) (by simp [*])), Nat.le_of_ble_eq_true (by kernel_rfl)⟩
noncomputable def con_byKey : Con Try.prog 0 := Con.pure (α := Int × Int × Int × Int) 30 (fun z9 => [.agg #[.int .i64 z9.1, .int .i64 z9.2.1], .agg #[.int .i64 z9.2.2.1, .int .i64 z9.2.2.2]]) (fun z9 => .int .i64 (orL [cmpI z9.1 z9.2.2.1, cmpI z9.2.1 z9.2.2.2])) (fun z9 => True) (by
  rintro ⟨a0, a1, a2, a3⟩ ⟨b0, b1, b2, b3⟩ h
  simp only [List.cons.injEq, and_true, Int.natCast_inj, UInt8.toNat_inj, Value.int.injEq, Value.bool.injEq, Value.string.injEq, Value.agg.injEq, Array.mk.injEq, true_and] at h
  first | exact h | (simp only [Prod.ext_iff, h, and_self, and_true, true_and]; done) | simp_all [Prod.ext_iff]) (fun _ => rfl) (fun _ => rfl) 400 (by
  rintro ⟨a0, a1, a2, a3⟩ _
  exact byKey_sc a0 a1 a2 a3 )
theorem con_byKey_at (at_ : Int) (ak : Int) (bt : Int) (bk : Int)  (s : St) : con_byKey.rel [.agg #[.int .i64 at_, .int .i64 ak], .agg #[.int .i64 bt, .int .i64 bk]] s (.int .i64 (orL [cmpI at_ bt, cmpI ak bk])) s := con_pure (at_, ak, bt, bk) trivial s
theorem bySpan_fn : Try.cfg.fn 24 = some Try.f24 := by kernel_rfl
set_option maxHeartbeats 4000000 in
set_option maxRecDepth 100000 in
theorem bySpan_sc (at_ : Int) (al : Int) (ah : Int) (bt : Int) (bl : Int) (bh : Int)  : SC Try.prog 0 24 [.agg #[.int .i64 at_, .int .i64 al, .int .i64 ah], .agg #[.int .i64 bt, .int .i64 bl, .int .i64 bh]] (St.empty 0) fun v s' => v = .int .i64 (orL [cmpI at_ bt, cmpI al bl, cmpI ah bh]) ∧ s'.n ≤ 400 := by
  obtain ⟨rc, hS, hC⟩ := rc_con (sound_run Try.cfgOk 300) [con_compare, con_orI] (by kernel_rfl)
  have hC35 := hC con_compare (.head _)
  have hC34 := hC con_orI (.tail _ (.head _))
  refine sc_ice0 (N := 400) (v2 := .int .i64 (orL [cmpI at_ bt, cmpI al bl, cmpI ah bh])) (Q := fun v s' => FS 0 s' v (.int .i64 (orL [cmpI at_ bt, cmpI al bl, cmpI ah bh])) ∧ s'.n ≤ 400) ?_ (fun _ _ h => h)
  refine sc_body Try.cfgOk bySpan_fn rfl ?_
  refine sk_seq ?_
  refine kK Try.cfgOk hS ?_
  refine sk_seq ?_
  refine sk_drawL Try.cfgOk hS ?_
  refine dK 4 ?_
  refine dC 35 [.int .i64 at_, .int .i64 bt] (.int .i64 (cmpI at_ bt)) _ rfl (hC35 _ _ _ _ (con_compare_at at_ bt  _)) ?_
  refine dK 1 ?_
  refine ald_readK (d := (0, St.empty 0, St.empty 0)) (by kernel_rfl) (by kernel_rfl) (by kernel_rfl) (by kernel_rfl) (below_len (k := 1) (by kernel_rfl) (all1 (.inr (read_again (by kernel_rfl) (Eq.trans (b := .int .i64 al) (by kernel_rfl) (by kernel_rfl)))))) ?_
  refine dK 1 ?_
  refine ald_readK (d := (0, St.empty 0, St.empty 0)) (by kernel_rfl) (by kernel_rfl) (by kernel_rfl) (by kernel_rfl) (below_len (k := 1) (by kernel_rfl) (all1 (.inr (read_again (by kernel_rfl) (Eq.trans (b := .int .i64 bl) (by kernel_rfl) (by kernel_rfl)))))) ?_
  refine dC 35 [.int .i64 al, .int .i64 bl] (.int .i64 (cmpI al bl)) _ rfl (hC35 _ _ _ _ (con_compare_at al bl  _)) ?_
  refine dK 1 ?_
  refine ald_readK (d := (0, St.empty 0, St.empty 0)) (by kernel_rfl) (by kernel_rfl) (by kernel_rfl) (by kernel_rfl) (below_len (k := 2) (by kernel_rfl) (all2 (.inr (read_again (by kernel_rfl) (Eq.trans (b := .int .i64 ah) (by kernel_rfl) (by kernel_rfl)))) (.inr (read_again (by kernel_rfl) (Eq.trans (b := .int .i64 ah) (by kernel_rfl) (by kernel_rfl)))))) ?_
  refine dK 1 ?_
  refine ald_readK (d := (0, St.empty 0, St.empty 0)) (by kernel_rfl) (by kernel_rfl) (by kernel_rfl) (by kernel_rfl) (below_len (k := 2) (by kernel_rfl) (all2 (.inr (read_again (by kernel_rfl) (Eq.trans (b := .int .i64 bh) (by kernel_rfl) (by kernel_rfl)))) (.inr (read_again (by kernel_rfl) (Eq.trans (b := .int .i64 bh) (by kernel_rfl) (by kernel_rfl)))))) ?_
  refine dC 35 [.int .i64 ah, .int .i64 bh] (.int .i64 (cmpI ah bh)) _ rfl (hC35 _ _ _ _ (con_compare_at ah bh  _)) ?_
  refine dK 1 ?_
  refine dC 34 [.slice (some ⟨2, 0, some 3⟩) 3 1] (.int .i64 (orL ([(cmpI at_ bt), (cmpI al bl), (cmpI ah bh)]))) _ rfl (hC34 _ _ _ _ (con_orI_at ([(cmpI at_ bt), (cmpI al bl), (cmpI ah bh)]) 2 (by first | omega | (simp; done) | (simp; omega)) _ (by kernel_rfl) (by kernel_rfl) )) ?_
  refine dK 1 ?_
  refine ald_nil ?_
  refine sk_ret ?_
  exact ⟨[.int .i64 (orL ([(cmpI at_ bt), (cmpI al bl), (cmpI ah bh)]))], by kernel_rfl, fs_to (fs_clo rfl) (congrArg (Value.int .i64) (by simp [*])), Nat.le_of_ble_eq_true (by kernel_rfl)⟩
theorem cmp_or2 {a b c d : Int} : orL [cmpI a c, cmpI b d] < 0 ↔ a < c ∨ a = c ∧ b < d := by
  simp only [orL, cmpI, List.find?_cons, List.find?_nil]
  repeat' split
  all_goals simp_all
  all_goals omega
theorem lessP_fn : Try.cfg.fn 19 = some Try.f19 := by kernel_rfl
set_option maxHeartbeats 4000000 in
set_option maxRecDepth 100000 in
theorem lessP_sc (at_ : Int) (ak : Int) (bt : Int) (bk : Int)  : SC Try.prog 0 19 [.agg #[.int .i64 at_, .int .i64 ak], .agg #[.int .i64 bt, .int .i64 bk]] (St.empty 0) fun v s' => v = .bool (decide (at_ < bt ∨ at_ = bt ∧ ak < bk)) ∧ s'.n ≤ 400 := by
  obtain ⟨rc, hS, hC⟩ := rc_con (sound_run Try.cfgOk 300) [con_byKey] (by kernel_rfl)
  have hC30 := hC con_byKey (.head _)
  refine sc_ice0 (N := 400) (v2 := .bool (decide (at_ < bt ∨ at_ = bt ∧ ak < bk))) (Q := fun v s' => FS 0 s' v (.bool (decide (at_ < bt ∨ at_ = bt ∧ ak < bk))) ∧ s'.n ≤ 400) ?_ (fun _ _ h => h)
  refine sc_body Try.cfgOk lessP_fn rfl ?_
  refine sk_seq ?_
  refine kK Try.cfgOk hS ?_
  refine sk_seq ?_
  refine sk_regionL Try.cfgOk hS ?_
  refine aK 2 ?_
  refine aC 30 [.agg #[.int .i64 at_, .int .i64 ak], .agg #[.int .i64 bt, .int .i64 bk]] (.int .i64 (orL [cmpI at_ bt, cmpI ak bk])) _ rfl (hC30 _ _ _ _ (con_byKey_at at_ ak bt bk  _)) ?_
  refine aT (fun h1 => ?_) (fun h1 => ?_)
  · have c2e : (decide (((orL [cmpI at_ bt, cmpI ak bk]) : Int) < 0)) = true := Eq.trans (by kernel_rfl) h1
    clear h1
    have c2 : ((orL [cmpI at_ bt, cmpI ak bk]) : Int) < 0 := of_decide_eq_true c2e
    clear c2e
    refine aN ?_
    refine sk_ret ?_
    exact ⟨[.bool true], by kernel_rfl, fs_to (fs_clo rfl) (congrArg Value.bool (by first | (simp only [cmp_or2]; done) | (exact (decide_eq_true (cmp_or2.1 (by assumption))).symm) | (exact (decide_eq_false (fun h => absurd (cmp_or2.2 h) (by assumption))).symm))), Nat.le_of_ble_eq_true (by kernel_rfl)⟩
  · have c2e : (decide (((orL [cmpI at_ bt, cmpI ak bk]) : Int) < 0)) = false := Eq.trans (by kernel_rfl) h1
    clear h1
    have c2 : ¬ ((orL [cmpI at_ bt, cmpI ak bk]) : Int) < 0 := of_decide_eq_false c2e
    clear c2e
    refine aN ?_
    refine sk_ret ?_
    exact ⟨[.bool false], by kernel_rfl, fs_to (fs_clo rfl) (congrArg Value.bool (by first | (simp only [cmp_or2]; done) | (exact (decide_eq_true (cmp_or2.1 (by assumption))).symm) | (exact (decide_eq_false (fun h => absurd (cmp_or2.2 h) (by assumption))).symm))), Nat.le_of_ble_eq_true (by kernel_rfl)⟩
noncomputable def con_lessP : Con Try.prog 0 := Con.pure (α := Int × Int × Int × Int) 19 (fun z9 => [.agg #[.int .i64 z9.1, .int .i64 z9.2.1], .agg #[.int .i64 z9.2.2.1, .int .i64 z9.2.2.2]]) (fun z9 => .bool (decide (z9.1 < z9.2.2.1 ∨ z9.1 = z9.2.2.1 ∧ z9.2.1 < z9.2.2.2))) (fun z9 => True) (by
  rintro ⟨a0, a1, a2, a3⟩ ⟨b0, b1, b2, b3⟩ h
  simp only [List.cons.injEq, and_true, Int.natCast_inj, UInt8.toNat_inj, Value.int.injEq, Value.bool.injEq, Value.string.injEq, Value.agg.injEq, Array.mk.injEq, true_and] at h
  first | exact h | (simp only [Prod.ext_iff, h, and_self, and_true, true_and]; done) | simp_all [Prod.ext_iff]) (fun _ => rfl) (fun _ => rfl) 400 (by
  rintro ⟨a0, a1, a2, a3⟩ _
  exact lessP_sc a0 a1 a2 a3 )
theorem con_lessP_at (at_ : Int) (ak : Int) (bt : Int) (bk : Int)  (s : St) : con_lessP.rel [.agg #[.int .i64 at_, .int .i64 ak], .agg #[.int .i64 bt, .int .i64 bk]] s (.bool (decide (at_ < bt ∨ at_ = bt ∧ ak < bk))) s := con_pure (at_, ak, bt, bk) trivial s
end Go.Proofs.Ytfpkfcdeoiofiaa