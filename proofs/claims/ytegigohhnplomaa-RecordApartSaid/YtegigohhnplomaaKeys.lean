/- The bytes of keys. -/
import Derived.Test.YtegigohhnplomaaRefCount
set_option linter.unusedVariables false
set_option linter.unusedSimpArgs false
set_option linter.unnecessarySimpa false
namespace Go.Proofs.Ytegigohhnplomaa
open Go.Ai
def kb (k : Key) : List UInt8 := uv (u64 k.1) ++ uv (fold k.2)
def keysB (l : List Key) : List UInt8 := uv l.length ++ catB kb l
def okK (l : List Key) : Prop := l.length ≤ 4000 ∧ ∀ k ∈ l, in64 k.2
theorem okK.at_ {l : List Key} (h : okK l) {i : Nat} {x : Key} (hi : l[i]? = some x) : in64 x.2 := h.2 x (List.mem_of_getElem? hi)
theorem kb_len {k : Key} (h : in64 k.2) {l : List UInt8} : (l ++ uv (u64 k.1) ++ uv (fold k.2)).length ≤ l.length + 20 := app_leF h (Nat.add_le_add_right (app_le (Nat.le_refl _)) 10)
theorem putKeys_fn : Try.cfg.fn 65 = some Try.f65 := by kernel_rfl
set_option maxHeartbeats 4000000 in
set_option maxRecDepth 100000 in
theorem putKeys_sc (l0 : List UInt8) (ks : List Key) (h0 : l0.length ≤ 100000000) (h1 : okK ks) : SC Try.prog 0 65 [.pointer (some ⟨0, 0, none⟩), inlL kcells 2 ks] (((St.empty 0).new (.cells [slL 1 1 l0.length])).new (rowL bcells l0)) fun v s' => v = .tuple #[] ∧ s'.n ≤ 400 ∧ ∀ a, a < 2 → s'.get a = some (objL [.cells [slL 1 1 ((l0 ++ keysB ks).length)], rowL bcells (l0 ++ keysB ks)] a) := by
  obtain ⟨rc, hS, hC⟩ := rc_con (sound_run Try.cfgOk 300) [con_wcount, con_wnum] (by kernel_rfl)
  have hC35 := hC con_wcount (.head _)
  have hC41 := hC con_wnum (.tail _ (.head _))
  refine sc_body Try.cfgOk putKeys_fn rfl ?_
  refine sk_seq ?_
  refine sk_regionL Try.cfgOk hS ?_
  refine al_chunk 2 (by kernel_rfl) ?_
  refine al_map (lenB Try.cfg (St.empty 0) 25 (inlL kcells 2 ks)) (.int .i64 ((ks.length : Nat) : Int)) (by kernel_rfl) (by kernel_rfl) (by kernel_rfl) (len_inl tokC (by kernel_rfl)) ?_
  refine al_eqv (v := .int .u64 (IntKind.wrap .u64 ((ks.length : Nat) : Int))) (.int .u64 ((ks.length : Nat) : Int)) (by kernel_rfl) (by kernel_rfl) (by kernel_rfl) (congrArg (Value.int .u64) ((wrap_u64 _).trans (congrArg Nat.cast (u64_nat (by first | omega | (have q := h1.1; omega)))))) ?_
  refine al_callH 35 [.pointer (some ⟨0, 0, none⟩), .int .u64 ((ks.length : Nat) : Int)] (.tuple #[]) _ rfl (fun b h => by cases h) (by kernel_rfl) (by kernel_rfl) (hC35 _ _ _ _ (con_wcount_at l0 ks.length 0 1 (by first | omega | exact u64_lt _ | exact h1.at_ (by assumption) | (have q := h1.1; omega) | (exact app_le (by omega)) | (have q := h1.1; first | exact app_le (by omega) | exact app_leN (by omega) (by omega))) (by first | omega | exact u64_lt _ | exact h1.at_ (by assumption) | (have q := h1.1; omega) | (exact app_le (by omega)) | (have q := h1.1; first | exact app_le (by omega) | exact app_leN (by omega) (by omega))) _ (by kernel_rfl) (by kernel_rfl) (by kernel_rfl) )) ?_
  refine al_nil ?_
  refine sk_seq ?_
  refine sk_regionL Try.cfgOk hS ?_
  refine al_chunk 1 (by kernel_rfl) ?_
  refine al_map (lenB Try.cfg (St.empty 0) 25 (inlL kcells 2 ks)) (.int .i64 ((ks.length : Nat) : Int)) (by kernel_rfl) (by kernel_rfl) (by kernel_rfl) (len_inl tokC (by kernel_rfl)) ?_
  refine al_known (by kernel_rfl) ?_
  refine sk_block ?_
  refine sk_live 27 ((fun a : Nat × (List UInt8) => [(0, .pointer (some ⟨0, 0, none⟩)), (11, inlL kcells 2 ks), (12, .int .i64 ((ks.length : Nat) : Int)), (13, .int .i64 ((a.1 : Nat) : Int))]) (0, (l0 ++ uv ks.length))) (by kernel_rfl) ⟨by kernel_rfl, by kernel_rfl, by kernel_rfl, by kernel_rfl, trivial⟩ fun m1 => ?_
  refine sk_st ((fun a : Nat × (List UInt8) => (((St.empty 0).new (.cells [slL 1 1 a.2.length])).new (rowL bcells a.2))) (0, (l0 ++ uv ks.length))) (by kernel_rfl) ?_
  refine (sk_while (k := 2) (N := 400) (live := (fun a : Nat × (List UInt8) => [(0, .pointer (some ⟨0, 0, none⟩)), (11, inlL kcells 2 ks), (12, .int .i64 ((ks.length : Nat) : Int)), (13, .int .i64 ((a.1 : Nat) : Int))])) (M := (fun a : Nat × (List UInt8) => (((St.empty 0).new (.cells [slL 1 1 a.2.length])).new (rowL bcells a.2)))) (fun a : Nat × (List UInt8) => (a.1 ≤ ks.length) ∧ (a.2 = l0 ++ (uv ks.length ++ catB kb (ks.take a.1))) ∧ (a.2.length ≤ l0.length + 10 + 20 * a.1) ∧ (ks.length ≤ 4000)) (fun a : Nat × (List UInt8) => ks.length - a.1) (fun (a : Nat × (List UInt8)) (o : Out) (lv : List (Nat × Value)) (M : St) => (o = .exit 0 ∧ (¬ a.1 < ks.length) ∧ lv = [(0, .pointer (some ⟨0, 0, none⟩)), (11, inlL kcells 2 ks), (12, .int .i64 ((ks.length : Nat) : Int)), (13, .int .i64 ((a.1 : Nat) : Int))] ∧ M = (((St.empty 0).new (.cells [slL 1 1 a.2.length])).new (rowL bcells a.2)))) (Nat.zero_le _) (fun a ha => ?_) (fun a ha => ?_) (fun a m ha => ?_) (fun a m ha => ?_) (0, (l0 ++ uv ks.length)) m1 ?_).up ?_
  · exact ⟨by kernel_rfl, (((wf_empty 0).new _).new _), (selfs (all_cons (o := .cells [slL 1 1 a.2.length]) (by kernel_rfl) (OSub.cells (.cons (.slice ⟨by decide, rfl⟩) .nil)) (all_cons (o := rowL bcells a.2) (by kernel_rfl) (OSub.arr (subs_clo (flatL_clo bcells_clo))) (all_none))))⟩
  · exact ⟨.ptr ⟨by decide, rfl⟩, sub_clo rfl, sub_clo rfl, sub_clo rfl, trivial⟩
  · exact ⟨by kernel_rfl, by kernel_rfl, by kernel_rfl, by kernel_rfl, trivial⟩
  · obtain ⟨i, l⟩ := a
    obtain ⟨i0, i1, i2, i3⟩ := ha
    dsimp only at i0 i1 i2 i3
    refine sk_seq ?_
    refine sk_regionL Try.cfgOk hS ?_
    refine al_test (by kernel_rfl) (by kernel_rfl) (by kernel_rfl) (fun h2 => ?_) (fun h2 => ?_)
    · have c3e : (decide ((((i : Nat) : Int) : Int) < ((ks.length : Nat) : Int))) = true := Eq.trans (by kernel_rfl) h2
      clear h2
      have c3 : (((i : Nat) : Int) : Int) < ((ks.length : Nat) : Int) := of_decide_eq_true c3e
      clear c3e
      refine al_nil ?_
      refine sk_seq ?_
      refine sk_true (by kernel_rfl) ?_
      refine sk_skip (sk_seq (sk_block (sk_seq ?_)))
      refine sk_regionL Try.cfgOk hS ?_
      refine al_map (indexAddrV Try.cfg 25 (inlL kcells 2 ks) (.int .i64 ((i : Nat) : Int))) (elt (flatL kcells ks) (i * 2)) (by kernel_rfl) (by kernel_rfl) (by kernel_rfl) (idx_inlL tokC (by kernel_rfl) (by first | omega | simp)) ?_
      have hx4l : i < ks.length := by omega
      refine Exists.elim (get_ex hx4l) fun x4 hx4 => ?_
      clear hx4l
      refine al_map (loadV Try.cfg (St.empty 0) 48 (elt (flatL kcells ks) (i * 2))) (.agg #[.int .i64 x4.1, .int .i64 x4.2]) (by kernel_rfl) (by kernel_rfl) (by kernel_rfl) (load_el tokC (by kernel_rfl) kcells_len hx4) ?_
      refine al_known (by kernel_rfl) ?_
      refine sk_seq ?_
      refine sk_regionL Try.cfgOk hS ?_
      refine al_chunk 3 (by kernel_rfl) ?_
      refine al_eqv (v := .int .u64 (IntKind.wrap .u64 x4.1)) (.int .u64 ((u64 x4.1 : Nat) : Int)) (by kernel_rfl) (by kernel_rfl) (by kernel_rfl) (congrArg (Value.int .u64) (wrap_u64 _)) ?_
      refine al_callH 35 [.pointer (some ⟨0, 0, none⟩), .int .u64 ((u64 x4.1 : Nat) : Int)] (.tuple #[]) _ rfl (fun b h => by cases h) (by kernel_rfl) (by kernel_rfl) (hC35 _ _ _ _ (con_wcount_at l (u64 x4.1) 0 1 (by first | omega | exact u64_lt _ | exact h1.at_ (by assumption) | (have q := h1.1; omega) | (exact app_le (by omega)) | (have q := h1.1; first | exact app_le (by omega) | exact app_leN (by omega) (by omega))) (by first | omega | exact u64_lt _ | exact h1.at_ (by assumption) | (have q := h1.1; omega) | (exact app_le (by omega)) | (have q := h1.1; first | exact app_le (by omega) | exact app_leN (by omega) (by omega))) _ (by kernel_rfl) (by kernel_rfl) (by kernel_rfl) )) ?_
      refine al_nil ?_
      refine sk_regionL Try.cfgOk hS ?_
      refine al_chunk 3 (by kernel_rfl) ?_
      refine al_callH 41 [.pointer (some ⟨0, 0, none⟩), .int .i64 x4.2] (.tuple #[]) _ rfl (fun b h => by cases h) (by kernel_rfl) (by kernel_rfl) (hC41 _ _ _ _ (con_wnum_at (l ++ uv (u64 x4.1)) x4.2 0 1 (by first | omega | exact u64_lt _ | exact h1.at_ (by assumption) | (have q := h1.1; omega) | (exact app_le (by omega)) | (have q := h1.1; first | exact app_le (by omega) | exact app_leN (by omega) (by omega))) (by first | omega | exact u64_lt _ | exact h1.at_ (by assumption) | (have q := h1.1; omega) | (exact app_le (by omega)) | (have q := h1.1; first | exact app_le (by omega) | exact app_leN (by omega) (by omega))) _ (by kernel_rfl) (by kernel_rfl) (by kernel_rfl) )) ?_
      refine al_nil ?_
      refine sk_regionL Try.cfgOk hS ?_
      refine al_eqv (v := .int .i64 (IntKind.wrap .i64 (((i : Nat) : Int) + 1))) (.int .i64 ((i + 1 : Nat) : Int)) (by kernel_rfl) (by kernel_rfl) (by kernel_rfl) (congrArg (Value.int .i64) (wrap_to (by omega) (by omega))) ?_
      refine al_known (by kernel_rfl) ?_
      refine .inl ⟨(i + 1, ((l ++ uv (u64 x4.1)) ++ uv (fold x4.2))), rfl, ⟨?_, ?_, ?_, ?_⟩, ?_, ⟨by kernel_rfl, ⟨by kernel_rfl, by kernel_rfl, by kernel_rfl, by kernel_rfl, trivial⟩, ⟨.ptr ⟨by decide, rfl⟩, sub_clo rfl, sub_clo rfl, sub_clo rfl, trivial⟩, Nat.le_of_ble_eq_true (by kernel_rfl), ⟨by kernel_rfl, (((wf_empty 0).new _).new _), (selfs (all_cons (o := .cells [slL 1 1 (((l ++ uv (u64 x4.1)) ++ uv (fold x4.2)).length)]) (by kernel_rfl) (OSub.cells (.cons (.slice ⟨by decide, rfl⟩) .nil)) (all_cons (o := rowL bcells ((l ++ uv (u64 x4.1)) ++ uv (fold x4.2))) (by kernel_rfl) (OSub.arr (subs_clo (flatL_clo bcells_clo))) (all_none))))⟩, mem_all (by kernel_rfl)⟩⟩
      · (try dsimp only); omega
      · (try dsimp only); rw [i1, catB_succ (by assumption)]; simp only [kb, List.append_assoc]
      · (try dsimp only); exact Nat.le_trans (kb_len (h1.at_ (by assumption))) (by omega)
      · (try dsimp only); assumption
      · omega
    · have c3e : (decide ((((i : Nat) : Int) : Int) < ((ks.length : Nat) : Int))) = false := Eq.trans (by kernel_rfl) h2
      clear h2
      have c3 : ¬ (((i : Nat) : Int) : Int) < ((ks.length : Nat) : Int) := of_decide_eq_false c3e
      clear c3e
      refine al_nil ?_
      refine sk_seq ?_
      refine sk_false (by kernel_rfl) ?_
      refine sk_exit ?_
      dsimp only
      refine .inr ⟨_, _, (fun h => by cases h), ⟨rfl, ?_, rfl, rfl⟩, ⟨by kernel_rfl, ⟨by kernel_rfl, by kernel_rfl, by kernel_rfl, by kernel_rfl, trivial⟩, ⟨.ptr ⟨by decide, rfl⟩, sub_clo rfl, sub_clo rfl, sub_clo rfl, trivial⟩, Nat.le_of_ble_eq_true (by kernel_rfl), ⟨by kernel_rfl, (((wf_empty 0).new _).new _), (selfs (all_cons (o := .cells [slL 1 1 l.length]) (by kernel_rfl) (OSub.cells (.cons (.slice ⟨by decide, rfl⟩) .nil)) (all_cons (o := rowL bcells l) (by kernel_rfl) (OSub.arr (subs_clo (flatL_clo bcells_clo))) (all_none))))⟩, mem_all (by kernel_rfl)⟩⟩
      · omega
  · exact ⟨by ((try dsimp only); first | done | (omega)), by ((try dsimp only); first | done | (simp [catB])), by ((try dsimp only); first | done | (exact app_leN (by have := h1.1; omega) (by omega))), by ((try dsimp only); first | done | (exact h1.1))⟩
  rintro o e1 s1 ⟨a, lv1, M1, m1, ha, ⟨rfl, hx, rfl, rfl⟩, rfl, rfl⟩
  obtain ⟨i, l⟩ := a
  obtain ⟨i0, i1, i2, i3⟩ := ha
  dsimp only at hx i0 i1 i2 i3
  dsimp only
  try rw [if_pos rfl]
  exact ⟨[], by kernel_rfl, rfl, Nat.le_of_ble_eq_true (by kernel_rfl), all2 (Eq.trans (b := some (.cells [slL 1 1 l.length])) (by kernel_rfl) (congrArg some (show ((.cells [slL 1 1 l.length]) : AObj) = .cells [slL 1 1 ((l0 ++ keysB ks).length)] by rw [i1, List.take_of_length_le (by omega), keysB]))) (Eq.trans (b := some (rowL bcells l)) (by kernel_rfl) (congrArg some (show ((rowL bcells l) : AObj) = rowL bcells (l0 ++ keysB ks) by rw [i1, List.take_of_length_le (by omega), keysB])))⟩
noncomputable def sm_putKeys : Small Try.prog 0 65 ((List UInt8) × (List Key)) where
  k := 2
  A := fun z9 ρ => [.pointer (some ⟨(ρ 0), 0, none⟩), inlL kcells 2 z9.2]
  M := fun z9 ρ => objL [.cells [slL (ρ 1) 1 z9.1.length], rowL bcells z9.1]
  M1 := fun z9 ρ => objL [.cells [slL (ρ 1) 1 ((z9.1 ++ keysB z9.2).length)], rowL bcells (z9.1 ++ keysB z9.2)]
  V := fun z9 ρ => .tuple #[]
  Pre := fun z9 => (z9.1.length ≤ 100000000) ∧ (okK z9.2)
  ch := [0, 1]
  N := 400
  s0 := fun z9 => (((St.empty 0).new (.cells [slL 1 1 z9.1.length])).new (rowL bcells z9.1))
  hch := by decide
  hsame := fun x ρ => all2 (fun h => absurd (by decide) h) (fun h => absurd (by decide) h)
  hG := rfl
  hn := fun x => rfl
  hwf := fun x => (((wf_empty 0).new _).new _)
  hget := fun x => all2 (by kernel_rfl) (by kernel_rfl)
  noloop := fun x ρ => all2 (fun h => h.elim) (fun h => h.elim)
  inA := fun x ρ R hR => .cons (.ptr (hR 0 _ (by decide))) (.cons (sub_clo rfl) .nil)
  inM := fun x ρ R hR => all2 (OSub.cells (.cons (.slice (hR 1 _ (by decide))) .nil)) (OSub.arr (subs_clo (flatL_clo bcells_clo)))
  outM := fun x ρ R hR => all2 (OSub.cells (.cons (.slice (hR 1 _ (by decide))) .nil)) (OSub.arr (subs_clo (flatL_clo bcells_clo)))
  outV := fun x ρ R hR => .tuple .nil
  dom := by
    intro x ρ a ha
    simp only [List.mem_cons, List.mem_singleton, List.not_mem_nil, or_false] at ha
    rcases ha with rfl | rfl
    · refine .inl fun β y h => ?_
      obtain ⟨_, _, _, h, _⟩ := h.cons_inv
      exact h.dom_ptr
    · exact .inr fun h => h
  sc := by
    rintro ⟨a0, a1⟩ ⟨p0, p1⟩
    exact putKeys_sc a0 a1 p0 p1
  det := by
    rintro ⟨a0, a1⟩ ρ ⟨b0, b1⟩ σ s h hm hm'
    simp only [List.cons.injEq, and_true, Int.natCast_inj, UInt8.toNat_inj, Value.int.injEq, Value.bool.injEq, Value.string.injEq, Value.agg.injEq, Array.mk.injEq, true_and, Value.pointer.injEq, Option.some.injEq, Addr.mk.injEq, Value.func.injEq, AObj.cells.injEq, AObj.arr.injEq, slL_iff, kcells_iff, bcells_row] at h
    have q0 : ρ 0 = σ 0 := by simp_all
    have e0 := (hm 0 (by decide)).symm.trans ((congrArg s.get q0).trans (hm' 0 (by decide)))
    simp only [objL, List.getD_cons_zero, List.getD_cons_succ, List.cons.injEq, and_true, Int.natCast_inj, UInt8.toNat_inj, Value.int.injEq, Value.bool.injEq, Value.string.injEq, Value.agg.injEq, Array.mk.injEq, true_and, Value.pointer.injEq, Option.some.injEq, Addr.mk.injEq, Value.func.injEq, AObj.cells.injEq, AObj.arr.injEq, slL_iff, kcells_iff, bcells_row] at e0
    have q1 : ρ 1 = σ 1 := by simp_all
    have e1 := (hm 1 (by decide)).symm.trans ((congrArg s.get q1).trans (hm' 1 (by decide)))
    simp only [objL, List.getD_cons_zero, List.getD_cons_succ, List.cons.injEq, and_true, Int.natCast_inj, UInt8.toNat_inj, Value.int.injEq, Value.bool.injEq, Value.string.injEq, Value.agg.injEq, Array.mk.injEq, true_and, Value.pointer.injEq, Option.some.injEq, Addr.mk.injEq, Value.func.injEq, AObj.cells.injEq, AObj.arr.injEq, slL_iff, kcells_iff, bcells_row] at e1
    have q : ∀ a, a < 2 → ρ a = σ a := all2 q0 q1
    clear hm hm'
    exact ⟨by first | rfl | (simp_all [Prod.ext_iff]; done) | exact e0, q⟩
  par := by
    intro x ρ σ h
    have h0 := h 0 (by decide); have h1 := h 1 (by decide)
    exact ⟨by first | rfl | simp only [h0, h1], by first | exact fun _ _ => rfl | (intro a ha; simp only [h0, h1])⟩
noncomputable def con_putKeys : Con Try.prog 0 := sm_putKeys.con
theorem con_putKeys_at (l0 : List UInt8) (ks : List Key) (i0 : Nat) (i1 : Nat) (h0 : l0.length ≤ 100000000) (h1 : okK ks) (s : St) (hn : nodupB [i0, i1] = true) (m0 : s.get i0 = some (.cells [slL i1 1 l0.length])) (m1 : s.get i1 = some (rowL bcells l0)) : con_putKeys.rel [.pointer (some ⟨i0, 0, none⟩), inlL kcells 2 ks] s (.tuple #[]) ((s.set i0 (.cells [slL i1 1 ((l0 ++ keysB ks).length)])).set i1 (rowL bcells (l0 ++ keysB ks))) :=
  sm_putKeys.at_ (l0, ks) [i0, i1] s _ ⟨h0, h1⟩ rfl hn rfl (all2 m0 m1) rfl rfl
end Go.Proofs.Ytegigohhnplomaa