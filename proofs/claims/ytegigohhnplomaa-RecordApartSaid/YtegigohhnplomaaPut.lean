/- The bytes of a foot. -/
import Derived.Test.YtegigohhnplomaaKeys
import Derived.Test.YtegigohhnplomaaGood
set_option linter.unusedVariables false
set_option linter.unusedSimpArgs false
set_option linter.unnecessarySimpa false
namespace Go.Proofs.Ytegigohhnplomaa
open Go.Ai
def sb (x : Span) : List UInt8 := uv (u64 x.1) ++ (uv (fold x.2.1) ++ uv (fold x.2.2))
def spansB (l : List Span) : List UInt8 := uv l.length ++ catB sb l
def footB (rs : List Key) (ss : List Span) (ws : List Key) : List UInt8 := keysB rs ++ (spansB ss ++ keysB ws)
def okS (l : List Span) : Prop := l.length ≤ 4000 ∧ ∀ x ∈ l, in64 x.2.1 ∧ in64 x.2.2
theorem okS.at_ {l : List Span} (h : okS l) {i : Nat} {x : Span} (hi : l[i]? = some x) : in64 x.2.1 ∧ in64 x.2.2 := h.2 x (List.mem_of_getElem? hi)
theorem sb_len {x : Span} (h : in64 x.2.1 ∧ in64 x.2.2) {l : List UInt8} : (l ++ uv (u64 x.1) ++ uv (fold x.2.1) ++ uv (fold x.2.2)).length ≤ l.length + 30 :=
  app_leF h.2 (Nat.add_le_add_right (app_leF h.1 (Nat.add_le_add_right (app_le (Nat.le_refl _)) 10)) 10)
theorem keysB_len {l : List Key} (h : okK l) : (keysB l).length ≤ 80010 := by
  have q := catB_len (f := kb) (c := 20) (l := l) fun x hx => by
    have h1 := uv_len10 (u64_lt x.1)
    have h2 := uv_len10 (fold_lt (h.2 x hx))
    simp only [kb, List.length_append]
    omega
  have q2 := uv_len10 (x := l.length) (by have := h.1; omega)
  have := h.1
  simp only [keysB, List.length_append]
  omega
theorem app_keys {l : List UInt8} {ks : List Key} {B : Nat} (hk : okK ks) (h : l.length + 80010 ≤ B) : (l ++ keysB ks).length ≤ B := by
  have := keysB_len hk
  rw [List.length_append]
  omega
noncomputable def putP (rs : List Key) (ss : List Span) (ws : List Key) : List UInt8 := if tf (goodP rs ss ws) = true then footB rs ss ws else []
theorem fput_fn : Try.cfg.fn 39 = some Try.f39 := by kernel_rfl
set_option maxHeartbeats 4000000 in
set_option maxRecDepth 100000 in
theorem fput_sc (rs : List Key) (ss : List Span) (ws : List Key) (h0 : okK rs) (h1 : okS ss) (h2 : okK ws) : SC Try.prog 0 39 [.agg #[inlL kcells 2 rs, inlL scells 3 ss, inlL kcells 2 ws]] (St.empty 0) fun v s' => v = inlL bcells 1 (putP rs ss ws) ∧ s'.n ≤ 400 := by
  obtain ⟨rc, hS, hC⟩ := rc_con (sound_run Try.cfgOk 300) [con_goodP_, con_putKeys, con_wcount, con_wnum, con_wout] (by kernel_rfl)
  have hC33 := hC con_goodP_ (.head _)
  have hC65 := hC con_putKeys (.tail _ (.head _))
  have hC35 := hC con_wcount (.tail _ (.tail _ (.head _)))
  have hC41 := hC con_wnum (.tail _ (.tail _ (.tail _ (.head _))))
  have hC40 := hC con_wout (.tail _ (.tail _ (.tail _ (.tail _ (.head _)))))
  refine sc_ice0 (N := 400) (v2 := inlL bcells 1 (putP rs ss ws)) (Q := fun v s' => FS 0 s' v (inlL bcells 1 (putP rs ss ws)) ∧ s'.n ≤ 400) ?_ (fun _ _ h => h)
  refine sc_body Try.cfgOk fput_fn rfl ?_
  refine sk_seq ?_
  refine sk_regionK Try.cfgOk hS (by kernel_rfl) ?_
  refine sk_seq (sk_seq ?_)
  refine sk_regionL Try.cfgOk hS ?_
  refine al_chunk 1 (by kernel_rfl) ?_
  refine al_callB 33 [.agg #[inlL kcells 2 rs, inlL scells 3 ss, inlL kcells 2 ws]] (tf (goodP rs ss ws)) _ rfl (fun b h => by cases h) (by kernel_rfl) (by kernel_rfl) (hC33 _ _ _ _ (con_goodP__at rs ss ws (by first | omega | assumption | exact u64_lt _ | exact (h1.at_ (by assumption)).1 | exact (h1.at_ (by assumption)).2 | exact app_leN (by omega) (by have q := keysB_len h0; omega) | exact app_keys (by assumption) (by simp only [List.length_nil]; omega) | exact app_keys (by assumption) (by omega) | (exact app_le (by omega)) | exact app_leF (h1.at_ (by assumption)).1 (Nat.le_trans (Nat.add_le_add_right (app_le (Nat.le_refl _)) 10) (by omega)) | (have q := h0.1; omega) | (have q := h1.1; omega) | (have q := h2.1; omega) | simp) (by first | omega | assumption | exact u64_lt _ | exact (h1.at_ (by assumption)).1 | exact (h1.at_ (by assumption)).2 | exact app_leN (by omega) (by have q := keysB_len h0; omega) | exact app_keys (by assumption) (by simp only [List.length_nil]; omega) | exact app_keys (by assumption) (by omega) | (exact app_le (by omega)) | exact app_leF (h1.at_ (by assumption)).1 (Nat.le_trans (Nat.add_le_add_right (app_le (Nat.le_refl _)) 10) (by omega)) | (have q := h0.1; omega) | (have q := h1.1; omega) | (have q := h2.1; omega) | simp) (by first | omega | assumption | exact u64_lt _ | exact (h1.at_ (by assumption)).1 | exact (h1.at_ (by assumption)).2 | exact app_leN (by omega) (by have q := keysB_len h0; omega) | exact app_keys (by assumption) (by simp only [List.length_nil]; omega) | exact app_keys (by assumption) (by omega) | (exact app_le (by omega)) | exact app_leF (h1.at_ (by assumption)).1 (Nat.le_trans (Nat.add_le_add_right (app_le (Nat.le_refl _)) 10) (by omega)) | (have q := h0.1; omega) | (have q := h1.1; omega) | (have q := h2.1; omega) | simp) _)) (fun h1 => ?_) (fun h1 => ?_)
  · have c2 : goodP rs ss ws := tf_t h1
    clear h1
    refine al_known (by kernel_rfl) ?_
    refine sk_false (by kernel_rfl) ?_
    refine sk_skip (sk_seq ?_)
    refine sk_regionK Try.cfgOk hS (by kernel_rfl) ?_
    refine sk_seq ?_
    refine sk_live 48 [(1, .pointer (some ⟨0, 0, none⟩)), (3, .pointer (some ⟨1, 0, none⟩))] (by kernel_rfl) ⟨by kernel_rfl, by kernel_rfl, trivial⟩ fun m3 => ?_
    refine sk_st (((St.empty 0).new (.cells [inlL kcells 2 rs, inlL scells 3 ss, inlL kcells 2 ws])).new (.cells [.slice none 0 0])) (by kernel_rfl) ?_
    refine virt_cell 3 1 0 1 [] [] (by decide) (((wf_empty 0).new _).new _) (by kernel_rfl) (by kernel_rfl) (by decide) ?_
    refine sk_st ((((St.empty 0).new (.cells [inlL kcells 2 rs, inlL scells 3 ss, inlL kcells 2 ws])).new (.cells [slL 2 1 (([] : List UInt8).length)])).new (rowL bcells ([] : List UInt8))) (by kernel_rfl) ?_
    refine sk_regionL Try.cfgOk hS ?_
    refine al_chunk 3 (by kernel_rfl) ?_
    refine al_callH 65 [.pointer (some ⟨1, 0, none⟩), inlL kcells 2 rs] (.tuple #[]) _ rfl (fun b h => by cases h) (by kernel_rfl) (by kernel_rfl) (hC65 _ _ _ _ (con_putKeys_at ([] : List UInt8) rs 1 2 (by first | omega | assumption | exact u64_lt _ | exact (h1.at_ (by assumption)).1 | exact (h1.at_ (by assumption)).2 | exact app_leN (by omega) (by have q := keysB_len h0; omega) | exact app_keys (by assumption) (by simp only [List.length_nil]; omega) | exact app_keys (by assumption) (by omega) | (exact app_le (by omega)) | exact app_leF (h1.at_ (by assumption)).1 (Nat.le_trans (Nat.add_le_add_right (app_le (Nat.le_refl _)) 10) (by omega)) | (have q := h0.1; omega) | (have q := h1.1; omega) | (have q := h2.1; omega) | simp) (by first | omega | assumption | exact u64_lt _ | exact (h1.at_ (by assumption)).1 | exact (h1.at_ (by assumption)).2 | exact app_leN (by omega) (by have q := keysB_len h0; omega) | exact app_keys (by assumption) (by simp only [List.length_nil]; omega) | exact app_keys (by assumption) (by omega) | (exact app_le (by omega)) | exact app_leF (h1.at_ (by assumption)).1 (Nat.le_trans (Nat.add_le_add_right (app_le (Nat.le_refl _)) 10) (by omega)) | (have q := h0.1; omega) | (have q := h1.1; omega) | (have q := h2.1; omega) | simp) _ (by kernel_rfl) (by kernel_rfl) (by kernel_rfl) )) ?_
    refine al_nil ?_
    refine sk_seq ?_
    refine sk_regionL Try.cfgOk hS ?_
    refine al_chunk 3 (by kernel_rfl) ?_
    refine al_map (lenB Try.cfg (St.empty 0) 26 (inlL scells 3 ss)) (.int .i64 ((ss.length : Nat) : Int)) (by kernel_rfl) (by kernel_rfl) (by kernel_rfl) (len_inl tokC (by kernel_rfl)) ?_
    refine al_eqv (v := .int .u64 (IntKind.wrap .u64 ((ss.length : Nat) : Int))) (.int .u64 ((ss.length : Nat) : Int)) (by kernel_rfl) (by kernel_rfl) (by kernel_rfl) (congrArg (Value.int .u64) ((wrap_u64 _).trans (congrArg Nat.cast (u64_nat (by first | omega | (have q := h1.1; omega)))))) ?_
    refine al_callH 35 [.pointer (some ⟨1, 0, none⟩), .int .u64 ((ss.length : Nat) : Int)] (.tuple #[]) _ rfl (fun b h => by cases h) (by kernel_rfl) (by kernel_rfl) (hC35 _ _ _ _ (con_wcount_at (([] : List UInt8) ++ keysB rs) ss.length 1 2 (by first | omega | assumption | exact u64_lt _ | exact (h1.at_ (by assumption)).1 | exact (h1.at_ (by assumption)).2 | exact app_leN (by omega) (by have q := keysB_len h0; omega) | exact app_keys (by assumption) (by simp only [List.length_nil]; omega) | exact app_keys (by assumption) (by omega) | (exact app_le (by omega)) | exact app_leF (h1.at_ (by assumption)).1 (Nat.le_trans (Nat.add_le_add_right (app_le (Nat.le_refl _)) 10) (by omega)) | (have q := h0.1; omega) | (have q := h1.1; omega) | (have q := h2.1; omega) | simp) (by first | omega | assumption | exact u64_lt _ | exact (h1.at_ (by assumption)).1 | exact (h1.at_ (by assumption)).2 | exact app_leN (by omega) (by have q := keysB_len h0; omega) | exact app_keys (by assumption) (by simp only [List.length_nil]; omega) | exact app_keys (by assumption) (by omega) | (exact app_le (by omega)) | exact app_leF (h1.at_ (by assumption)).1 (Nat.le_trans (Nat.add_le_add_right (app_le (Nat.le_refl _)) 10) (by omega)) | (have q := h0.1; omega) | (have q := h1.1; omega) | (have q := h2.1; omega) | simp) _ (by kernel_rfl) (by kernel_rfl) (by kernel_rfl) )) ?_
    refine al_nil ?_
    refine sk_seq (sk_seq ?_)
    refine sk_regionL Try.cfgOk hS ?_
    refine al_chunk 2 (by kernel_rfl) ?_
    refine al_map (lenB Try.cfg (St.empty 0) 26 (inlL scells 3 ss)) (.int .i64 ((ss.length : Nat) : Int)) (by kernel_rfl) (by kernel_rfl) (by kernel_rfl) (len_inl tokC (by kernel_rfl)) ?_
    refine al_known (by kernel_rfl) ?_
    refine sk_block ?_
    refine sk_live 48 ((fun a : Nat × (List UInt8) => [(1, .pointer (some ⟨0, 0, none⟩)), (3, .pointer (some ⟨1, 0, none⟩)), (22, inlL scells 3 ss), (23, .int .i64 ((ss.length : Nat) : Int)), (24, .int .i64 ((a.1 : Nat) : Int))]) (0, ((([] : List UInt8) ++ keysB rs) ++ uv ss.length))) (by kernel_rfl) ⟨by kernel_rfl, by kernel_rfl, by kernel_rfl, by kernel_rfl, by kernel_rfl, trivial⟩ fun m4 => ?_
    refine sk_st ((fun a : Nat × (List UInt8) => ((((St.empty 0).new (.cells [inlL kcells 2 rs, inlL scells 3 ss, inlL kcells 2 ws])).new (.cells [slL 2 1 a.2.length])).new (rowL bcells a.2))) (0, ((([] : List UInt8) ++ keysB rs) ++ uv ss.length))) (by kernel_rfl) ?_
    refine (sk_while (k := 3) (N := 400) (live := (fun a : Nat × (List UInt8) => [(1, .pointer (some ⟨0, 0, none⟩)), (3, .pointer (some ⟨1, 0, none⟩)), (22, inlL scells 3 ss), (23, .int .i64 ((ss.length : Nat) : Int)), (24, .int .i64 ((a.1 : Nat) : Int))])) (M := (fun a : Nat × (List UInt8) => ((((St.empty 0).new (.cells [inlL kcells 2 rs, inlL scells 3 ss, inlL kcells 2 ws])).new (.cells [slL 2 1 a.2.length])).new (rowL bcells a.2)))) (fun a : Nat × (List UInt8) => (a.1 ≤ ss.length) ∧ (a.2 = keysB rs ++ (uv ss.length ++ catB sb (ss.take a.1))) ∧ (a.2.length ≤ 80020 + 30 * a.1) ∧ (ss.length ≤ 4000)) (fun a : Nat × (List UInt8) => ss.length - a.1) (fun (a : Nat × (List UInt8)) (o : Out) (lv : List (Nat × Value)) (M : St) => (o = .exit 0 ∧ (¬ a.1 < ss.length) ∧ lv = [(1, .pointer (some ⟨0, 0, none⟩)), (3, .pointer (some ⟨1, 0, none⟩)), (22, inlL scells 3 ss), (23, .int .i64 ((ss.length : Nat) : Int)), (24, .int .i64 ((a.1 : Nat) : Int))] ∧ M = ((((St.empty 0).new (.cells [inlL kcells 2 rs, inlL scells 3 ss, inlL kcells 2 ws])).new (.cells [slL 2 1 a.2.length])).new (rowL bcells a.2)))) (Nat.zero_le _) (fun a ha => ?_) (fun a ha => ?_) (fun a m ha => ?_) (fun a m ha => ?_) (0, ((([] : List UInt8) ++ keysB rs) ++ uv ss.length)) m4 ?_).up ?_
    · exact ⟨by kernel_rfl, ((((wf_empty 0).new _).new _).new _), (selfs (all_cons (o := .cells [inlL kcells 2 rs, inlL scells 3 ss, inlL kcells 2 ws]) (by kernel_rfl) (OSub.cells (.cons (sub_clo rfl) (.cons (sub_clo rfl) (.cons (sub_clo rfl) .nil)))) (all_cons (o := .cells [slL 2 1 a.2.length]) (by kernel_rfl) (OSub.cells (.cons (.slice ⟨by decide, rfl⟩) .nil)) (all_cons (o := rowL bcells a.2) (by kernel_rfl) (OSub.arr (subs_clo (flatL_clo bcells_clo))) (all_none)))))⟩
    · exact ⟨.ptr ⟨by decide, rfl⟩, .ptr ⟨by decide, rfl⟩, sub_clo rfl, sub_clo rfl, sub_clo rfl, trivial⟩
    · exact ⟨by kernel_rfl, by kernel_rfl, by kernel_rfl, by kernel_rfl, by kernel_rfl, trivial⟩
    · obtain ⟨i, l⟩ := a
      obtain ⟨i0, i1, i2, i3⟩ := ha
      dsimp only at i0 i1 i2 i3
      refine sk_seq ?_
      refine sk_regionL Try.cfgOk hS ?_
      refine al_test (by kernel_rfl) (by kernel_rfl) (by kernel_rfl) (fun h5 => ?_) (fun h5 => ?_)
      · have c6e : (decide ((((i : Nat) : Int) : Int) < ((ss.length : Nat) : Int))) = true := Eq.trans (by kernel_rfl) h5
        clear h5
        have c6 : (((i : Nat) : Int) : Int) < ((ss.length : Nat) : Int) := of_decide_eq_true c6e
        clear c6e
        refine al_nil ?_
        refine sk_seq ?_
        refine sk_true (by kernel_rfl) ?_
        refine sk_skip (sk_seq (sk_block (sk_seq ?_)))
        refine sk_regionL Try.cfgOk hS ?_
        refine al_map (indexAddrV Try.cfg 26 (inlL scells 3 ss) (.int .i64 ((i : Nat) : Int))) (elt (flatL scells ss) (i * 3)) (by kernel_rfl) (by kernel_rfl) (by kernel_rfl) (idx_inlL tokC (by kernel_rfl) (by first | omega | simp)) ?_
        have hx7l : i < ss.length := by omega
        refine Exists.elim (get_ex hx7l) fun x7 hx7 => ?_
        clear hx7l
        refine al_map (loadV Try.cfg (St.empty 0) 71 (elt (flatL scells ss) (i * 3))) (.agg #[.int .i64 x7.1, .int .i64 x7.2.1, .int .i64 x7.2.2]) (by kernel_rfl) (by kernel_rfl) (by kernel_rfl) (load_el tokC (by kernel_rfl) scells_len hx7) ?_
        refine al_known (by kernel_rfl) ?_
        refine sk_seq ?_
        refine sk_regionL Try.cfgOk hS ?_
        refine al_chunk 3 (by kernel_rfl) ?_
        refine al_eqv (v := .int .u64 (IntKind.wrap .u64 x7.1)) (.int .u64 ((u64 x7.1 : Nat) : Int)) (by kernel_rfl) (by kernel_rfl) (by kernel_rfl) (congrArg (Value.int .u64) (wrap_u64 _)) ?_
        refine al_callH 35 [.pointer (some ⟨1, 0, none⟩), .int .u64 ((u64 x7.1 : Nat) : Int)] (.tuple #[]) _ rfl (fun b h => by cases h) (by kernel_rfl) (by kernel_rfl) (hC35 _ _ _ _ (con_wcount_at l (u64 x7.1) 1 2 (by first | omega | assumption | exact u64_lt _ | exact (h1.at_ (by assumption)).1 | exact (h1.at_ (by assumption)).2 | exact app_leN (by omega) (by have q := keysB_len h0; omega) | exact app_keys (by assumption) (by simp only [List.length_nil]; omega) | exact app_keys (by assumption) (by omega) | (exact app_le (by omega)) | exact app_leF (h1.at_ (by assumption)).1 (Nat.le_trans (Nat.add_le_add_right (app_le (Nat.le_refl _)) 10) (by omega)) | (have q := h0.1; omega) | (have q := h1.1; omega) | (have q := h2.1; omega) | simp) (by first | omega | assumption | exact u64_lt _ | exact (h1.at_ (by assumption)).1 | exact (h1.at_ (by assumption)).2 | exact app_leN (by omega) (by have q := keysB_len h0; omega) | exact app_keys (by assumption) (by simp only [List.length_nil]; omega) | exact app_keys (by assumption) (by omega) | (exact app_le (by omega)) | exact app_leF (h1.at_ (by assumption)).1 (Nat.le_trans (Nat.add_le_add_right (app_le (Nat.le_refl _)) 10) (by omega)) | (have q := h0.1; omega) | (have q := h1.1; omega) | (have q := h2.1; omega) | simp) _ (by kernel_rfl) (by kernel_rfl) (by kernel_rfl) )) ?_
        refine al_nil ?_
        refine sk_seq ?_
        refine sk_regionL Try.cfgOk hS ?_
        refine al_chunk 3 (by kernel_rfl) ?_
        refine al_callH 41 [.pointer (some ⟨1, 0, none⟩), .int .i64 x7.2.1] (.tuple #[]) _ rfl (fun b h => by cases h) (by kernel_rfl) (by kernel_rfl) (hC41 _ _ _ _ (con_wnum_at (l ++ uv (u64 x7.1)) x7.2.1 1 2 (by first | omega | assumption | exact u64_lt _ | exact (h1.at_ (by assumption)).1 | exact (h1.at_ (by assumption)).2 | exact app_leN (by omega) (by have q := keysB_len h0; omega) | exact app_keys (by assumption) (by simp only [List.length_nil]; omega) | exact app_keys (by assumption) (by omega) | (exact app_le (by omega)) | exact app_leF (h1.at_ (by assumption)).1 (Nat.le_trans (Nat.add_le_add_right (app_le (Nat.le_refl _)) 10) (by omega)) | (have q := h0.1; omega) | (have q := h1.1; omega) | (have q := h2.1; omega) | simp) (by first | omega | assumption | exact u64_lt _ | exact (h1.at_ (by assumption)).1 | exact (h1.at_ (by assumption)).2 | exact app_leN (by omega) (by have q := keysB_len h0; omega) | exact app_keys (by assumption) (by simp only [List.length_nil]; omega) | exact app_keys (by assumption) (by omega) | (exact app_le (by omega)) | exact app_leF (h1.at_ (by assumption)).1 (Nat.le_trans (Nat.add_le_add_right (app_le (Nat.le_refl _)) 10) (by omega)) | (have q := h0.1; omega) | (have q := h1.1; omega) | (have q := h2.1; omega) | simp) _ (by kernel_rfl) (by kernel_rfl) (by kernel_rfl) )) ?_
        refine al_nil ?_
        refine sk_regionL Try.cfgOk hS ?_
        refine al_chunk 3 (by kernel_rfl) ?_
        refine al_callH 41 [.pointer (some ⟨1, 0, none⟩), .int .i64 x7.2.2] (.tuple #[]) _ rfl (fun b h => by cases h) (by kernel_rfl) (by kernel_rfl) (hC41 _ _ _ _ (con_wnum_at ((l ++ uv (u64 x7.1)) ++ uv (fold x7.2.1)) x7.2.2 1 2 (by first | omega | assumption | exact u64_lt _ | exact (h1.at_ (by assumption)).1 | exact (h1.at_ (by assumption)).2 | exact app_leN (by omega) (by have q := keysB_len h0; omega) | exact app_keys (by assumption) (by simp only [List.length_nil]; omega) | exact app_keys (by assumption) (by omega) | (exact app_le (by omega)) | exact app_leF (h1.at_ (by assumption)).1 (Nat.le_trans (Nat.add_le_add_right (app_le (Nat.le_refl _)) 10) (by omega)) | (have q := h0.1; omega) | (have q := h1.1; omega) | (have q := h2.1; omega) | simp) (by first | omega | assumption | exact u64_lt _ | exact (h1.at_ (by assumption)).1 | exact (h1.at_ (by assumption)).2 | exact app_leN (by omega) (by have q := keysB_len h0; omega) | exact app_keys (by assumption) (by simp only [List.length_nil]; omega) | exact app_keys (by assumption) (by omega) | (exact app_le (by omega)) | exact app_leF (h1.at_ (by assumption)).1 (Nat.le_trans (Nat.add_le_add_right (app_le (Nat.le_refl _)) 10) (by omega)) | (have q := h0.1; omega) | (have q := h1.1; omega) | (have q := h2.1; omega) | simp) _ (by kernel_rfl) (by kernel_rfl) (by kernel_rfl) )) ?_
        refine al_nil ?_
        refine sk_regionL Try.cfgOk hS ?_
        refine al_eqv (v := .int .i64 (IntKind.wrap .i64 (((i : Nat) : Int) + 1))) (.int .i64 ((i + 1 : Nat) : Int)) (by kernel_rfl) (by kernel_rfl) (by kernel_rfl) (congrArg (Value.int .i64) (wrap_to (by omega) (by omega))) ?_
        refine al_known (by kernel_rfl) ?_
        refine .inl ⟨(i + 1, (((l ++ uv (u64 x7.1)) ++ uv (fold x7.2.1)) ++ uv (fold x7.2.2))), rfl, ⟨?_, ?_, ?_, ?_⟩, ?_, ⟨by kernel_rfl, ⟨by kernel_rfl, by kernel_rfl, by kernel_rfl, by kernel_rfl, by kernel_rfl, trivial⟩, ⟨.ptr ⟨by decide, rfl⟩, .ptr ⟨by decide, rfl⟩, sub_clo rfl, sub_clo rfl, sub_clo rfl, trivial⟩, Nat.le_of_ble_eq_true (by kernel_rfl), ⟨by kernel_rfl, ((((wf_empty 0).new _).new _).new _), (selfs (all_cons (o := .cells [inlL kcells 2 rs, inlL scells 3 ss, inlL kcells 2 ws]) (by kernel_rfl) (OSub.cells (.cons (sub_clo rfl) (.cons (sub_clo rfl) (.cons (sub_clo rfl) .nil)))) (all_cons (o := .cells [slL 2 1 ((((l ++ uv (u64 x7.1)) ++ uv (fold x7.2.1)) ++ uv (fold x7.2.2)).length)]) (by kernel_rfl) (OSub.cells (.cons (.slice ⟨by decide, rfl⟩) .nil)) (all_cons (o := rowL bcells (((l ++ uv (u64 x7.1)) ++ uv (fold x7.2.1)) ++ uv (fold x7.2.2))) (by kernel_rfl) (OSub.arr (subs_clo (flatL_clo bcells_clo))) (all_none)))))⟩, mem_all (by kernel_rfl)⟩⟩
        · (try dsimp only); omega
        · (try dsimp only); rw [i1, catB_succ (by assumption)]; simp only [sb, List.append_assoc]
        · (try dsimp only); exact Nat.le_trans (sb_len (h1.at_ (by assumption))) (by omega)
        · (try dsimp only); assumption
        · omega
      · have c6e : (decide ((((i : Nat) : Int) : Int) < ((ss.length : Nat) : Int))) = false := Eq.trans (by kernel_rfl) h5
        clear h5
        have c6 : ¬ (((i : Nat) : Int) : Int) < ((ss.length : Nat) : Int) := of_decide_eq_false c6e
        clear c6e
        refine al_nil ?_
        refine sk_seq ?_
        refine sk_false (by kernel_rfl) ?_
        refine sk_exit ?_
        dsimp only
        refine .inr ⟨_, _, (fun h => by cases h), ⟨rfl, ?_, rfl, rfl⟩, ⟨by kernel_rfl, ⟨by kernel_rfl, by kernel_rfl, by kernel_rfl, by kernel_rfl, by kernel_rfl, trivial⟩, ⟨.ptr ⟨by decide, rfl⟩, .ptr ⟨by decide, rfl⟩, sub_clo rfl, sub_clo rfl, sub_clo rfl, trivial⟩, Nat.le_of_ble_eq_true (by kernel_rfl), ⟨by kernel_rfl, ((((wf_empty 0).new _).new _).new _), (selfs (all_cons (o := .cells [inlL kcells 2 rs, inlL scells 3 ss, inlL kcells 2 ws]) (by kernel_rfl) (OSub.cells (.cons (sub_clo rfl) (.cons (sub_clo rfl) (.cons (sub_clo rfl) .nil)))) (all_cons (o := .cells [slL 2 1 l.length]) (by kernel_rfl) (OSub.cells (.cons (.slice ⟨by decide, rfl⟩) .nil)) (all_cons (o := rowL bcells l) (by kernel_rfl) (OSub.arr (subs_clo (flatL_clo bcells_clo))) (all_none)))))⟩, mem_all (by kernel_rfl)⟩⟩
        · omega
    · exact ⟨by ((try dsimp only); first | done | (omega)), by ((try dsimp only); first | done | (simp [catB])), by ((try dsimp only); first | done | (exact app_leN (by have := h1.1; omega) (by have := keysB_len h0; simp only [List.nil_append]; omega))), by ((try dsimp only); first | done | (exact h1.1))⟩
    rintro o e1 s1 ⟨a, lv1, M1, m4, ha, ⟨rfl, hx, rfl, rfl⟩, rfl, rfl⟩
    obtain ⟨i, l⟩ := a
    obtain ⟨i0, i1, i2, i3⟩ := ha
    dsimp only at hx i0 i1 i2 i3
    dsimp only
    try rw [if_pos rfl]
    refine sk_seq ?_
    refine sk_regionL Try.cfgOk hS ?_
    refine al_chunk 3 (by kernel_rfl) ?_
    refine al_callH 65 [.pointer (some ⟨1, 0, none⟩), inlL kcells 2 ws] (.tuple #[]) _ rfl (fun b h => by cases h) (by kernel_rfl) (by kernel_rfl) (hC65 _ _ _ _ (con_putKeys_at l ws 1 2 (by first | omega | assumption | exact u64_lt _ | exact (h1.at_ (by assumption)).1 | exact (h1.at_ (by assumption)).2 | exact app_leN (by omega) (by have q := keysB_len h0; omega) | exact app_keys (by assumption) (by simp only [List.length_nil]; omega) | exact app_keys (by assumption) (by omega) | (exact app_le (by omega)) | exact app_leF (h1.at_ (by assumption)).1 (Nat.le_trans (Nat.add_le_add_right (app_le (Nat.le_refl _)) 10) (by omega)) | (have q := h0.1; omega) | (have q := h1.1; omega) | (have q := h2.1; omega) | simp) (by first | omega | assumption | exact u64_lt _ | exact (h1.at_ (by assumption)).1 | exact (h1.at_ (by assumption)).2 | exact app_leN (by omega) (by have q := keysB_len h0; omega) | exact app_keys (by assumption) (by simp only [List.length_nil]; omega) | exact app_keys (by assumption) (by omega) | (exact app_le (by omega)) | exact app_leF (h1.at_ (by assumption)).1 (Nat.le_trans (Nat.add_le_add_right (app_le (Nat.le_refl _)) 10) (by omega)) | (have q := h0.1; omega) | (have q := h1.1; omega) | (have q := h2.1; omega) | simp) _ (by kernel_rfl) (by kernel_rfl) (by kernel_rfl) )) ?_
    refine al_nil ?_
    refine sk_seq ?_
    refine sk_regionL Try.cfgOk hS ?_
    refine al_chunk 1 (by kernel_rfl) ?_
    refine al_callH 40 [.pointer (some ⟨1, 0, none⟩)] (inlL bcells 1 (l ++ keysB ws)) _ rfl (fun b h => by cases h) (by kernel_rfl) (by kernel_rfl) (hC40 _ _ _ _ (con_wout_at (l ++ keysB ws) 1 2 (by first | omega | assumption | exact u64_lt _ | exact (h1.at_ (by assumption)).1 | exact (h1.at_ (by assumption)).2 | exact app_leN (by omega) (by have q := keysB_len h0; omega) | exact app_keys (by assumption) (by simp only [List.length_nil]; omega) | exact app_keys (by assumption) (by omega) | (exact app_le (by omega)) | exact app_leF (h1.at_ (by assumption)).1 (Nat.le_trans (Nat.add_le_add_right (app_le (Nat.le_refl _)) 10) (by omega)) | (have q := h0.1; omega) | (have q := h1.1; omega) | (have q := h2.1; omega) | simp) _ (by kernel_rfl) (by kernel_rfl) (by kernel_rfl) )) ?_
    refine al_known (by kernel_rfl) ?_
    refine sk_ret ?_
    exact ⟨[inlL bcells 1 (l ++ keysB ws)], by kernel_rfl, fs_to (fs_clo rfl) (congrArg (inlL bcells 1) (by first | (rw [putP, tf_false (by assumption)]; rfl) | (rw [putP, tf_true (by assumption), if_pos rfl, i1, List.take_of_length_le (by omega)]; simp only [footB, spansB, List.append_assoc]))), Nat.le_of_ble_eq_true (by kernel_rfl)⟩
  · have c2 : ¬ (goodP rs ss ws) := tf_f h1
    clear h1
    refine al_known (by kernel_rfl) ?_
    refine sk_true (by kernel_rfl) ?_
    refine sk_seq ?_
    refine sk_regionK Try.cfgOk hS (by kernel_rfl) ?_
    refine sk_ret ?_
    exact ⟨[.slice none 0 0], by kernel_rfl, fs_to (fs_nilL (f := bcells) (sz := 1) (by decide)) (congrArg (inlL bcells 1) (by first | (rw [putP, tf_false (by assumption)]; rfl) | (rw [putP, tf_true (by assumption), if_pos rfl, i1, List.take_of_length_le (by omega)]; simp only [footB, spansB, List.append_assoc]))), Nat.le_of_ble_eq_true (by kernel_rfl)⟩
noncomputable def con_fput : Con Try.prog 0 := Con.pure (α := (List Key) × (List Span) × (List Key)) 39 (fun z9 => [.agg #[inlL kcells 2 z9.1, inlL scells 3 z9.2.1, inlL kcells 2 z9.2.2]]) (fun z9 => inlL bcells 1 (putP z9.1 z9.2.1 z9.2.2)) (fun z9 => (okK z9.1) ∧ (okS z9.2.1) ∧ (okK z9.2.2)) (by
  rintro ⟨a0, a1, a2⟩ ⟨b0, b1, b2⟩ h
  simp only [List.cons.injEq, and_true, Int.natCast_inj, UInt8.toNat_inj, Value.int.injEq, Value.bool.injEq, Value.string.injEq, Value.agg.injEq, Array.mk.injEq, true_and, kcells_iff, scells_iff] at h
  first | exact h | (simp only [Prod.ext_iff, h, and_self, and_true, true_and]; done) | simp_all [Prod.ext_iff]) (fun _ => rfl) (fun _ => rfl) 400 (by
  rintro ⟨a0, a1, a2⟩ ⟨p0, p1, p2⟩
  exact fput_sc a0 a1 a2 p0 p1 p2)
theorem con_fput_at (rs : List Key) (ss : List Span) (ws : List Key) (h0 : okK rs) (h1 : okS ss) (h2 : okK ws) (s : St) : con_fput.rel [.agg #[inlL kcells 2 rs, inlL scells 3 ss, inlL kcells 2 ws]] s (inlL bcells 1 (putP rs ss ws)) s := con_pure (rs, ss, ws) ⟨h0, h1, h2⟩ s
end Go.Proofs.Ytegigohhnplomaa