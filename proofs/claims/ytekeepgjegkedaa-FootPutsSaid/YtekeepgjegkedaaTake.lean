/- A foot is taken of bytes. -/
import Derived.Test.YtekeepgjegkedaaGoodRow
import Derived.Test.YtekeepgjegkedaaPut
set_option linter.unusedVariables false
set_option linter.unusedSimpArgs false
set_option linter.unnecessarySimpa false
namespace Go.Proofs.Ytekeepgjegkedaa
open Go.Ai
noncomputable def takeV (b : List UInt8) : Value := if tf (takeP b) = true then .tuple #[.agg #[inlL kcells 2 (rk b), inlL scells 3 (rs b), inlL kcells 2 (rkw b)], .nilIface] else .tuple #[.agg #[inlL kcells 2 ([] : List Key), inlL scells 3 ([] : List Span), inlL kcells 2 ([] : List Key)], errForm]
theorem takeV_clo (b : List UInt8) : clo (takeV b) = true := by unfold takeV; split <;> rfl
theorem takeV_t {b : List UInt8} (h : takeP b) : takeV b = .tuple #[.agg #[inlL kcells 2 (rk b), inlL scells 3 (rs b), inlL kcells 2 (rkw b)], .nilIface] := by rw [takeV, tf_true h, if_pos rfl]
theorem takeV_f {b : List UInt8} (h : ¬ takeP b) : takeV b = .tuple #[.agg #[inlL kcells 2 ([] : List Key), inlL scells 3 ([] : List Span), inlL kcells 2 ([] : List Key)], errForm] := by rw [takeV, tf_false h]; rfl
theorem take_at {b : List UInt8} {acc : List Span} {cb : List UInt8} {cbad : Bool} {N : Nat} (i0 : (acc ++ (tss N cb cbad).1, (tss N cb cbad).2) = tspans (tkeys b false).2.1 (tkeys b false).2.2) (hx : cb = [] ∨ N = 0) : rs b = acc ∧ rkw b = (tkeys cb cbad).1 ∧ re2 b = (tkeys cb cbad).2 := by
  rw [tss_stop hx, List.append_nil] at i0
  refine ⟨?_, ?_, ?_⟩
  · rw [rs, rs2, ← i0]
  · rw [rkw, rw2, rs2, ← i0]
  · rw [re2, rw2, rs2, ← i0]
theorem take_iff {b : List UInt8} {acc : List Span} {cb : List UInt8} {cbad : Bool} {N : Nat} (i0 : (acc ++ (tss N cb cbad).1, (tss N cb cbad).2) = tspans (tkeys b false).2.1 (tkeys b false).2.2) (hx : cb = [] ∨ N = 0) : takeP b ↔ goodP (tkeys b false).1 acc (tkeys cb cbad).1 ∧ ¬ ((tkeys cb cbad).2.2 = true ∨ (tkeys cb cbad).2.1 ≠ []) ∧ putP (tkeys b false).1 acc (tkeys cb cbad).1 = b := by
  obtain ⟨e1, e2, e3⟩ := take_at i0 hx
  rw [takeP, e1, e2, e3]
  show goodP (tkeys b false).1 acc (tkeys cb cbad).1 ∧ _ ∧ footB (tkeys b false).1 acc (tkeys cb cbad).1 = b ↔ _
  refine and_congr_right fun hg => ?_
  rw [putP, tf_true hg, if_pos rfl]
  refine and_congr_left fun _ => ?_
  constructor
  · intro h; rw [h]; simp
  · intro h
    have h1 := not_or.1 h
    exact Prod.ext (Classical.not_not.1 h1.2) (by simpa using h1.1)
theorem footB_len {ar : List Key} {az : List Span} {aw : List Key} (h0 : okK ar) (h1 : okS az) (h2 : okK aw) : (footB ar az aw).length ≤ 300000 := by
  have k0 := keysB_len h0
  have k2 := keysB_len h2
  have q := catB_len (f := sb) (c := 30) (l := az) fun x hx => by
    have h3 := uv_len10 (u64_lt x.1)
    have h4 := uv_len10 (fold_lt (h1.2 x hx).1)
    have h5 := uv_len10 (fold_lt (h1.2 x hx).2)
    simp only [sb, List.length_append]
    omega
  have q2 := uv_len10 (x := az.length) (by have := h1.1; omega)
  have := h1.1
  simp only [footB, spansB, List.length_append]
  omega
theorem putP_len {ar : List Key} {az : List Span} {aw : List Key} (h0 : okK ar) (h1 : okS az) (h2 : okK aw) : (putP ar az aw).length ≤ 2 * 1000000000 := by
  have := footB_len h0 h1 h2
  unfold putP
  split
  · omega
  · simp
theorem ftake_fn : Try.cfg.fn 25 = some Try.f25 := by kernel_rfl
set_option maxHeartbeats 4000000 in
set_option maxRecDepth 100000 in
theorem ftake_sc (b : List UInt8) (h0 : b.length ≤ 1000000000) (h1 : okK (rk b)) (h2 : okS (rs b)) (h3 : okK (rkw b)) : SC Try.prog 0 25 [inlL bcells 1 b] (St.empty 0) fun v s' => v = takeV b ∧ s'.n ≤ 400 := by
  obtain ⟨rc, hS, hC⟩ := rc_con (sound_run Try.cfgOk 300) [con_newReader, con_takeKeys, con_fsmall, con_rleft, con_rdnum, con_goodPr, con_rend, con_fputr, con_sequal] (by kernel_rfl)
  have hC54 := hC con_newReader (.head _)
  have hC55 := hC con_takeKeys (.tail _ (.head _))
  have hC56 := hC con_fsmall (.tail _ (.tail _ (.head _)))
  have hC57 := hC con_rleft (.tail _ (.tail _ (.tail _ (.head _))))
  have hC58 := hC con_rdnum (.tail _ (.tail _ (.tail _ (.tail _ (.head _)))))
  have hC11 := hC con_goodPr (.tail _ (.tail _ (.tail _ (.tail _ (.tail _ (.head _))))))
  have hC59 := hC con_rend (.tail _ (.tail _ (.tail _ (.tail _ (.tail _ (.tail _ (.head _)))))))
  have hC24 := hC con_fputr (.tail _ (.tail _ (.tail _ (.tail _ (.tail _ (.tail _ (.tail _ (.head _))))))))
  have hC60 := hC con_sequal (.tail _ (.tail _ (.tail _ (.tail _ (.tail _ (.tail _ (.tail _ (.tail _ (.head _)))))))))
  refine sc_ice0 (N := 400) (v2 := takeV b) (Q := fun v s' => FS 0 s' v (takeV b) ∧ s'.n ≤ 400) ?_ (fun _ _ h => h)
  refine sc_body Try.cfgOk ftake_fn rfl ?_
  repeat' (with_reducible first | refine sk_seq ?_ | refine sk_block ?_ | refine sk_skip ?_ | refine sk_scope ?_)
  refine sk_regionK Try.cfgOk hS (by kernel_rfl) ?_
  repeat' (with_reducible first | refine sk_seq ?_ | refine sk_block ?_ | refine sk_skip ?_ | refine sk_scope ?_)
  refine sk_regionL Try.cfgOk hS ?_
  refine al_chunk 1 (by kernel_rfl) ?_
  refine al_callH 54 [inlL bcells 1 b] (.pointer (some ⟨1, 0, none⟩)) _ rfl (fun b h => by cases h) (by kernel_rfl) (by kernel_rfl) (hC54 _ _ _ _ (con_newReader_at b 1 (by first | omega | assumption | exact rdI_false _ | (have q := (tkeys_all (rdI_false b)).2.1; omega) | (have q := rdR_le cb cbad; omega) | (have q := rdR_le cb cbad; have q2 := rdR_le (rdR cb cbad) (rdB cb cbad); omega) | exact h1 | (rw [← (take_at i0 hx).1]; exact h2) | (rw [← (take_at i0 hx).2.1]; exact h3) | exact Nat.le_trans h1.1 (by omega) | (rw [← (take_at i0 hx).1]; exact Nat.le_trans h2.1 (by omega)) | (rw [← (take_at i0 hx).2.1]; exact Nat.le_trans h3.1 (by omega)) | (exact putP_len h1 (by rw [← (take_at i0 hx).1]; exact h2) (by rw [← (take_at i0 hx).2.1]; exact h3))) _ (by kernel_rfl) (by kernel_rfl) )) ?_
  refine al_known (by kernel_rfl) ?_
  repeat' (with_reducible first | refine sk_seq ?_ | refine sk_block ?_ | refine sk_skip ?_ | refine sk_scope ?_)
  refine sk_regionL Try.cfgOk hS ?_
  refine al_chunk 1 (by kernel_rfl) ?_
  refine al_callH 55 [.pointer (some ⟨1, 0, none⟩)] (inlL kcells 2 ((tkeys b false).1)) _ rfl (fun b h => by cases h) (by kernel_rfl) (by kernel_rfl) (hC55 _ _ _ _ (con_takeKeys_at b false 1 (by first | omega | assumption | exact rdI_false _ | (have q := (tkeys_all (rdI_false b)).2.1; omega) | (have q := rdR_le cb cbad; omega) | (have q := rdR_le cb cbad; have q2 := rdR_le (rdR cb cbad) (rdB cb cbad); omega) | exact h1 | (rw [← (take_at i0 hx).1]; exact h2) | (rw [← (take_at i0 hx).2.1]; exact h3) | exact Nat.le_trans h1.1 (by omega) | (rw [← (take_at i0 hx).1]; exact Nat.le_trans h2.1 (by omega)) | (rw [← (take_at i0 hx).2.1]; exact Nat.le_trans h3.1 (by omega)) | (exact putP_len h1 (by rw [← (take_at i0 hx).1]; exact h2) (by rw [← (take_at i0 hx).2.1]; exact h3))) (by first | omega | assumption | exact rdI_false _ | (have q := (tkeys_all (rdI_false b)).2.1; omega) | (have q := rdR_le cb cbad; omega) | (have q := rdR_le cb cbad; have q2 := rdR_le (rdR cb cbad) (rdB cb cbad); omega) | exact h1 | (rw [← (take_at i0 hx).1]; exact h2) | (rw [← (take_at i0 hx).2.1]; exact h3) | exact Nat.le_trans h1.1 (by omega) | (rw [← (take_at i0 hx).1]; exact Nat.le_trans h2.1 (by omega)) | (rw [← (take_at i0 hx).2.1]; exact Nat.le_trans h3.1 (by omega)) | (exact putP_len h1 (by rw [← (take_at i0 hx).1]; exact h2) (by rw [← (take_at i0 hx).2.1]; exact h3))) _ (by kernel_rfl) (by kernel_rfl) )) ?_
  refine al_known (by kernel_rfl) ?_
  repeat' (with_reducible first | refine sk_seq ?_ | refine sk_block ?_ | refine sk_skip ?_ | refine sk_scope ?_)
  refine sk_live 57 [(0, inlL bcells 1 b), (2, .pointer (some ⟨0, 0, none⟩)), (4, .pointer (some ⟨1, 0, none⟩)), (5, .pointer (some ⟨2, 0, none⟩))] (by kernel_rfl) ⟨by kernel_rfl, by kernel_rfl, by kernel_rfl, by kernel_rfl, trivial⟩ fun m1 => ?_
  refine sk_st ((((St.empty 0).new (.cells [.slice none 0 0, .slice none 0 0, .slice none 0 0])).new (.cells [inlL bcells 1 ((tkeys b false).2.1), .bool ((tkeys b false).2.2)])).new (.cells [inlL kcells 2 ((tkeys b false).1), .slice none 0 0, .slice none 0 0])) (by kernel_rfl) ?_
  refine virt_cell 5 2 0 3 [inlL kcells 2 ((tkeys b false).1)] [.slice none 0 0] (by decide) ((((wf_empty 0).new _).new _).new _) (by kernel_rfl) (by kernel_rfl) (by decide) ?_
  refine sk_st (((((St.empty 0).new (.cells [.slice none 0 0, .slice none 0 0, .slice none 0 0])).new (.cells [inlL bcells 1 ((tkeys b false).2.1), .bool ((tkeys b false).2.2)])).new (.cells [inlL kcells 2 ((tkeys b false).1), slL 3 3 (([] : List Span).length), .slice none 0 0])).new (rowL scells ([] : List Span))) (by kernel_rfl) ?_
  repeat' (with_reducible first | refine sk_seq ?_ | refine sk_block ?_ | refine sk_skip ?_ | refine sk_scope ?_)
  refine sk_regionL Try.cfgOk hS ?_
  refine al_chunk 1 (by kernel_rfl) ?_
  refine al_callH 56 [.pointer (some ⟨1, 0, none⟩)] (.int .i64 ((min (rdV ((tkeys b false).2.1) ((tkeys b false).2.2)) 4294967295 : Nat) : Int)) _ rfl (fun b h => by cases h) (by kernel_rfl) (by kernel_rfl) (hC56 _ _ _ _ (con_fsmall_at ((tkeys b false).2.1) ((tkeys b false).2.2) 1 (by first | omega | assumption | exact rdI_false _ | (have q := (tkeys_all (rdI_false b)).2.1; omega) | (have q := rdR_le cb cbad; omega) | (have q := rdR_le cb cbad; have q2 := rdR_le (rdR cb cbad) (rdB cb cbad); omega) | exact h1 | (rw [← (take_at i0 hx).1]; exact h2) | (rw [← (take_at i0 hx).2.1]; exact h3) | exact Nat.le_trans h1.1 (by omega) | (rw [← (take_at i0 hx).1]; exact Nat.le_trans h2.1 (by omega)) | (rw [← (take_at i0 hx).2.1]; exact Nat.le_trans h3.1 (by omega)) | (exact putP_len h1 (by rw [← (take_at i0 hx).1]; exact h2) (by rw [← (take_at i0 hx).2.1]; exact h3))) _ (by kernel_rfl) (by kernel_rfl) )) ?_
  refine al_known (by kernel_rfl) ?_
  repeat' (with_reducible first | refine sk_seq ?_ | refine sk_block ?_ | refine sk_skip ?_ | refine sk_scope ?_)
  refine sk_live 57 ((fun a : (List Span) × (List UInt8) × Bool => [(0, inlL bcells 1 b), (2, .pointer (some ⟨0, 0, none⟩)), (4, .pointer (some ⟨1, 0, none⟩)), (5, .pointer (some ⟨2, 0, none⟩)), (6, .int .i64 ((min (rdV (tkeys b false).2.1 (tkeys b false).2.2) 4294967295 : Nat) : Int))]) (([] : List Span), (rdR ((tkeys b false).2.1) ((tkeys b false).2.2)), (rdB ((tkeys b false).2.1) ((tkeys b false).2.2)))) (by kernel_rfl) ⟨by kernel_rfl, by kernel_rfl, by kernel_rfl, by kernel_rfl, by kernel_rfl, trivial⟩ fun m2 => ?_
  refine sk_st ((fun a : (List Span) × (List UInt8) × Bool => (((((St.empty 0).new (.cells [.slice none 0 0, .slice none 0 0, .slice none 0 0])).new (.cells [inlL bcells 1 a.2.1, .bool a.2.2])).new (.cells [inlL kcells 2 ((tkeys b false).1), slL 3 3 a.1.length, .slice none 0 0])).new (rowL scells a.1))) (([] : List Span), (rdR ((tkeys b false).2.1) ((tkeys b false).2.2)), (rdB ((tkeys b false).2.1) ((tkeys b false).2.2)))) (by kernel_rfl) ?_
  refine (sk_while (k := 4) (N := 400) (live := (fun a : (List Span) × (List UInt8) × Bool => [(0, inlL bcells 1 b), (2, .pointer (some ⟨0, 0, none⟩)), (4, .pointer (some ⟨1, 0, none⟩)), (5, .pointer (some ⟨2, 0, none⟩)), (6, .int .i64 ((min (rdV (tkeys b false).2.1 (tkeys b false).2.2) 4294967295 : Nat) : Int))])) (M := (fun a : (List Span) × (List UInt8) × Bool => (((((St.empty 0).new (.cells [.slice none 0 0, .slice none 0 0, .slice none 0 0])).new (.cells [inlL bcells 1 a.2.1, .bool a.2.2])).new (.cells [inlL kcells 2 ((tkeys b false).1), slL 3 3 a.1.length, .slice none 0 0])).new (rowL scells a.1)))) (fun a : (List Span) × (List UInt8) × Bool => ((a.1 ++ (tss (min (rdV (tkeys b false).2.1 (tkeys b false).2.2) 4294967295 - a.1.length) a.2.1 a.2.2).1, (tss (min (rdV (tkeys b false).2.1 (tkeys b false).2.2) 4294967295 - a.1.length) a.2.1 a.2.2).2) = tspans (tkeys b false).2.1 (tkeys b false).2.2) ∧ (a.1.length + a.2.1.length ≤ b.length) ∧ (RdI a.2.1 a.2.2)) (fun a : (List Span) × (List UInt8) × Bool => a.2.1.length) (fun (a : (List Span) × (List UInt8) × Bool) (o : Out) (lv : List (Nat × Value)) (M : St) => (o = .exit 0 ∧ (a.2.1 = [] ∨ min (rdV (tkeys b false).2.1 (tkeys b false).2.2) 4294967295 - a.1.length = 0) ∧ lv = [(0, inlL bcells 1 b), (2, .pointer (some ⟨0, 0, none⟩)), (4, .pointer (some ⟨1, 0, none⟩)), (5, .pointer (some ⟨2, 0, none⟩)), (6, .int .i64 ((min (rdV (tkeys b false).2.1 (tkeys b false).2.2) 4294967295 : Nat) : Int))] ∧ M = (((((St.empty 0).new (.cells [.slice none 0 0, .slice none 0 0, .slice none 0 0])).new (.cells [inlL bcells 1 a.2.1, .bool a.2.2])).new (.cells [inlL kcells 2 ((tkeys b false).1), slL 3 3 a.1.length, .slice none 0 0])).new (rowL scells a.1)))) (Nat.zero_le _) (fun a ha => ?_) (fun a ha => ?_) (fun a m ha => ?_) (fun a m ha => ?_) (([] : List Span), (rdR ((tkeys b false).2.1) ((tkeys b false).2.2)), (rdB ((tkeys b false).2.1) ((tkeys b false).2.2))) m2 ?_).up ?_
  · exact ⟨by kernel_rfl, (((((wf_empty 0).new _).new _).new _).new _), (selfs (all_cons (o := .cells [.slice none 0 0, .slice none 0 0, .slice none 0 0]) (by kernel_rfl) (OSub.cells (.cons (sub_clo rfl) (.cons (sub_clo rfl) (.cons (sub_clo rfl) .nil)))) (all_cons (o := .cells [inlL bcells 1 a.2.1, .bool a.2.2]) (by kernel_rfl) (OSub.cells (.cons (sub_clo rfl) (.cons (sub_clo rfl) .nil))) (all_cons (o := .cells [inlL kcells 2 ((tkeys b false).1), slL 3 3 a.1.length, .slice none 0 0]) (by kernel_rfl) (OSub.cells (.cons (sub_clo rfl) (.cons (.slice ⟨by decide, rfl⟩) (.cons (sub_clo rfl) .nil)))) (all_cons (o := rowL scells a.1) (by kernel_rfl) (OSub.arr (subs_clo (flatL_clo scells_clo))) (all_none))))))⟩
  · exact ⟨sub_clo rfl, .ptr ⟨by decide, rfl⟩, .ptr ⟨by decide, rfl⟩, .ptr ⟨by decide, rfl⟩, sub_clo rfl, trivial⟩
  · exact ⟨by kernel_rfl, by kernel_rfl, by kernel_rfl, by kernel_rfl, by kernel_rfl, trivial⟩
  · obtain ⟨acc, cb, cbad⟩ := a
    obtain ⟨i0, i1, i2⟩ := ha
    dsimp only at i0 i1 i2
    repeat' (with_reducible first | refine sk_seq ?_ | refine sk_block ?_ | refine sk_skip ?_ | refine sk_scope ?_)
    refine sk_regionL Try.cfgOk hS ?_
    refine al_chunk 4 (by kernel_rfl) ?_
    refine al_test (by kernel_rfl) (by kernel_rfl) (by kernel_rfl) (fun h3 => ?_) (fun h3 => ?_)
    · have c4e : (decide ((((acc.length : Nat) : Int) : Int) < ((min (rdV (tkeys b false).2.1 (tkeys b false).2.2) 4294967295 : Nat) : Int))) = true := Eq.trans (by kernel_rfl) h3
      clear h3
      have c4 : (((acc.length : Nat) : Int) : Int) < ((min (rdV (tkeys b false).2.1 (tkeys b false).2.2) 4294967295 : Nat) : Int) := of_decide_eq_true c4e
      clear c4e
      refine al_chunk 2 (by kernel_rfl) ?_
      refine al_callH 57 [.pointer (some ⟨1, 0, none⟩)] (.int .i64 ((cb.length : Nat) : Int)) _ rfl (fun b h => by cases h) (by kernel_rfl) (by kernel_rfl) (hC57 _ _ _ _ (con_rleft_at cb cbad 1  _ (by kernel_rfl) (by kernel_rfl) )) ?_
      refine al_test (by kernel_rfl) (by kernel_rfl) (by kernel_rfl) (fun h5 => ?_) (fun h5 => ?_)
      · have c6e : (decide ((((cb.length : Nat) : Int) : Int) > 0)) = true := Eq.trans (by kernel_rfl) h5
        clear h5
        have c6 : (((cb.length : Nat) : Int) : Int) > 0 := of_decide_eq_true c6e
        clear c6e
        refine al_known (by kernel_rfl) ?_
        repeat' (with_reducible first | refine sk_seq ?_ | refine sk_block ?_ | refine sk_skip ?_ | refine sk_scope ?_)
        refine sk_true (by kernel_rfl) ?_
        repeat' (with_reducible first | refine sk_seq ?_ | refine sk_block ?_ | refine sk_skip ?_ | refine sk_scope ?_)
        refine sk_drawL Try.cfgOk hS ?_
        refine ald_chunk 3 (by kernel_rfl) ?_
        refine ald_callE (d := rd0) 56 [.pointer (some ⟨1, 0, none⟩)] (.int .i64 ((min (rdV cb cbad) 4294967295 : Nat) : Int)) _ rfl (fun b h => by cases h) (by kernel_rfl) (by kernel_rfl) (hC56 _ _ _ _ (con_fsmall_at cb cbad 1 (by first | omega | assumption | exact rdI_false _ | (have q := (tkeys_all (rdI_false b)).2.1; omega) | (have q := rdR_le cb cbad; omega) | (have q := rdR_le cb cbad; have q2 := rdR_le (rdR cb cbad) (rdB cb cbad); omega) | exact h1 | (rw [← (take_at i0 hx).1]; exact h2) | (rw [← (take_at i0 hx).2.1]; exact h3) | exact Nat.le_trans h1.1 (by omega) | (rw [← (take_at i0 hx).1]; exact Nat.le_trans h2.1 (by omega)) | (rw [← (take_at i0 hx).2.1]; exact Nat.le_trans h3.1 (by omega)) | (exact putP_len h1 (by rw [← (take_at i0 hx).1]; exact h2) (by rw [← (take_at i0 hx).2.1]; exact h3))) _ (by kernel_rfl) (by kernel_rfl) )) (by kernel_rfl) (by kernel_rfl) (below_len (k := 1) (by kernel_rfl) (all1 (.inr (read_again (by kernel_rfl) (Eq.trans (b := slL 3 3 acc.length) (by kernel_rfl) (by kernel_rfl)))))) ?_
        refine ald_chunk 1 (by kernel_rfl) ?_
        refine ald_callE (d := rd0) 58 [.pointer (some ⟨1, 0, none⟩)] (.int .i64 (unf (rdV (rdR cb cbad) (rdB cb cbad)))) _ rfl (fun b h => by cases h) (by kernel_rfl) (by kernel_rfl) (hC58 _ _ _ _ (con_rdnum_at (rdR cb cbad) (rdB cb cbad) 1 (by first | omega | assumption | exact rdI_false _ | (have q := (tkeys_all (rdI_false b)).2.1; omega) | (have q := rdR_le cb cbad; omega) | (have q := rdR_le cb cbad; have q2 := rdR_le (rdR cb cbad) (rdB cb cbad); omega) | exact h1 | (rw [← (take_at i0 hx).1]; exact h2) | (rw [← (take_at i0 hx).2.1]; exact h3) | exact Nat.le_trans h1.1 (by omega) | (rw [← (take_at i0 hx).1]; exact Nat.le_trans h2.1 (by omega)) | (rw [← (take_at i0 hx).2.1]; exact Nat.le_trans h3.1 (by omega)) | (exact putP_len h1 (by rw [← (take_at i0 hx).1]; exact h2) (by rw [← (take_at i0 hx).2.1]; exact h3))) _ (by kernel_rfl) (by kernel_rfl) )) (by kernel_rfl) (by kernel_rfl) (below_len (k := 1) (by kernel_rfl) (all1 (.inr (read_again (by kernel_rfl) (Eq.trans (b := slL 3 3 acc.length) (by kernel_rfl) (by kernel_rfl)))))) ?_
        refine ald_chunk 1 (by kernel_rfl) ?_
        refine ald_callE (d := rd0) 58 [.pointer (some ⟨1, 0, none⟩)] (.int .i64 (unf (rdV (rdR (rdR cb cbad) (rdB cb cbad)) (rdB (rdR cb cbad) (rdB cb cbad))))) _ rfl (fun b h => by cases h) (by kernel_rfl) (by kernel_rfl) (hC58 _ _ _ _ (con_rdnum_at (rdR (rdR cb cbad) (rdB cb cbad)) (rdB (rdR cb cbad) (rdB cb cbad)) 1 (by first | omega | assumption | exact rdI_false _ | (have q := (tkeys_all (rdI_false b)).2.1; omega) | (have q := rdR_le cb cbad; omega) | (have q := rdR_le cb cbad; have q2 := rdR_le (rdR cb cbad) (rdB cb cbad); omega) | exact h1 | (rw [← (take_at i0 hx).1]; exact h2) | (rw [← (take_at i0 hx).2.1]; exact h3) | exact Nat.le_trans h1.1 (by omega) | (rw [← (take_at i0 hx).1]; exact Nat.le_trans h2.1 (by omega)) | (rw [← (take_at i0 hx).2.1]; exact Nat.le_trans h3.1 (by omega)) | (exact putP_len h1 (by rw [← (take_at i0 hx).1]; exact h2) (by rw [← (take_at i0 hx).2.1]; exact h3))) _ (by kernel_rfl) (by kernel_rfl) )) (by kernel_rfl) (by kernel_rfl) (below_len (k := 1) (by kernel_rfl) (all1 (.inr (read_again (by kernel_rfl) (Eq.trans (b := slL 3 3 acc.length) (by kernel_rfl) (by kernel_rfl)))))) ?_
        refine ald_chunk 2 (by kernel_rfl) ?_
        refine ald_opF (v := slL 3 3 (acc ++ [(((min (rdV cb cbad) 4294967295 : Nat) : Int), (unf (rdV (rdR cb cbad) (rdB cb cbad))), (unf (rdV (rdR (rdR cb cbad) (rdB cb cbad)) (rdB (rdR cb cbad) (rdB cb cbad)))))]).length) (s1 := ((((((St.empty 0).new (.cells [.slice none 0 0, .slice none 0 0, .slice none 0 0])).new (.cells [inlL bcells 1 (rdR (rdR (rdR cb cbad) (rdB cb cbad)) (rdB (rdR cb cbad) (rdB cb cbad))), .bool (rdB (rdR (rdR cb cbad) (rdB cb cbad)) (rdB (rdR cb cbad) (rdB cb cbad)))])).new (.cells [inlL kcells 2 ((tkeys b false).1), slL 3 3 acc.length, .slice none 0 0])).new (rowL scells acc)).new (.arr [.int .i64 ((min (rdV cb cbad) 4294967295 : Nat) : Int), .int .i64 (unf (rdV (rdR cb cbad) (rdB cb cbad))), .int .i64 (unf (rdV (rdR (rdR cb cbad) (rdB cb cbad)) (rdB (rdR cb cbad) (rdB cb cbad))))] 0 false)).set 3 (rowL scells (acc ++ [(((min (rdV cb cbad) 4294967295 : Nat) : Int), (unf (rdV (rdR cb cbad) (rdB cb cbad))), (unf (rdV (rdR (rdR cb cbad) (rdB cb cbad)) (rdB (rdR cb cbad) (rdB cb cbad)))))]))) (by kernel_rfl) (by kernel_rfl) (Eq.trans (b := appendV Try.cfg ((((((St.empty 0).new (.cells [.slice none 0 0, .slice none 0 0, .slice none 0 0])).new (.cells [inlL bcells 1 (rdR (rdR (rdR cb cbad) (rdB cb cbad)) (rdB (rdR cb cbad) (rdB cb cbad))), .bool (rdB (rdR (rdR cb cbad) (rdB cb cbad)) (rdB (rdR cb cbad) (rdB cb cbad)))])).new (.cells [inlL kcells 2 ((tkeys b false).1), slL 3 3 acc.length, .slice none 0 0])).new (rowL scells acc)).new (.arr [.int .i64 ((min (rdV cb cbad) 4294967295 : Nat) : Int), .int .i64 (unf (rdV (rdR cb cbad) (rdB cb cbad))), .int .i64 (unf (rdV (rdR (rdR cb cbad) (rdB cb cbad)) (rdB (rdR cb cbad) (rdB cb cbad))))] 0 false)) 23 (slL 3 3 acc.length) (.slice (some ⟨4, 0, some 3⟩) 1 3)) (by kernel_rfl) (app_rowL (l := acc) (l2 := [(((min (rdV cb cbad) 4294967295 : Nat) : Int), (unf (rdV (rdR cb cbad) (rdB cb cbad))), (unf (rdV (rdR (rdR cb cbad) (rdB cb cbad)) (rdB (rdR cb cbad) (rdB cb cbad)))))]) (bytes := 24) tokC (by kernel_rfl) scells_len scells_one (by kernel_rfl) (by kernel_rfl) (by kernel_rfl) (by (try simp only [List.length_cons, List.length_nil, List.length_append]); omega))) (by kernel_rfl) ?_
        refine ald_chunk 2 (by kernel_rfl) ?_
        refine ald_nil ?_
        repeat' (with_reducible first | refine sk_seq ?_ | refine sk_block ?_ | refine sk_skip ?_ | refine sk_scope ?_)
        refine .inl ⟨((acc ++ [(((min (rdV cb cbad) 4294967295 : Nat) : Int), (unf (rdV (rdR cb cbad) (rdB cb cbad))), (unf (rdV (rdR (rdR cb cbad) (rdB cb cbad)) (rdB (rdR cb cbad) (rdB cb cbad)))))]), (rdR (rdR (rdR cb cbad) (rdB cb cbad)) (rdB (rdR cb cbad) (rdB cb cbad))), (rdB (rdR (rdR cb cbad) (rdB cb cbad)) (rdB (rdR cb cbad) (rdB cb cbad)))), rfl, ⟨?_, ?_, ?_⟩, ?_, ⟨by kernel_rfl, ⟨by kernel_rfl, by kernel_rfl, by kernel_rfl, by kernel_rfl, by kernel_rfl, trivial⟩, ⟨sub_clo rfl, .ptr ⟨by decide, rfl⟩, .ptr ⟨by decide, rfl⟩, .ptr ⟨by decide, rfl⟩, sub_clo rfl, trivial⟩, Nat.le_of_ble_eq_true (by kernel_rfl), ⟨by kernel_rfl, (((((wf_empty 0).new _).new _).new _).new _), (selfs (all_cons (o := .cells [.slice none 0 0, .slice none 0 0, .slice none 0 0]) (by kernel_rfl) (OSub.cells (.cons (sub_clo rfl) (.cons (sub_clo rfl) (.cons (sub_clo rfl) .nil)))) (all_cons (o := .cells [inlL bcells 1 (rdR (rdR (rdR cb cbad) (rdB cb cbad)) (rdB (rdR cb cbad) (rdB cb cbad))), .bool (rdB (rdR (rdR cb cbad) (rdB cb cbad)) (rdB (rdR cb cbad) (rdB cb cbad)))]) (by kernel_rfl) (OSub.cells (.cons (sub_clo rfl) (.cons (sub_clo rfl) .nil))) (all_cons (o := .cells [inlL kcells 2 ((tkeys b false).1), slL 3 3 ((acc ++ [(((min (rdV cb cbad) 4294967295 : Nat) : Int), (unf (rdV (rdR cb cbad) (rdB cb cbad))), (unf (rdV (rdR (rdR cb cbad) (rdB cb cbad)) (rdB (rdR cb cbad) (rdB cb cbad)))))]).length), .slice none 0 0]) (by kernel_rfl) (OSub.cells (.cons (sub_clo rfl) (.cons (.slice ⟨by decide, rfl⟩) (.cons (sub_clo rfl) .nil)))) (all_cons (o := rowL scells (acc ++ [(((min (rdV cb cbad) 4294967295 : Nat) : Int), (unf (rdV (rdR cb cbad) (rdB cb cbad))), (unf (rdV (rdR (rdR cb cbad) (rdB cb cbad)) (rdB (rdR cb cbad) (rdB cb cbad)))))])) (by kernel_rfl) (OSub.arr (subs_clo (flatL_clo scells_clo))) (all_none))))))⟩, mem_all (by kernel_rfl)⟩⟩
        · (try dsimp only); rw [show ∀ x : Span, (acc ++ [x]).length = acc.length + 1 from fun x => by simp]; exact (tss_step (by omega) (by intro e; have q := congrArg List.length e; simp only [List.length_nil] at q; omega)).trans i0
        · (try dsimp only); have l1 := rdR_lt' i2 (by intro e; have q := congrArg List.length e; simp only [List.length_nil] at q; omega); have l2 := rdR_le (rdR cb cbad) (rdB cb cbad); have l3 := rdR_le (rdR (rdR cb cbad) (rdB cb cbad)) (rdB (rdR cb cbad) (rdB cb cbad)); simp only [List.length_append, List.length_cons, List.length_nil]; omega
        · (try dsimp only); exact rdI_step (rdI_step (rdI_step i2))
        · dsimp only; have l1 := rdR_lt' i2 (by intro e; have q := congrArg List.length e; simp only [List.length_nil] at q; omega); have l2 := rdR_le (rdR cb cbad) (rdB cb cbad); have l3 := rdR_le (rdR (rdR cb cbad) (rdB cb cbad)) (rdB (rdR cb cbad) (rdB cb cbad)); omega
      · have c6e : (decide ((((cb.length : Nat) : Int) : Int) > 0)) = false := Eq.trans (by kernel_rfl) h5
        clear h5
        have c6 : ¬ (((cb.length : Nat) : Int) : Int) > 0 := of_decide_eq_false c6e
        clear c6e
        refine al_known (by kernel_rfl) ?_
        repeat' (with_reducible first | refine sk_seq ?_ | refine sk_block ?_ | refine sk_skip ?_ | refine sk_scope ?_)
        refine sk_false (by kernel_rfl) ?_
        repeat' (with_reducible first | refine sk_seq ?_ | refine sk_block ?_ | refine sk_skip ?_ | refine sk_scope ?_)
        refine sk_exit ?_
        dsimp only
        refine .inr ⟨_, _, (fun h => by cases h), ⟨rfl, ?_, rfl, rfl⟩, ⟨by kernel_rfl, ⟨by kernel_rfl, by kernel_rfl, by kernel_rfl, by kernel_rfl, by kernel_rfl, trivial⟩, ⟨sub_clo rfl, .ptr ⟨by decide, rfl⟩, .ptr ⟨by decide, rfl⟩, .ptr ⟨by decide, rfl⟩, sub_clo rfl, trivial⟩, Nat.le_of_ble_eq_true (by kernel_rfl), ⟨by kernel_rfl, (((((wf_empty 0).new _).new _).new _).new _), (selfs (all_cons (o := .cells [.slice none 0 0, .slice none 0 0, .slice none 0 0]) (by kernel_rfl) (OSub.cells (.cons (sub_clo rfl) (.cons (sub_clo rfl) (.cons (sub_clo rfl) .nil)))) (all_cons (o := .cells [inlL bcells 1 cb, .bool cbad]) (by kernel_rfl) (OSub.cells (.cons (sub_clo rfl) (.cons (sub_clo rfl) .nil))) (all_cons (o := .cells [inlL kcells 2 ((tkeys b false).1), slL 3 3 acc.length, .slice none 0 0]) (by kernel_rfl) (OSub.cells (.cons (sub_clo rfl) (.cons (.slice ⟨by decide, rfl⟩) (.cons (sub_clo rfl) .nil)))) (all_cons (o := rowL scells acc) (by kernel_rfl) (OSub.arr (subs_clo (flatL_clo scells_clo))) (all_none))))))⟩, mem_all (by kernel_rfl)⟩⟩
        · first | exact .inl (List.eq_nil_of_length_eq_zero (by omega)) | exact .inr (by omega)
    · have c4e : (decide ((((acc.length : Nat) : Int) : Int) < ((min (rdV (tkeys b false).2.1 (tkeys b false).2.2) 4294967295 : Nat) : Int))) = false := Eq.trans (by kernel_rfl) h3
      clear h3
      have c4 : ¬ (((acc.length : Nat) : Int) : Int) < ((min (rdV (tkeys b false).2.1 (tkeys b false).2.2) 4294967295 : Nat) : Int) := of_decide_eq_false c4e
      clear c4e
      refine al_known (by kernel_rfl) ?_
      repeat' (with_reducible first | refine sk_seq ?_ | refine sk_block ?_ | refine sk_skip ?_ | refine sk_scope ?_)
      refine sk_false (by kernel_rfl) ?_
      repeat' (with_reducible first | refine sk_seq ?_ | refine sk_block ?_ | refine sk_skip ?_ | refine sk_scope ?_)
      refine sk_exit ?_
      dsimp only
      refine .inr ⟨_, _, (fun h => by cases h), ⟨rfl, ?_, rfl, rfl⟩, ⟨by kernel_rfl, ⟨by kernel_rfl, by kernel_rfl, by kernel_rfl, by kernel_rfl, by kernel_rfl, trivial⟩, ⟨sub_clo rfl, .ptr ⟨by decide, rfl⟩, .ptr ⟨by decide, rfl⟩, .ptr ⟨by decide, rfl⟩, sub_clo rfl, trivial⟩, Nat.le_of_ble_eq_true (by kernel_rfl), ⟨by kernel_rfl, (((((wf_empty 0).new _).new _).new _).new _), (selfs (all_cons (o := .cells [.slice none 0 0, .slice none 0 0, .slice none 0 0]) (by kernel_rfl) (OSub.cells (.cons (sub_clo rfl) (.cons (sub_clo rfl) (.cons (sub_clo rfl) .nil)))) (all_cons (o := .cells [inlL bcells 1 cb, .bool cbad]) (by kernel_rfl) (OSub.cells (.cons (sub_clo rfl) (.cons (sub_clo rfl) .nil))) (all_cons (o := .cells [inlL kcells 2 ((tkeys b false).1), slL 3 3 acc.length, .slice none 0 0]) (by kernel_rfl) (OSub.cells (.cons (sub_clo rfl) (.cons (.slice ⟨by decide, rfl⟩) (.cons (sub_clo rfl) .nil)))) (all_cons (o := rowL scells acc) (by kernel_rfl) (OSub.arr (subs_clo (flatL_clo scells_clo))) (all_none))))))⟩, mem_all (by kernel_rfl)⟩⟩
      · first | exact .inl (List.eq_nil_of_length_eq_zero (by omega)) | exact .inr (by omega)
  · exact ⟨by ((try dsimp only); first | done | (rfl)), by ((try dsimp only); first | done | (have q := (tkeys_all (rdI_false b)).2.1; have q2 := rdR_le (tkeys b false).2.1 (tkeys b false).2.2; simp only [List.length_nil]; omega)), by ((try dsimp only); first | done | (exact rdI_step (tkeys_all (rdI_false b)).2.2))⟩
  rintro o e1 s1 ⟨a, lv1, M1, m2, ha, ⟨rfl, hx, rfl, rfl⟩, rfl, rfl⟩
  obtain ⟨acc, cb, cbad⟩ := a
  obtain ⟨i0, i1, i2⟩ := ha
  dsimp only at hx i0 i1 i2
  dsimp only
  try rw [if_pos rfl]
  repeat' (with_reducible first | refine sk_seq ?_ | refine sk_block ?_ | refine sk_skip ?_ | refine sk_scope ?_)
  refine sk_regionL Try.cfgOk hS ?_
  refine al_chunk 1 (by kernel_rfl) ?_
  refine al_callH 55 [.pointer (some ⟨1, 0, none⟩)] (inlL kcells 2 ((tkeys cb cbad).1)) _ rfl (fun b h => by cases h) (by kernel_rfl) (by kernel_rfl) (hC55 _ _ _ _ (con_takeKeys_at cb cbad 1 (by first | omega | assumption | exact rdI_false _ | (have q := (tkeys_all (rdI_false b)).2.1; omega) | (have q := rdR_le cb cbad; omega) | (have q := rdR_le cb cbad; have q2 := rdR_le (rdR cb cbad) (rdB cb cbad); omega) | exact h1 | (rw [← (take_at i0 hx).1]; exact h2) | (rw [← (take_at i0 hx).2.1]; exact h3) | exact Nat.le_trans h1.1 (by omega) | (rw [← (take_at i0 hx).1]; exact Nat.le_trans h2.1 (by omega)) | (rw [← (take_at i0 hx).2.1]; exact Nat.le_trans h3.1 (by omega)) | (exact putP_len h1 (by rw [← (take_at i0 hx).1]; exact h2) (by rw [← (take_at i0 hx).2.1]; exact h3))) (by first | omega | assumption | exact rdI_false _ | (have q := (tkeys_all (rdI_false b)).2.1; omega) | (have q := rdR_le cb cbad; omega) | (have q := rdR_le cb cbad; have q2 := rdR_le (rdR cb cbad) (rdB cb cbad); omega) | exact h1 | (rw [← (take_at i0 hx).1]; exact h2) | (rw [← (take_at i0 hx).2.1]; exact h3) | exact Nat.le_trans h1.1 (by omega) | (rw [← (take_at i0 hx).1]; exact Nat.le_trans h2.1 (by omega)) | (rw [← (take_at i0 hx).2.1]; exact Nat.le_trans h3.1 (by omega)) | (exact putP_len h1 (by rw [← (take_at i0 hx).1]; exact h2) (by rw [← (take_at i0 hx).2.1]; exact h3))) _ (by kernel_rfl) (by kernel_rfl) )) ?_
  refine al_known (by kernel_rfl) ?_
  repeat' (with_reducible first | refine sk_seq ?_ | refine sk_block ?_ | refine sk_skip ?_ | refine sk_scope ?_)
  refine sk_regionL Try.cfgOk hS ?_
  refine al_chunk 1 (by kernel_rfl) ?_
  refine al_callB 11 [.agg #[inlL kcells 2 ((tkeys b false).1), slL 3 3 acc.length, inlL kcells 2 ((tkeys cb cbad).1)]] (tf (goodP ((tkeys b false).1) acc ((tkeys cb cbad).1))) _ rfl (fun b h => by cases h) (by kernel_rfl) (by kernel_rfl) (hC11 _ _ _ _ (con_goodPr_at ((tkeys b false).1) acc ((tkeys cb cbad).1) 3 (by first | omega | assumption | exact rdI_false _ | (have q := (tkeys_all (rdI_false b)).2.1; omega) | (have q := rdR_le cb cbad; omega) | (have q := rdR_le cb cbad; have q2 := rdR_le (rdR cb cbad) (rdB cb cbad); omega) | exact h1 | (rw [← (take_at i0 hx).1]; exact h2) | (rw [← (take_at i0 hx).2.1]; exact h3) | exact Nat.le_trans h1.1 (by omega) | (rw [← (take_at i0 hx).1]; exact Nat.le_trans h2.1 (by omega)) | (rw [← (take_at i0 hx).2.1]; exact Nat.le_trans h3.1 (by omega)) | (exact putP_len h1 (by rw [← (take_at i0 hx).1]; exact h2) (by rw [← (take_at i0 hx).2.1]; exact h3))) (by first | omega | assumption | exact rdI_false _ | (have q := (tkeys_all (rdI_false b)).2.1; omega) | (have q := rdR_le cb cbad; omega) | (have q := rdR_le cb cbad; have q2 := rdR_le (rdR cb cbad) (rdB cb cbad); omega) | exact h1 | (rw [← (take_at i0 hx).1]; exact h2) | (rw [← (take_at i0 hx).2.1]; exact h3) | exact Nat.le_trans h1.1 (by omega) | (rw [← (take_at i0 hx).1]; exact Nat.le_trans h2.1 (by omega)) | (rw [← (take_at i0 hx).2.1]; exact Nat.le_trans h3.1 (by omega)) | (exact putP_len h1 (by rw [← (take_at i0 hx).1]; exact h2) (by rw [← (take_at i0 hx).2.1]; exact h3))) (by first | omega | assumption | exact rdI_false _ | (have q := (tkeys_all (rdI_false b)).2.1; omega) | (have q := rdR_le cb cbad; omega) | (have q := rdR_le cb cbad; have q2 := rdR_le (rdR cb cbad) (rdB cb cbad); omega) | exact h1 | (rw [← (take_at i0 hx).1]; exact h2) | (rw [← (take_at i0 hx).2.1]; exact h3) | exact Nat.le_trans h1.1 (by omega) | (rw [← (take_at i0 hx).1]; exact Nat.le_trans h2.1 (by omega)) | (rw [← (take_at i0 hx).2.1]; exact Nat.le_trans h3.1 (by omega)) | (exact putP_len h1 (by rw [← (take_at i0 hx).1]; exact h2) (by rw [← (take_at i0 hx).2.1]; exact h3))) _ (by kernel_rfl) (by kernel_rfl) )) (fun h7 => ?_) (fun h7 => ?_)
  · have c8 : goodP ((tkeys b false).1) acc ((tkeys cb cbad).1) := tf_t h7
    clear h7
    refine al_chunk 3 (by kernel_rfl) ?_
    by_cases q9 : ((tkeys cb cbad).2.2) = true ∨ ((tkeys cb cbad).2.1) ≠ []
    ·
      refine al_callH 59 [.pointer (some ⟨1, 0, none⟩)] (.iface 53 (.int .i64 2)) _ rfl (fun b h => by cases h) (by kernel_rfl) (by kernel_rfl) (rc_eq (hC59 _ _ _ _ (con_rend_at ((tkeys cb cbad).2.1) ((tkeys cb cbad).2.2) 1  _ (by kernel_rfl) (by kernel_rfl) )) (endV_t q9)) ?_
      refine al_known (by kernel_rfl) ?_
      repeat' (with_reducible first | refine sk_seq ?_ | refine sk_block ?_ | refine sk_skip ?_ | refine sk_scope ?_)
      refine sk_true (by kernel_rfl) ?_
      repeat' (with_reducible first | refine sk_seq ?_ | refine sk_block ?_ | refine sk_skip ?_ | refine sk_scope ?_)
      refine sk_regionK Try.cfgOk hS (by kernel_rfl) ?_
      repeat' (with_reducible first | refine sk_seq ?_ | refine sk_block ?_ | refine sk_skip ?_ | refine sk_scope ?_)
      refine sk_ret ?_
      exact ⟨[.agg #[.slice none 0 0, .slice none 0 0, .slice none 0 0], .iface 53 (.int .i64 2)], by kernel_rfl, fs_to (.tuple (.cons (.agg (.cons (fs_to (fs_nilL (f := kcells) (sz := 2) (by decide)) (congrArg (inlL kcells 2) (by rfl))) (.cons (fs_to (fs_nilL (f := scells) (sz := 3) (by decide)) (congrArg (inlL scells 3) (by rfl))) (.cons (fs_to (fs_nilL (f := kcells) (sz := 2) (by decide)) (congrArg (inlL kcells 2) (by rfl))) (.nil))))) (.cons (.same (.iface (sub_clo rfl))) (.nil)))) (show (.tuple #[.agg #[inlL kcells 2 ([] : List Key), inlL scells 3 ([] : List Span), inlL kcells 2 ([] : List Key)], .iface 53 (.int .i64 2)] : Value) = takeV b by first | (obtain ⟨e1, e2, _⟩ := take_at i0 hx; rw [takeV_t ((take_iff i0 hx).2 ⟨by assumption, by assumption, by assumption⟩), e1, e2]; rfl) | exact (takeV_f (fun h => absurd ((take_iff i0 hx).1 h).1 (by assumption))).symm | exact (takeV_f (fun h => absurd (by assumption) ((take_iff i0 hx).1 h).2.1)).symm | exact (takeV_f (fun h => absurd ((take_iff i0 hx).1 h).2.2 (by assumption))).symm), Nat.le_of_ble_eq_true (by kernel_rfl)⟩
    ·
      refine al_callH 59 [.pointer (some ⟨1, 0, none⟩)] (.nilIface) _ rfl (fun b h => by cases h) (by kernel_rfl) (by kernel_rfl) (rc_eq (hC59 _ _ _ _ (con_rend_at ((tkeys cb cbad).2.1) ((tkeys cb cbad).2.2) 1  _ (by kernel_rfl) (by kernel_rfl) )) (endV_f q9)) ?_
      refine al_chunk 4 (by kernel_rfl) ?_
      refine al_callH 24 [.agg #[inlL kcells 2 ((tkeys b false).1), slL 3 3 acc.length, inlL kcells 2 ((tkeys cb cbad).1)]] (inlL bcells 1 (putP ((tkeys b false).1) acc ((tkeys cb cbad).1))) _ rfl (fun b h => by cases h) (by kernel_rfl) (by kernel_rfl) (hC24 _ _ _ _ (con_fputr_at ((tkeys b false).1) acc ((tkeys cb cbad).1) 3 (by first | omega | assumption | exact rdI_false _ | (have q := (tkeys_all (rdI_false b)).2.1; omega) | (have q := rdR_le cb cbad; omega) | (have q := rdR_le cb cbad; have q2 := rdR_le (rdR cb cbad) (rdB cb cbad); omega) | exact h1 | (rw [← (take_at i0 hx).1]; exact h2) | (rw [← (take_at i0 hx).2.1]; exact h3) | exact Nat.le_trans h1.1 (by omega) | (rw [← (take_at i0 hx).1]; exact Nat.le_trans h2.1 (by omega)) | (rw [← (take_at i0 hx).2.1]; exact Nat.le_trans h3.1 (by omega)) | (exact putP_len h1 (by rw [← (take_at i0 hx).1]; exact h2) (by rw [← (take_at i0 hx).2.1]; exact h3))) (by first | omega | assumption | exact rdI_false _ | (have q := (tkeys_all (rdI_false b)).2.1; omega) | (have q := rdR_le cb cbad; omega) | (have q := rdR_le cb cbad; have q2 := rdR_le (rdR cb cbad) (rdB cb cbad); omega) | exact h1 | (rw [← (take_at i0 hx).1]; exact h2) | (rw [← (take_at i0 hx).2.1]; exact h3) | exact Nat.le_trans h1.1 (by omega) | (rw [← (take_at i0 hx).1]; exact Nat.le_trans h2.1 (by omega)) | (rw [← (take_at i0 hx).2.1]; exact Nat.le_trans h3.1 (by omega)) | (exact putP_len h1 (by rw [← (take_at i0 hx).1]; exact h2) (by rw [← (take_at i0 hx).2.1]; exact h3))) (by first | omega | assumption | exact rdI_false _ | (have q := (tkeys_all (rdI_false b)).2.1; omega) | (have q := rdR_le cb cbad; omega) | (have q := rdR_le cb cbad; have q2 := rdR_le (rdR cb cbad) (rdB cb cbad); omega) | exact h1 | (rw [← (take_at i0 hx).1]; exact h2) | (rw [← (take_at i0 hx).2.1]; exact h3) | exact Nat.le_trans h1.1 (by omega) | (rw [← (take_at i0 hx).1]; exact Nat.le_trans h2.1 (by omega)) | (rw [← (take_at i0 hx).2.1]; exact Nat.le_trans h3.1 (by omega)) | (exact putP_len h1 (by rw [← (take_at i0 hx).1]; exact h2) (by rw [← (take_at i0 hx).2.1]; exact h3))) _ (by kernel_rfl) (by kernel_rfl) )) ?_
      refine al_chunk 1 (by kernel_rfl) ?_
      refine al_callB 60 [inlL bcells 1 (putP ((tkeys b false).1) acc ((tkeys cb cbad).1)), inlL bcells 1 b] (decide ((putP ((tkeys b false).1) acc ((tkeys cb cbad).1)) = b)) _ rfl (fun b h => by cases h) (by kernel_rfl) (by kernel_rfl) (hC60 _ _ _ _ (con_sequal_at (putP ((tkeys b false).1) acc ((tkeys cb cbad).1)) b (by first | omega | assumption | exact rdI_false _ | (have q := (tkeys_all (rdI_false b)).2.1; omega) | (have q := rdR_le cb cbad; omega) | (have q := rdR_le cb cbad; have q2 := rdR_le (rdR cb cbad) (rdB cb cbad); omega) | exact h1 | (rw [← (take_at i0 hx).1]; exact h2) | (rw [← (take_at i0 hx).2.1]; exact h3) | exact Nat.le_trans h1.1 (by omega) | (rw [← (take_at i0 hx).1]; exact Nat.le_trans h2.1 (by omega)) | (rw [← (take_at i0 hx).2.1]; exact Nat.le_trans h3.1 (by omega)) | (exact putP_len h1 (by rw [← (take_at i0 hx).1]; exact h2) (by rw [← (take_at i0 hx).2.1]; exact h3))) (by first | omega | assumption | exact rdI_false _ | (have q := (tkeys_all (rdI_false b)).2.1; omega) | (have q := rdR_le cb cbad; omega) | (have q := rdR_le cb cbad; have q2 := rdR_le (rdR cb cbad) (rdB cb cbad); omega) | exact h1 | (rw [← (take_at i0 hx).1]; exact h2) | (rw [← (take_at i0 hx).2.1]; exact h3) | exact Nat.le_trans h1.1 (by omega) | (rw [← (take_at i0 hx).1]; exact Nat.le_trans h2.1 (by omega)) | (rw [← (take_at i0 hx).2.1]; exact Nat.le_trans h3.1 (by omega)) | (exact putP_len h1 (by rw [← (take_at i0 hx).1]; exact h2) (by rw [← (take_at i0 hx).2.1]; exact h3))) _)) (fun h10 => ?_) (fun h10 => ?_)
      · have c11 : (putP ((tkeys b false).1) acc ((tkeys cb cbad).1)) = b := of_decide_eq_true h10
        clear h10
        refine al_known (by kernel_rfl) ?_
        repeat' (with_reducible first | refine sk_seq ?_ | refine sk_block ?_ | refine sk_skip ?_ | refine sk_scope ?_)
        refine sk_false (by kernel_rfl) ?_
        repeat' (with_reducible first | refine sk_seq ?_ | refine sk_block ?_ | refine sk_skip ?_ | refine sk_scope ?_)
        refine sk_regionK Try.cfgOk hS (by kernel_rfl) ?_
        repeat' (with_reducible first | refine sk_seq ?_ | refine sk_block ?_ | refine sk_skip ?_ | refine sk_scope ?_)
        refine sk_ret ?_
        exact ⟨[.agg #[inlL kcells 2 ((tkeys b false).1), slL 3 3 acc.length, inlL kcells 2 ((tkeys cb cbad).1)], .nilIface], by kernel_rfl, fs_to (.tuple (.cons (.agg (.cons (.same (sub_clo rfl)) (.cons (fs_rowL (by decide) scells_len scells_clo scells_one (Nat.le_of_ble_eq_true (by kernel_rfl)) (by kernel_rfl)) (.cons (.same (sub_clo rfl)) (.nil))))) (.cons (.same (sub_clo rfl)) (.nil)))) (show (.tuple #[.agg #[inlL kcells 2 ((tkeys b false).1), inlL scells 3 acc, inlL kcells 2 ((tkeys cb cbad).1)], .nilIface] : Value) = takeV b by first | (obtain ⟨e1, e2, _⟩ := take_at i0 hx; rw [takeV_t ((take_iff i0 hx).2 ⟨by assumption, by assumption, by assumption⟩), e1, e2]; rfl) | exact (takeV_f (fun h => absurd ((take_iff i0 hx).1 h).1 (by assumption))).symm | exact (takeV_f (fun h => absurd (by assumption) ((take_iff i0 hx).1 h).2.1)).symm | exact (takeV_f (fun h => absurd ((take_iff i0 hx).1 h).2.2 (by assumption))).symm), Nat.le_of_ble_eq_true (by kernel_rfl)⟩
      · have c11 : ¬ ((putP ((tkeys b false).1) acc ((tkeys cb cbad).1)) = b) := of_decide_eq_false h10
        clear h10
        refine al_known (by kernel_rfl) ?_
        repeat' (with_reducible first | refine sk_seq ?_ | refine sk_block ?_ | refine sk_skip ?_ | refine sk_scope ?_)
        refine sk_true (by kernel_rfl) ?_
        repeat' (with_reducible first | refine sk_seq ?_ | refine sk_block ?_ | refine sk_skip ?_ | refine sk_scope ?_)
        refine sk_regionK Try.cfgOk hS (by kernel_rfl) ?_
        repeat' (with_reducible first | refine sk_seq ?_ | refine sk_block ?_ | refine sk_skip ?_ | refine sk_scope ?_)
        refine sk_ret ?_
        exact ⟨[.agg #[.slice none 0 0, .slice none 0 0, .slice none 0 0], .iface 53 (.int .i64 2)], by kernel_rfl, fs_to (.tuple (.cons (.agg (.cons (fs_to (fs_nilL (f := kcells) (sz := 2) (by decide)) (congrArg (inlL kcells 2) (by rfl))) (.cons (fs_to (fs_nilL (f := scells) (sz := 3) (by decide)) (congrArg (inlL scells 3) (by rfl))) (.cons (fs_to (fs_nilL (f := kcells) (sz := 2) (by decide)) (congrArg (inlL kcells 2) (by rfl))) (.nil))))) (.cons (.same (.iface (sub_clo rfl))) (.nil)))) (show (.tuple #[.agg #[inlL kcells 2 ([] : List Key), inlL scells 3 ([] : List Span), inlL kcells 2 ([] : List Key)], .iface 53 (.int .i64 2)] : Value) = takeV b by first | (obtain ⟨e1, e2, _⟩ := take_at i0 hx; rw [takeV_t ((take_iff i0 hx).2 ⟨by assumption, by assumption, by assumption⟩), e1, e2]; rfl) | exact (takeV_f (fun h => absurd ((take_iff i0 hx).1 h).1 (by assumption))).symm | exact (takeV_f (fun h => absurd (by assumption) ((take_iff i0 hx).1 h).2.1)).symm | exact (takeV_f (fun h => absurd ((take_iff i0 hx).1 h).2.2 (by assumption))).symm), Nat.le_of_ble_eq_true (by kernel_rfl)⟩
  · have c8 : ¬ (goodP ((tkeys b false).1) acc ((tkeys cb cbad).1)) := tf_f h7
    clear h7
    refine al_known (by kernel_rfl) ?_
    repeat' (with_reducible first | refine sk_seq ?_ | refine sk_block ?_ | refine sk_skip ?_ | refine sk_scope ?_)
    refine sk_true (by kernel_rfl) ?_
    repeat' (with_reducible first | refine sk_seq ?_ | refine sk_block ?_ | refine sk_skip ?_ | refine sk_scope ?_)
    refine sk_regionK Try.cfgOk hS (by kernel_rfl) ?_
    repeat' (with_reducible first | refine sk_seq ?_ | refine sk_block ?_ | refine sk_skip ?_ | refine sk_scope ?_)
    refine sk_ret ?_
    exact ⟨[.agg #[.slice none 0 0, .slice none 0 0, .slice none 0 0], .iface 53 (.int .i64 2)], by kernel_rfl, fs_to (.tuple (.cons (.agg (.cons (fs_to (fs_nilL (f := kcells) (sz := 2) (by decide)) (congrArg (inlL kcells 2) (by rfl))) (.cons (fs_to (fs_nilL (f := scells) (sz := 3) (by decide)) (congrArg (inlL scells 3) (by rfl))) (.cons (fs_to (fs_nilL (f := kcells) (sz := 2) (by decide)) (congrArg (inlL kcells 2) (by rfl))) (.nil))))) (.cons (.same (.iface (sub_clo rfl))) (.nil)))) (show (.tuple #[.agg #[inlL kcells 2 ([] : List Key), inlL scells 3 ([] : List Span), inlL kcells 2 ([] : List Key)], .iface 53 (.int .i64 2)] : Value) = takeV b by first | (obtain ⟨e1, e2, _⟩ := take_at i0 hx; rw [takeV_t ((take_iff i0 hx).2 ⟨by assumption, by assumption, by assumption⟩), e1, e2]; rfl) | exact (takeV_f (fun h => absurd ((take_iff i0 hx).1 h).1 (by assumption))).symm | exact (takeV_f (fun h => absurd (by assumption) ((take_iff i0 hx).1 h).2.1)).symm | exact (takeV_f (fun h => absurd ((take_iff i0 hx).1 h).2.2 (by assumption))).symm), Nat.le_of_ble_eq_true (by kernel_rfl)⟩
noncomputable def con_ftake : Con Try.prog 0 := Con.pure (α := (List UInt8)) 25 (fun z9 => [inlL bcells 1 z9]) (fun z9 => takeV z9) (fun z9 => (z9.length ≤ 1000000000) ∧ (okK (rk z9)) ∧ (okS (rs z9)) ∧ (okK (rkw z9))) (by
  intro x y h
  simp only [List.cons.injEq, and_true, Int.natCast_inj, Value.int.injEq, Value.bool.injEq, Value.string.injEq, Value.agg.injEq, Array.mk.injEq, true_and, bcells_iff] at h
  first | exact h | (simp only [Prod.ext_iff, h, and_self, and_true, true_and]; done) | simp_all [Prod.ext_iff]) (fun _ => rfl) (fun z9 => takeV_clo z9) 400 (by
  rintro x ⟨p0, p1, p2, p3⟩
  exact ftake_sc x p0 p1 p2 p3)
theorem con_ftake_at (b : List UInt8) (h0 : b.length ≤ 1000000000) (h1 : okK (rk b)) (h2 : okS (rs b)) (h3 : okK (rkw b)) (s : St) : con_ftake.rel [inlL bcells 1 b] s (takeV b) s := con_pure b ⟨h0, h1, h2, h3⟩ s
end Go.Proofs.Ytekeepgjegkedaa