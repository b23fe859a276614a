/- A record encoded. -/
import Derived.Test.YtegigohhnplomaaBody
set_option linter.unusedVariables false
set_option linter.unusedSimpArgs false
set_option linter.unnecessarySimpa false
namespace Go.Proofs.Ytegigohhnplomaa
open Go.Ai
noncomputable def encB (sq : Int) (vl : Bool) (fu : Int) (co : List Code) (rs : List Key) (ss : List Span) (ws : List Key) (wr : List Wr) : List UInt8 := bodyB sq vl fu co rs ss ws wr ++ s4 (bodyB sq vl fu co rs ss ws wr)
noncomputable def encV (sq : Int) (vl : Bool) (fu : Int) (co : List Code) (rs : List Key) (ss : List Span) (ws : List Key) (wr : List Wr) : Value := if tf (goodR_ sq vl fu co rs ss ws wr) = true then .tuple #[inlL bcells 1 (encB sq vl fu co rs ss ws wr), .nilIface] else .tuple #[inlL bcells 1 ([] : List UInt8), .iface 58 (.int .i64 2)]
theorem encV_clo (sq : Int) (vl : Bool) (fu : Int) (co : List Code) (rs : List Key) (ss : List Span) (ws : List Key) (wr : List Wr) : clo (encV sq vl fu co rs ss ws wr) = true := by unfold encV; split <;> rfl
theorem encV_t {sq : Int} {vl : Bool} {fu : Int} {co : List Code} {rs : List Key} {ss : List Span} {ws : List Key} {wr : List Wr} (h : goodR_ sq vl fu co rs ss ws wr) : encV sq vl fu co rs ss ws wr = .tuple #[inlL bcells 1 (encB sq vl fu co rs ss ws wr), .nilIface] := by rw [encV, tf_true h, if_pos rfl]
theorem encV_f {sq : Int} {vl : Bool} {fu : Int} {co : List Code} {rs : List Key} {ss : List Span} {ws : List Key} {wr : List Wr} (h : ¬ goodR_ sq vl fu co rs ss ws wr) : encV sq vl fu co rs ss ws wr = .tuple #[inlL bcells 1 ([] : List UInt8), .iface 58 (.int .i64 2)] := by rw [encV, tf_false h]; rfl
theorem bodyB_len {sq : Int} {vl : Bool} {fu : Int} {co : List Code} {rs : List Key} {ss : List Span} {ws : List Key} {wr : List Wr} (h0 : goodR_ sq vl fu co rs ss ws wr) (h1 : okK rs) (h2 : okS ss) (h3 : okK ws) (h4 : ∀ c ∈ co, inC c) (h5 : ∀ w ∈ wr, inW w) (h6 : wr.length ≤ 4000) : (bodyB sq vl fu co rs ss ws wr).length ≤ 1000000000 := by
  cases hv : vl
  · have q := body_3 (c := 0) h0 hv h4 h1 h2 h3
    have q1 := progB_len (fu := fu) (by have := ((good_c hv).1 h0).2.2.1.1.2.2; omega) h4
    have q2 := putP_len h1 h2 h3
    have q3 := uv_len10 (u64_lt sq)
    have q4 := uv_len10 (x := (progB fu co).length) (by omega)
    have q5 := uv_len10 (x := (putP rs ss ws).length) (by omega)
    simp only [bodyB, cond_false, List.length_append, List.length_cons, List.length_nil]
    omega
  · have q3 := uv_len10 (u64_lt sq)
    have q4 := uv_len10 (x := wr.length) (by omega)
    have q := catB_len (f := wrB) (c := 31) (l := wr) fun x hx => by
      have := wrB_len (h5 x hx) (l := [])
      simpa using this
    simp only [bodyB, cond_true, List.length_append, List.length_cons, List.length_nil]
    omega
theorem encode_fn : Try.cfg.fn 8 = some Try.f8 := by kernel_rfl
set_option maxHeartbeats 4000000 in
set_option maxRecDepth 100000 in
theorem encode_sc (sq : Int) (vl : Bool) (fu : Int) (co : List Code) (rs : List Key) (ss : List Span) (ws : List Key) (wr : List Wr) (h0 : okK rs) (h1 : okS ss) (h2 : okK ws) (h3 : ∀ c ∈ co, inC c) (h4 : ∀ w ∈ wr, inW w) (h5 : wr.length ≤ 4000) (h6 : co.length ≤ 4000) : SC Try.prog 0 8 [.agg #[.int .i64 sq, .bool vl, .int .i64 fu, inlL ccells 6 co, inlL kcells 2 rs, inlL scells 3 ss, inlL kcells 2 ws, inlL wcells 4 wr]] (St.empty 0) fun v s' => v = encV sq vl fu co rs ss ws wr ∧ s'.n ≤ 400 := by
  obtain ⟨rc, hS, hC⟩ := rc_con (sound_run Try.cfgOk 300) [con_rgood, con_body, con_summed] (by kernel_rfl)
  have hC15 := hC con_rgood (.head _)
  have hC17 := hC con_body (.tail _ (.head _))
  have hC16 := hC con_summed (.tail _ (.tail _ (.head _)))
  refine sc_ice0 (N := 400) (v2 := encV sq vl fu co rs ss ws wr) (Q := fun v s' => FS 0 s' v (encV sq vl fu co rs ss ws wr) ∧ s'.n ≤ 400) ?_ (fun _ _ h => h)
  refine sc_body Try.cfgOk encode_fn rfl ?_
  refine sk_seq ?_
  refine sk_regionK Try.cfgOk hS (by kernel_rfl) ?_
  refine sk_seq (sk_seq ?_)
  refine sk_regionL Try.cfgOk hS ?_
  refine al_chunk 1 (by kernel_rfl) ?_
  refine al_callB 15 [.agg #[.int .i64 sq, .bool vl, .int .i64 fu, inlL ccells 6 co, inlL kcells 2 rs, inlL scells 3 ss, inlL kcells 2 ws, inlL wcells 4 wr]] (tf (goodR_ sq vl fu co rs ss ws wr)) _ rfl (fun b h => by cases h) (by kernel_rfl) (by kernel_rfl) (hC15 _ _ _ _ (con_rgood_at sq vl fu co rs ss ws wr (by first | assumption | omega | (have q := h0.1; omega) | (have q := h1.1; omega) | (have q := h2.1; omega) | exact bodyB_len (by assumption) h0 h1 h2 h3 h4 h5) (by first | assumption | omega | (have q := h0.1; omega) | (have q := h1.1; omega) | (have q := h2.1; omega) | exact bodyB_len (by assumption) h0 h1 h2 h3 h4 h5) (by first | assumption | omega | (have q := h0.1; omega) | (have q := h1.1; omega) | (have q := h2.1; omega) | exact bodyB_len (by assumption) h0 h1 h2 h3 h4 h5) (by first | assumption | omega | (have q := h0.1; omega) | (have q := h1.1; omega) | (have q := h2.1; omega) | exact bodyB_len (by assumption) h0 h1 h2 h3 h4 h5) (by first | assumption | omega | (have q := h0.1; omega) | (have q := h1.1; omega) | (have q := h2.1; omega) | exact bodyB_len (by assumption) h0 h1 h2 h3 h4 h5) _)) (fun h1 => ?_) (fun h1 => ?_)
  · have c2 : goodR_ sq vl fu co rs ss ws wr := tf_t h1
    clear h1
    refine al_known (by kernel_rfl) ?_
    refine sk_false (by kernel_rfl) ?_
    refine sk_skip (sk_seq ?_)
    refine sk_regionL Try.cfgOk hS ?_
    refine al_chunk 1 (by kernel_rfl) ?_
    refine al_callH 17 [.agg #[.int .i64 sq, .bool vl, .int .i64 fu, inlL ccells 6 co, inlL kcells 2 rs, inlL scells 3 ss, inlL kcells 2 ws, inlL wcells 4 wr]] (slL 1 1 ((bodyB sq vl fu co rs ss ws wr).length)) _ rfl (fun b h => by cases h) (by kernel_rfl) (by kernel_rfl) (hC17 _ _ _ _ (con_body_at sq vl fu co rs ss ws wr 1 (by first | assumption | omega | (have q := h0.1; omega) | (have q := h1.1; omega) | (have q := h2.1; omega) | exact bodyB_len (by assumption) h0 h1 h2 h3 h4 h5) (by first | assumption | omega | (have q := h0.1; omega) | (have q := h1.1; omega) | (have q := h2.1; omega) | exact bodyB_len (by assumption) h0 h1 h2 h3 h4 h5) (by first | assumption | omega | (have q := h0.1; omega) | (have q := h1.1; omega) | (have q := h2.1; omega) | exact bodyB_len (by assumption) h0 h1 h2 h3 h4 h5) (by first | assumption | omega | (have q := h0.1; omega) | (have q := h1.1; omega) | (have q := h2.1; omega) | exact bodyB_len (by assumption) h0 h1 h2 h3 h4 h5) (by first | assumption | omega | (have q := h0.1; omega) | (have q := h1.1; omega) | (have q := h2.1; omega) | exact bodyB_len (by assumption) h0 h1 h2 h3 h4 h5) (by first | assumption | omega | (have q := h0.1; omega) | (have q := h1.1; omega) | (have q := h2.1; omega) | exact bodyB_len (by assumption) h0 h1 h2 h3 h4 h5) (by first | assumption | omega | (have q := h0.1; omega) | (have q := h1.1; omega) | (have q := h2.1; omega) | exact bodyB_len (by assumption) h0 h1 h2 h3 h4 h5) _ (by kernel_rfl) (by kernel_rfl) )) ?_
    refine al_callH 16 [slL 1 1 ((bodyB sq vl fu co rs ss ws wr).length)] (slL 1 1 (((bodyB sq vl fu co rs ss ws wr) ++ s4 (bodyB sq vl fu co rs ss ws wr)).length)) _ rfl (fun b h => by cases h) (by kernel_rfl) (by kernel_rfl) (hC16 _ _ _ _ (con_summed_at (bodyB sq vl fu co rs ss ws wr) 1 (by first | assumption | omega | (have q := h0.1; omega) | (have q := h1.1; omega) | (have q := h2.1; omega) | exact bodyB_len (by assumption) h0 h1 h2 h3 h4 h5) _ (by kernel_rfl) (by kernel_rfl) )) ?_
    refine al_known (by kernel_rfl) ?_
    refine sk_ret ?_
    exact ⟨[slL 1 1 (((bodyB sq vl fu co rs ss ws wr) ++ s4 (bodyB sq vl fu co rs ss ws wr)).length), .nilIface], by kernel_rfl, fs_to (.tuple (.cons (fs_to (fs_rowL (by decide) bcells_len bcells_clo bcells_one (Nat.le_of_ble_eq_true (by kernel_rfl)) (by kernel_rfl)) (congrArg (inlL bcells 1) (by rfl))) (.cons (.same (sub_clo rfl)) (.nil)))) (show (.tuple #[inlL bcells 1 (encB sq vl fu co rs ss ws wr), .nilIface] : Value) = encV sq vl fu co rs ss ws wr by first | exact (encV_t (by assumption)).symm | exact (encV_f (by assumption)).symm), Nat.le_of_ble_eq_true (by kernel_rfl)⟩
  · have c2 : ¬ (goodR_ sq vl fu co rs ss ws wr) := tf_f h1
    clear h1
    refine al_known (by kernel_rfl) ?_
    refine sk_true (by kernel_rfl) ?_
    refine sk_seq ?_
    refine sk_regionK Try.cfgOk hS (by kernel_rfl) ?_
    refine sk_ret ?_
    exact ⟨[.slice none 0 0, .iface 58 (.int .i64 2)], by kernel_rfl, fs_to (.tuple (.cons (fs_to (fs_nilL (f := bcells) (sz := 1) (by decide)) (congrArg (inlL bcells 1) (by rfl))) (.cons (.same (.iface (sub_clo rfl))) (.nil)))) (show (.tuple #[inlL bcells 1 ([] : List UInt8), .iface 58 (.int .i64 2)] : Value) = encV sq vl fu co rs ss ws wr by first | exact (encV_t (by assumption)).symm | exact (encV_f (by assumption)).symm), Nat.le_of_ble_eq_true (by kernel_rfl)⟩
noncomputable def con_encode : Con Try.prog 0 := Con.pure (α := Int × Bool × Int × (List Code) × (List Key) × (List Span) × (List Key) × (List Wr)) 8 (fun z9 => [.agg #[.int .i64 z9.1, .bool z9.2.1, .int .i64 z9.2.2.1, inlL ccells 6 z9.2.2.2.1, inlL kcells 2 z9.2.2.2.2.1, inlL scells 3 z9.2.2.2.2.2.1, inlL kcells 2 z9.2.2.2.2.2.2.1, inlL wcells 4 z9.2.2.2.2.2.2.2]]) (fun z9 => encV z9.1 z9.2.1 z9.2.2.1 z9.2.2.2.1 z9.2.2.2.2.1 z9.2.2.2.2.2.1 z9.2.2.2.2.2.2.1 z9.2.2.2.2.2.2.2) (fun z9 => (okK z9.2.2.2.2.1) ∧ (okS z9.2.2.2.2.2.1) ∧ (okK z9.2.2.2.2.2.2.1) ∧ (∀ c ∈ z9.2.2.2.1, inC c) ∧ (∀ w ∈ z9.2.2.2.2.2.2.2, inW w) ∧ (z9.2.2.2.2.2.2.2.length ≤ 4000) ∧ (z9.2.2.2.1.length ≤ 4000)) (by
  rintro ⟨a0, a1, a2, a3, a4, a5, a6, a7⟩ ⟨b0, b1, b2, b3, b4, b5, b6, b7⟩ h
  simp only [List.cons.injEq, and_true, Int.natCast_inj, UInt8.toNat_inj, Value.int.injEq, Value.bool.injEq, Value.string.injEq, Value.agg.injEq, Array.mk.injEq, true_and, ccells_iff, kcells_iff, scells_iff, wcells_iff] at h
  first | exact h | (simp only [Prod.ext_iff, h, and_self, and_true, true_and]; done) | simp_all [Prod.ext_iff]) (fun _ => rfl) (fun z9 => encV_clo z9.1 z9.2.1 z9.2.2.1 z9.2.2.2.1 z9.2.2.2.2.1 z9.2.2.2.2.2.1 z9.2.2.2.2.2.2.1 z9.2.2.2.2.2.2.2) 400 (by
  rintro ⟨a0, a1, a2, a3, a4, a5, a6, a7⟩ ⟨p0, p1, p2, p3, p4, p5, p6⟩
  exact encode_sc a0 a1 a2 a3 a4 a5 a6 a7 p0 p1 p2 p3 p4 p5 p6)
theorem con_encode_at (sq : Int) (vl : Bool) (fu : Int) (co : List Code) (rs : List Key) (ss : List Span) (ws : List Key) (wr : List Wr) (h0 : okK rs) (h1 : okS ss) (h2 : okK ws) (h3 : ∀ c ∈ co, inC c) (h4 : ∀ w ∈ wr, inW w) (h5 : wr.length ≤ 4000) (h6 : co.length ≤ 4000) (s : St) : con_encode.rel [.agg #[.int .i64 sq, .bool vl, .int .i64 fu, inlL ccells 6 co, inlL kcells 2 rs, inlL scells 3 ss, inlL kcells 2 ws, inlL wcells 4 wr]] s (encV sq vl fu co rs ss ws wr) s := con_pure (sq, vl, fu, co, rs, ss, ws, wr) ⟨h0, h1, h2, h3, h4, h5, h6⟩ s
end Go.Proofs.Ytegigohhnplomaa