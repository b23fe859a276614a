/- The law: unlike good records have unlike bytes. -/
import Derived.Test.YtegigohhnplomaaInj
import Derived.Test.YtegigohhnplomaaSame
set_option linter.unusedVariables false
set_option linter.unusedSimpArgs false
set_option linter.unnecessarySimpa false
namespace Go.Proofs.Ytegigohhnplomaa
open Go.Ai
theorem programT_fn : Try.cfg.fn 9 = some Try.f9 := by kernel_rfl
set_option maxHeartbeats 4000000 in
set_option maxRecDepth 100000 in
theorem programT_sc (sq : Int) (vl : Bool) (fu : Int) (co : List Code) (rs : List Key) (ss : List Span) (ws : List Key) (wr : List Wr) (h0 : co.length ≤ 1000000) (h1 : rs.length ≤ 1000000) (h2 : ss.length ≤ 1000000) (h3 : ws.length ≤ 1000000) (h4 : wr.length ≤ 1000000) : SC Try.prog 0 9 [.agg #[.int .i64 sq, .bool vl, .int .i64 fu, inlL ccells 6 co, inlL kcells 2 rs, inlL scells 3 ss, inlL kcells 2 ws, inlL wcells 4 wr]] (St.empty 0) fun v s' => v = .agg #[.int .i64 sq, .bool vl, .int .i64 fu, inlL ccells 6 co, inlL kcells 2 rs, inlL scells 3 ss, inlL kcells 2 ws, inlL wcells 4 wr] ∧ s'.n ≤ 400 := by
  have hS := sound_run Try.cfgOk 300
  refine sc_ice0 (N := 400) (v2 := .agg #[.int .i64 sq, .bool vl, .int .i64 fu, inlL ccells 6 co, inlL kcells 2 rs, inlL scells 3 ss, inlL kcells 2 ws, inlL wcells 4 wr]) (Q := fun v s' => FS 0 s' v (.agg #[.int .i64 sq, .bool vl, .int .i64 fu, inlL ccells 6 co, inlL kcells 2 rs, inlL scells 3 ss, inlL kcells 2 ws, inlL wcells 4 wr]) ∧ s'.n ≤ 400) ?_ (fun _ _ h => h)
  refine sc_body Try.cfgOk programT_fn rfl ?_
  refine sk_seq ?_
  refine sk_regionK Try.cfgOk hS (by kernel_rfl) ?_
  refine sk_seq ?_
  refine sk_regionK Try.cfgOk hS (by kernel_rfl) ?_
  refine sk_seq ?_
  refine sk_regionL Try.cfgOk hS ?_
  refine al_chunk 4 (by kernel_rfl) ?_
  refine al_opF (v := slL 3 6 (([] : List Code) ++ co).length) (s1 := (((((St.empty 0).new (.cells [.int .i64 sq, .bool vl, .int .i64 fu, inlL ccells 6 co, inlL kcells 2 rs, inlL scells 3 ss, inlL kcells 2 ws, inlL wcells 4 wr])).new (.cells [.int .i64 0, .bool false, .int .i64 0, .slice none 0 0, .slice none 0 0, .slice none 0 0, .slice none 0 0, .slice none 0 0])).new (.cells [.int .i64 sq, .bool vl, .int .i64 fu, inlL ccells 6 co, inlL kcells 2 rs, inlL scells 3 ss, inlL kcells 2 ws, inlL wcells 4 wr])).new (rowL ccells ([] : List Code))).set 3 (rowL ccells (([] : List Code) ++ co))) (by kernel_rfl) (by kernel_rfl) (Eq.trans (b := appendV Try.cfg (((((St.empty 0).new (.cells [.int .i64 sq, .bool vl, .int .i64 fu, inlL ccells 6 co, inlL kcells 2 rs, inlL scells 3 ss, inlL kcells 2 ws, inlL wcells 4 wr])).new (.cells [.int .i64 0, .bool false, .int .i64 0, .slice none 0 0, .slice none 0 0, .slice none 0 0, .slice none 0 0, .slice none 0 0])).new (.cells [.int .i64 sq, .bool vl, .int .i64 fu, inlL ccells 6 co, inlL kcells 2 rs, inlL scells 3 ss, inlL kcells 2 ws, inlL wcells 4 wr])).new (rowL ccells ([] : List Code))) 22 (slL 3 6 (([] : List Code).length)) (inlL ccells 6 co)) (by kernel_rfl) (app_rowL (l := ([] : List Code)) (l2 := co) (bytes := 48) tokC (by kernel_rfl) ccells_len ccells_one (by kernel_rfl) (lenV_inl tokC) (firstV_inlL tokC ccells_len) (by (try simp only [List.length_cons, List.length_nil, List.length_append]); omega))) ?_
  refine al_known (by kernel_rfl) ?_
  refine sk_seq ?_
  refine sk_drawL Try.cfgOk hS ?_
  refine ald_chunk 4 (by kernel_rfl) ?_
  refine ald_opF (v := slL 4 2 (([] : List Key) ++ rs).length) (s1 := ((((((St.empty 0).new (.cells [.int .i64 sq, .bool vl, .int .i64 fu, inlL ccells 6 co, inlL kcells 2 rs, inlL scells 3 ss, inlL kcells 2 ws, inlL wcells 4 wr])).new (.cells [.int .i64 0, .bool false, .int .i64 0, .slice none 0 0, .slice none 0 0, .slice none 0 0, .slice none 0 0, .slice none 0 0])).new (.cells [.int .i64 sq, .bool vl, .int .i64 fu, slL 3 6 ((([] : List Code) ++ co).length), inlL kcells 2 rs, inlL scells 3 ss, inlL kcells 2 ws, inlL wcells 4 wr])).new (rowL ccells (([] : List Code) ++ co))).new (rowL kcells ([] : List Key))).set 4 (rowL kcells (([] : List Key) ++ rs))) (by kernel_rfl) (by kernel_rfl) (Eq.trans (b := appendV Try.cfg ((((((St.empty 0).new (.cells [.int .i64 sq, .bool vl, .int .i64 fu, inlL ccells 6 co, inlL kcells 2 rs, inlL scells 3 ss, inlL kcells 2 ws, inlL wcells 4 wr])).new (.cells [.int .i64 0, .bool false, .int .i64 0, .slice none 0 0, .slice none 0 0, .slice none 0 0, .slice none 0 0, .slice none 0 0])).new (.cells [.int .i64 sq, .bool vl, .int .i64 fu, slL 3 6 ((([] : List Code) ++ co).length), inlL kcells 2 rs, inlL scells 3 ss, inlL kcells 2 ws, inlL wcells 4 wr])).new (rowL ccells (([] : List Code) ++ co))).new (rowL kcells ([] : List Key))) 25 (slL 4 2 (([] : List Key).length)) (inlL kcells 2 rs)) (by kernel_rfl) (app_rowL (l := ([] : List Key)) (l2 := rs) (bytes := 16) tokC (by kernel_rfl) kcells_len kcells_one (by kernel_rfl) (lenV_inl tokC) (firstV_inlL tokC kcells_len) (by (try simp only [List.length_cons, List.length_nil, List.length_append]); omega))) (by kernel_rfl) ?_
  refine ald_chunk 3 (by kernel_rfl) ?_
  refine ald_readK (d := (0, St.empty 0, St.empty 0)) (by kernel_rfl) (by kernel_rfl) (by kernel_rfl) (by kernel_rfl) (below_len (k := 1) (by kernel_rfl) (all1 (.inr (read_again (by kernel_rfl) (Eq.trans (b := inlL scells 3 ss) (by kernel_rfl) (by kernel_rfl)))))) ?_
  refine ald_opF (v := slL 5 3 (([] : List Span) ++ ss).length) (s1 := (((((((St.empty 0).new (.cells [.int .i64 sq, .bool vl, .int .i64 fu, inlL ccells 6 co, inlL kcells 2 rs, inlL scells 3 ss, inlL kcells 2 ws, inlL wcells 4 wr])).new (.cells [.int .i64 0, .bool false, .int .i64 0, .slice none 0 0, .slice none 0 0, .slice none 0 0, .slice none 0 0, .slice none 0 0])).new (.cells [.int .i64 sq, .bool vl, .int .i64 fu, slL 3 6 ((([] : List Code) ++ co).length), inlL kcells 2 rs, inlL scells 3 ss, inlL kcells 2 ws, inlL wcells 4 wr])).new (rowL ccells (([] : List Code) ++ co))).new (rowL kcells (([] : List Key) ++ rs))).new (rowL scells ([] : List Span))).set 5 (rowL scells (([] : List Span) ++ ss))) (by kernel_rfl) (by kernel_rfl) (Eq.trans (b := appendV Try.cfg (((((((St.empty 0).new (.cells [.int .i64 sq, .bool vl, .int .i64 fu, inlL ccells 6 co, inlL kcells 2 rs, inlL scells 3 ss, inlL kcells 2 ws, inlL wcells 4 wr])).new (.cells [.int .i64 0, .bool false, .int .i64 0, .slice none 0 0, .slice none 0 0, .slice none 0 0, .slice none 0 0, .slice none 0 0])).new (.cells [.int .i64 sq, .bool vl, .int .i64 fu, slL 3 6 ((([] : List Code) ++ co).length), inlL kcells 2 rs, inlL scells 3 ss, inlL kcells 2 ws, inlL wcells 4 wr])).new (rowL ccells (([] : List Code) ++ co))).new (rowL kcells (([] : List Key) ++ rs))).new (rowL scells ([] : List Span))) 26 (slL 5 3 (([] : List Span).length)) (inlL scells 3 ss)) (by kernel_rfl) (app_rowL (l := ([] : List Span)) (l2 := ss) (bytes := 24) tokC (by kernel_rfl) scells_len scells_one (by kernel_rfl) (lenV_inl tokC) (firstV_inlL tokC scells_len) (by (try simp only [List.length_cons, List.length_nil, List.length_append]); omega))) (by kernel_rfl) ?_
  refine ald_chunk 3 (by kernel_rfl) ?_
  refine ald_readK (d := (0, St.empty 0, St.empty 0)) (by kernel_rfl) (by kernel_rfl) (by kernel_rfl) (by kernel_rfl) (below_len (k := 2) (by kernel_rfl) (all2 (.inr (read_again (by kernel_rfl) (Eq.trans (b := inlL kcells 2 ws) (by kernel_rfl) (by kernel_rfl)))) (.inr (read_again (by kernel_rfl) (Eq.trans (b := inlL kcells 2 ws) (by kernel_rfl) (by kernel_rfl)))))) ?_
  refine ald_opF (v := slL 6 2 (([] : List Key) ++ ws).length) (s1 := ((((((((St.empty 0).new (.cells [.int .i64 sq, .bool vl, .int .i64 fu, inlL ccells 6 co, inlL kcells 2 rs, inlL scells 3 ss, inlL kcells 2 ws, inlL wcells 4 wr])).new (.cells [.int .i64 0, .bool false, .int .i64 0, .slice none 0 0, .slice none 0 0, .slice none 0 0, .slice none 0 0, .slice none 0 0])).new (.cells [.int .i64 sq, .bool vl, .int .i64 fu, slL 3 6 ((([] : List Code) ++ co).length), inlL kcells 2 rs, inlL scells 3 ss, inlL kcells 2 ws, inlL wcells 4 wr])).new (rowL ccells (([] : List Code) ++ co))).new (rowL kcells (([] : List Key) ++ rs))).new (rowL scells (([] : List Span) ++ ss))).new (rowL kcells ([] : List Key))).set 6 (rowL kcells (([] : List Key) ++ ws))) (by kernel_rfl) (by kernel_rfl) (Eq.trans (b := appendV Try.cfg ((((((((St.empty 0).new (.cells [.int .i64 sq, .bool vl, .int .i64 fu, inlL ccells 6 co, inlL kcells 2 rs, inlL scells 3 ss, inlL kcells 2 ws, inlL wcells 4 wr])).new (.cells [.int .i64 0, .bool false, .int .i64 0, .slice none 0 0, .slice none 0 0, .slice none 0 0, .slice none 0 0, .slice none 0 0])).new (.cells [.int .i64 sq, .bool vl, .int .i64 fu, slL 3 6 ((([] : List Code) ++ co).length), inlL kcells 2 rs, inlL scells 3 ss, inlL kcells 2 ws, inlL wcells 4 wr])).new (rowL ccells (([] : List Code) ++ co))).new (rowL kcells (([] : List Key) ++ rs))).new (rowL scells (([] : List Span) ++ ss))).new (rowL kcells ([] : List Key))) 25 (slL 6 2 (([] : List Key).length)) (inlL kcells 2 ws)) (by kernel_rfl) (app_rowL (l := ([] : List Key)) (l2 := ws) (bytes := 16) tokC (by kernel_rfl) kcells_len kcells_one (by kernel_rfl) (lenV_inl tokC) (firstV_inlL tokC kcells_len) (by (try simp only [List.length_cons, List.length_nil, List.length_append]); omega))) (by kernel_rfl) ?_
  refine ald_chunk 3 (by kernel_rfl) ?_
  refine ald_nil ?_
  refine sk_seq ?_
  refine sk_regionL Try.cfgOk hS ?_
  refine al_chunk 3 (by kernel_rfl) ?_
  refine al_opF (v := slL 7 4 (([] : List Wr) ++ wr).length) (s1 := (((((((((St.empty 0).new (.cells [.int .i64 sq, .bool vl, .int .i64 fu, inlL ccells 6 co, inlL kcells 2 rs, inlL scells 3 ss, inlL kcells 2 ws, inlL wcells 4 wr])).new (.cells [.int .i64 0, .bool false, .int .i64 0, .slice none 0 0, .slice none 0 0, .slice none 0 0, .slice none 0 0, .slice none 0 0])).new (.cells [.int .i64 sq, .bool vl, .int .i64 fu, slL 3 6 ((([] : List Code) ++ co).length), slL 4 2 ((([] : List Key) ++ rs).length), slL 5 3 ((([] : List Span) ++ ss).length), slL 6 2 ((([] : List Key) ++ ws).length), inlL wcells 4 wr])).new (rowL ccells (([] : List Code) ++ co))).new (rowL kcells (([] : List Key) ++ rs))).new (rowL scells (([] : List Span) ++ ss))).new (rowL kcells (([] : List Key) ++ ws))).new (rowL wcells ([] : List Wr))).set 7 (rowL wcells (([] : List Wr) ++ wr))) (by kernel_rfl) (by kernel_rfl) (Eq.trans (b := appendV Try.cfg (((((((((St.empty 0).new (.cells [.int .i64 sq, .bool vl, .int .i64 fu, inlL ccells 6 co, inlL kcells 2 rs, inlL scells 3 ss, inlL kcells 2 ws, inlL wcells 4 wr])).new (.cells [.int .i64 0, .bool false, .int .i64 0, .slice none 0 0, .slice none 0 0, .slice none 0 0, .slice none 0 0, .slice none 0 0])).new (.cells [.int .i64 sq, .bool vl, .int .i64 fu, slL 3 6 ((([] : List Code) ++ co).length), slL 4 2 ((([] : List Key) ++ rs).length), slL 5 3 ((([] : List Span) ++ ss).length), slL 6 2 ((([] : List Key) ++ ws).length), inlL wcells 4 wr])).new (rowL ccells (([] : List Code) ++ co))).new (rowL kcells (([] : List Key) ++ rs))).new (rowL scells (([] : List Span) ++ ss))).new (rowL kcells (([] : List Key) ++ ws))).new (rowL wcells ([] : List Wr))) 29 (slL 7 4 (([] : List Wr).length)) (inlL wcells 4 wr)) (by kernel_rfl) (app_rowL (l := ([] : List Wr)) (l2 := wr) (bytes := 32) tokC (by kernel_rfl) wcells_len wcells_one (by kernel_rfl) (lenV_inl tokC) (firstV_inlL tokC wcells_len) (by (try simp only [List.length_cons, List.length_nil, List.length_append]); omega))) ?_
  refine al_known (by kernel_rfl) ?_
  refine sk_seq ?_
  refine sk_regionK Try.cfgOk hS (by kernel_rfl) ?_
  refine sk_ret ?_
  exact ⟨[.agg #[.int .i64 sq, .bool vl, .int .i64 fu, slL 3 6 ((([] : List Code) ++ co).length), slL 4 2 ((([] : List Key) ++ rs).length), slL 5 3 ((([] : List Span) ++ ss).length), slL 6 2 ((([] : List Key) ++ ws).length), slL 7 4 ((([] : List Wr) ++ wr).length)]], by kernel_rfl, .agg (.cons (.same (sub_clo rfl)) (.cons (.same (sub_clo rfl)) (.cons (.same (sub_clo rfl)) (.cons (fs_to (fs_rowL (by decide) ccells_len ccells_clo ccells_one (Nat.le_of_ble_eq_true (by kernel_rfl)) (by kernel_rfl)) (congrArg (inlL ccells 6) (by rfl))) (.cons (fs_to (fs_rowL (by decide) kcells_len kcells_clo kcells_one (Nat.le_of_ble_eq_true (by kernel_rfl)) (by kernel_rfl)) (congrArg (inlL kcells 2) (by rfl))) (.cons (fs_to (fs_rowL (by decide) scells_len scells_clo scells_one (Nat.le_of_ble_eq_true (by kernel_rfl)) (by kernel_rfl)) (congrArg (inlL scells 3) (by rfl))) (.cons (fs_to (fs_rowL (by decide) kcells_len kcells_clo kcells_one (Nat.le_of_ble_eq_true (by kernel_rfl)) (by kernel_rfl)) (congrArg (inlL kcells 2) (by rfl))) (.cons (fs_to (fs_rowL (by decide) wcells_len wcells_clo wcells_one (Nat.le_of_ble_eq_true (by kernel_rfl)) (by kernel_rfl)) (congrArg (inlL wcells 4) (by rfl))) (.nil))))))))), Nat.le_of_ble_eq_true (by kernel_rfl)⟩
noncomputable def con_programT : Con Try.prog 0 := Con.pure (α := Int × Bool × Int × (List Code) × (List Key) × (List Span) × (List Key) × (List Wr)) 9 (fun z9 => [.agg #[.int .i64 z9.1, .bool z9.2.1, .int .i64 z9.2.2.1, inlL ccells 6 z9.2.2.2.1, inlL kcells 2 z9.2.2.2.2.1, inlL scells 3 z9.2.2.2.2.2.1, inlL kcells 2 z9.2.2.2.2.2.2.1, inlL wcells 4 z9.2.2.2.2.2.2.2]]) (fun z9 => .agg #[.int .i64 z9.1, .bool z9.2.1, .int .i64 z9.2.2.1, inlL ccells 6 z9.2.2.2.1, inlL kcells 2 z9.2.2.2.2.1, inlL scells 3 z9.2.2.2.2.2.1, inlL kcells 2 z9.2.2.2.2.2.2.1, inlL wcells 4 z9.2.2.2.2.2.2.2]) (fun z9 => (z9.2.2.2.1.length ≤ 1000000) ∧ (z9.2.2.2.2.1.length ≤ 1000000) ∧ (z9.2.2.2.2.2.1.length ≤ 1000000) ∧ (z9.2.2.2.2.2.2.1.length ≤ 1000000) ∧ (z9.2.2.2.2.2.2.2.length ≤ 1000000)) (by
  rintro ⟨a0, a1, a2, a3, a4, a5, a6, a7⟩ ⟨b0, b1, b2, b3, b4, b5, b6, b7⟩ h
  simp only [List.cons.injEq, and_true, Int.natCast_inj, UInt8.toNat_inj, Value.int.injEq, Value.bool.injEq, Value.string.injEq, Value.agg.injEq, Array.mk.injEq, true_and, ccells_iff, kcells_iff, scells_iff, wcells_iff] at h
  first | exact h | (simp only [Prod.ext_iff, h, and_self, and_true, true_and]; done) | simp_all [Prod.ext_iff]) (fun _ => rfl) (fun _ => rfl) 400 (by
  rintro ⟨a0, a1, a2, a3, a4, a5, a6, a7⟩ ⟨p0, p1, p2, p3, p4⟩
  exact programT_sc a0 a1 a2 a3 a4 a5 a6 a7 p0 p1 p2 p3 p4)
theorem con_programT_at (sq : Int) (vl : Bool) (fu : Int) (co : List Code) (rs : List Key) (ss : List Span) (ws : List Key) (wr : List Wr) (h0 : co.length ≤ 1000000) (h1 : rs.length ≤ 1000000) (h2 : ss.length ≤ 1000000) (h3 : ws.length ≤ 1000000) (h4 : wr.length ≤ 1000000) (s : St) : con_programT.rel [.agg #[.int .i64 sq, .bool vl, .int .i64 fu, inlL ccells 6 co, inlL kcells 2 rs, inlL scells 3 ss, inlL kcells 2 ws, inlL wcells 4 wr]] s (.agg #[.int .i64 sq, .bool vl, .int .i64 fu, inlL ccells 6 co, inlL kcells 2 rs, inlL scells 3 ss, inlL kcells 2 ws, inlL wcells 4 wr]) s := con_pure (sq, vl, fu, co, rs, ss, ws, wr) ⟨h0, h1, h2, h3, h4⟩ s
theorem nsameB_fn : Try.cfg.fn 10 = some Try.f10 := by kernel_rfl
set_option maxHeartbeats 4000000 in
set_option maxRecDepth 100000 in
theorem nsameB_sc (la : List UInt8) (lb : List UInt8)  : SC Try.prog 0 10 [inlL bcells 1 la, inlL bcells 1 lb] (St.empty 0) fun v s' => v = .bool (decide (la = lb)) ∧ s'.n ≤ 400 := by
  have hS := sound_run Try.cfgOk 300
  refine sc_ice0 (N := 400) (v2 := .bool (decide (la = lb))) (Q := fun v s' => FS 0 s' v (.bool (decide (la = lb))) ∧ s'.n ≤ 400) ?_ (fun _ _ h => h)
  refine sc_body Try.cfgOk nsameB_fn rfl ?_
  refine sk_seq ?_
  refine sk_regionK Try.cfgOk hS (by kernel_rfl) ?_
  refine sk_seq ?_
  refine sk_regionL Try.cfgOk hS ?_
  refine al_chunk 1 (by kernel_rfl) ?_
  refine al_opF (v := .string (bstr la)) (s1 := (St.empty 0)) (by kernel_rfl) (by kernel_rfl) (Eq.trans (b := convS Try.cfg (St.empty 0) 34 9 (inlL bcells 1 la)) (by kernel_rfl) (conv_inlB tokC (by kernel_rfl))) ?_
  refine al_chunk 1 (by kernel_rfl) ?_
  refine al_opF (v := .string (bstr lb)) (s1 := (St.empty 0)) (by kernel_rfl) (by kernel_rfl) (Eq.trans (b := convS Try.cfg (St.empty 0) 34 9 (inlL bcells 1 lb)) (by kernel_rfl) (conv_inlB tokC (by kernel_rfl))) ?_
  refine al_test (by kernel_rfl) (by kernel_rfl) (by kernel_rfl) (fun h1 => ?_) (fun h1 => ?_)
  · have c2e : (((bstr la).toList == (bstr lb).toList)) = true := Eq.trans (by kernel_rfl) h1
    clear h1
    have c2 : la = lb := bstr_t c2e
    clear c2e
    refine al_known (by kernel_rfl) ?_
    refine sk_ret ?_
    exact ⟨[.bool true], by kernel_rfl, fs_to (fs_clo rfl) (congrArg Value.bool (by simp [*])), Nat.le_of_ble_eq_true (by kernel_rfl)⟩
  · have c2e : (((bstr la).toList == (bstr lb).toList)) = false := Eq.trans (by kernel_rfl) h1
    clear h1
    have c2 : ¬ la = lb := bstr_f c2e
    clear c2e
    refine al_known (by kernel_rfl) ?_
    refine sk_ret ?_
    exact ⟨[.bool false], by kernel_rfl, fs_to (fs_clo rfl) (congrArg Value.bool (by simp [*])), Nat.le_of_ble_eq_true (by kernel_rfl)⟩
noncomputable def con_nsameB : Con Try.prog 0 := Con.pure (α := (List UInt8) × (List UInt8)) 10 (fun z9 => [inlL bcells 1 z9.1, inlL bcells 1 z9.2]) (fun z9 => .bool (decide (z9.1 = z9.2))) (fun z9 => True) (by
  rintro ⟨a0, a1⟩ ⟨b0, b1⟩ h
  simp only [List.cons.injEq, and_true, Int.natCast_inj, UInt8.toNat_inj, Value.int.injEq, Value.bool.injEq, Value.string.injEq, Value.agg.injEq, Array.mk.injEq, true_and, bcells_iff] at h
  first | exact h | (simp only [Prod.ext_iff, h, and_self, and_true, true_and]; done) | simp_all [Prod.ext_iff]) (fun _ => rfl) (fun _ => rfl) 400 (by
  rintro ⟨a0, a1⟩ _
  exact nsameB_sc a0 a1 )
theorem con_nsameB_at (la : List UInt8) (lb : List UInt8)  (s : St) : con_nsameB.rel [inlL bcells 1 la, inlL bcells 1 lb] s (.bool (decide (la = lb))) s := con_pure (la, lb) trivial s
theorem alive_run : allTrueN 4000 (run Try.cfg 4000 (.call 6 []) (St.empty 0)) = true := by kernel_rfl
theorem alive_sc : SC Try.prog 0 6 [] (St.empty 0) fun v s' => v = .bool true ∧ s'.n ≤ 4000 := sc_closed Try.cfgOk 4000 4000 alive_run
noncomputable def con_alive : Con Try.prog 0 := Con.pure (α := Unit) 6 (fun z9 => []) (fun z9 => .bool true) (fun z9 => True) (by
  intro x y _; rfl) (fun _ => rfl) (fun _ => rfl) 4000 (by
  intro x hp; exact alive_sc)
theorem con_alive_at   (s : St) : con_alive.rel [] s (.bool true) s := con_pure () trivial s
theorem enc_congr {sq : Int} {vl : Bool} {fu : Int} {co : List Code} {rs : List Key} {ss : List Span} {ws : List Key} {wr : List Wr} {zq : Int} {zl : Bool} {zu : Int} {zo : List Code} {zr : List Key} {zs : List Span} {zw : List Key} {ze : List Wr} (h : sq = zq ∧ vl = zl ∧ ((fu : Int) = zu ∧ co = zo) ∧ (rs = zr ∧ ss = zs ∧ ws = zw) ∧ wr = ze) : encB sq vl fu co rs ss ws wr = encB zq zl zu zo zr zs zw ze := by
  obtain ⟨rfl, rfl, ⟨rfl, rfl⟩, ⟨rfl, rfl, rfl⟩, rfl⟩ := h
  rfl
theorem lawApart_fn : Try.cfg.fn 3 = some Try.f3 := by kernel_rfl
set_option maxHeartbeats 4000000 in
set_option maxRecDepth 100000 in
theorem lawApart_sc (sq : Int) (vl : Bool) (fu : Int) (co : List Code) (rs : List Key) (ss : List Span) (ws : List Key) (wr : List Wr) (zq : Int) (zl : Bool) (zu : Int) (zo : List Code) (zr : List Key) (zs : List Span) (zw : List Key) (ze : List Wr) (h0 : ∀ k ∈ rs, in64 k.1 ∧ in64 k.2) (h1 : ∀ k ∈ ss, in64 k.1 ∧ in64 k.2.1 ∧ in64 k.2.2) (h2 : ∀ k ∈ ws, in64 k.1 ∧ in64 k.2) (h3 : ∀ c ∈ co, inC c) (h4 : ∀ w ∈ wr, inW w) (h5 : ∀ k ∈ zr, in64 k.1 ∧ in64 k.2) (h6 : ∀ k ∈ zs, in64 k.1 ∧ in64 k.2.1 ∧ in64 k.2.2) (h7 : ∀ k ∈ zw, in64 k.1 ∧ in64 k.2) (h8 : ∀ c ∈ zo, inC c) (h9 : ∀ w ∈ ze, inW w) : SC Try.prog 0 3 [.agg #[.int .i64 sq, .bool vl, .int .i64 fu, inlL ccells 6 co, inlL kcells 2 rs, inlL scells 3 ss, inlL kcells 2 ws, inlL wcells 4 wr], .agg #[.int .i64 zq, .bool zl, .int .i64 zu, inlL ccells 6 zo, inlL kcells 2 zr, inlL scells 3 zs, inlL kcells 2 zw, inlL wcells 4 ze]] (St.empty 0) fun v s' => v = .bool true ∧ s'.n ≤ 400 := by
  obtain ⟨rc, hS, hC⟩ := rc_con (sound_run Try.cfgOk 300) [con_alive, con_large, con_programT, con_encode, con_nsameB, con_rsame] (by kernel_rfl)
  have hC6 := hC con_alive (.head _)
  have hC7 := hC con_large (.tail _ (.head _))
  have hC9 := hC con_programT (.tail _ (.tail _ (.head _)))
  have hC8 := hC con_encode (.tail _ (.tail _ (.tail _ (.head _))))
  have hC10 := hC con_nsameB (.tail _ (.tail _ (.tail _ (.tail _ (.head _)))))
  have hC11 := hC con_rsame (.tail _ (.tail _ (.tail _ (.tail _ (.tail _ (.head _))))))
  refine sc_ice0 (N := 400) (v2 := .bool true) (Q := fun v s' => FS 0 s' v (.bool true) ∧ s'.n ≤ 400) ?_ (fun _ _ h => h)
  refine sc_body Try.cfgOk lawApart_fn rfl ?_
  refine sk_seq ?_
  refine sk_regionK Try.cfgOk hS (by kernel_rfl) ?_
  refine sk_seq (sk_seq ?_)
  refine sk_regionL Try.cfgOk hS ?_
  refine al_callH 6 [] (.bool true) _ rfl (fun b h => by cases h) (by kernel_rfl) (by kernel_rfl) (hC6 _ _ _ _ (con_alive_at   _)) ?_
  refine al_known (by kernel_rfl) ?_
  refine sk_false (by kernel_rfl) ?_
  refine sk_skip (sk_seq (sk_seq ?_))
  refine sk_regionL Try.cfgOk hS ?_
  refine al_chunk 1 (by kernel_rfl) ?_
  refine al_callB 7 [.agg #[.int .i64 sq, .bool vl, .int .i64 fu, inlL ccells 6 co, inlL kcells 2 rs, inlL scells 3 ss, inlL kcells 2 ws, inlL wcells 4 wr]] (decide (co.length > 60 ∨ rs.length > 40 ∨ ss.length > 40 ∨ ws.length > 40 ∨ wr.length > 60)) _ rfl (fun b h => by cases h) (by kernel_rfl) (by kernel_rfl) (hC7 _ _ _ _ (con_large_at sq vl fu co rs ss ws wr  _)) (fun h1 => ?_) (fun h1 => ?_)
  · have c2 : co.length > 60 ∨ rs.length > 40 ∨ ss.length > 40 ∨ ws.length > 40 ∨ wr.length > 60 := of_decide_eq_true h1
    clear h1
    refine al_known (by kernel_rfl) ?_
    refine sk_true (by kernel_rfl) ?_
    refine sk_seq ?_
    refine sk_regionK Try.cfgOk hS (by kernel_rfl) ?_
    refine sk_ret ?_
    exact ⟨[.bool true], by kernel_rfl, .same (sub_clo rfl), Nat.le_of_ble_eq_true (by kernel_rfl)⟩
  · have c2 : ¬ (co.length > 60 ∨ rs.length > 40 ∨ ss.length > 40 ∨ ws.length > 40 ∨ wr.length > 60) := of_decide_eq_false h1
    clear h1
    have u1 : inK rs := ⟨by omega, h0⟩
    have u2 : inS ss := ⟨by omega, h1⟩
    have u3 : inK ws := ⟨by omega, h2⟩
    have v1 := u1.ok
    have v2 := u2.ok
    have v3 := u3.ok
    refine al_chunk 2 (by kernel_rfl) ?_
    refine al_callB 7 [.agg #[.int .i64 zq, .bool zl, .int .i64 zu, inlL ccells 6 zo, inlL kcells 2 zr, inlL scells 3 zs, inlL kcells 2 zw, inlL wcells 4 ze]] (decide (zo.length > 60 ∨ zr.length > 40 ∨ zs.length > 40 ∨ zw.length > 40 ∨ ze.length > 60)) _ rfl (fun b h => by cases h) (by kernel_rfl) (by kernel_rfl) (hC7 _ _ _ _ (con_large_at zq zl zu zo zr zs zw ze  _)) (fun h3 => ?_) (fun h3 => ?_)
    · have c4 : zo.length > 60 ∨ zr.length > 40 ∨ zs.length > 40 ∨ zw.length > 40 ∨ ze.length > 60 := of_decide_eq_true h3
      clear h3
      refine al_known (by kernel_rfl) ?_
      refine sk_true (by kernel_rfl) ?_
      refine sk_seq ?_
      refine sk_regionK Try.cfgOk hS (by kernel_rfl) ?_
      refine sk_ret ?_
      exact ⟨[.bool true], by kernel_rfl, .same (sub_clo rfl), Nat.le_of_ble_eq_true (by kernel_rfl)⟩
    · have c4 : ¬ (zo.length > 60 ∨ zr.length > 40 ∨ zs.length > 40 ∨ zw.length > 40 ∨ ze.length > 60) := of_decide_eq_false h3
      clear h3
      have u4 : inK zr := ⟨by omega, h5⟩
      have u5 : inS zs := ⟨by omega, h6⟩
      have u6 : inK zw := ⟨by omega, h7⟩
      have v4 := u4.ok
      have v5 := u5.ok
      have v6 := u6.ok
      refine al_known (by kernel_rfl) ?_
      refine sk_false (by kernel_rfl) ?_
      refine sk_skip (sk_seq ?_)
      refine sk_regionL Try.cfgOk hS ?_
      refine al_chunk 1 (by kernel_rfl) ?_
      refine al_callH 9 [.agg #[.int .i64 sq, .bool vl, .int .i64 fu, inlL ccells 6 co, inlL kcells 2 rs, inlL scells 3 ss, inlL kcells 2 ws, inlL wcells 4 wr]] (.agg #[.int .i64 sq, .bool vl, .int .i64 fu, inlL ccells 6 co, inlL kcells 2 rs, inlL scells 3 ss, inlL kcells 2 ws, inlL wcells 4 wr]) _ rfl (fun b h => by cases h) (by kernel_rfl) (by kernel_rfl) (hC9 _ _ _ _ (con_programT_at sq vl fu co rs ss ws wr (by first | omega | assumption) (by first | omega | assumption) (by first | omega | assumption) (by first | omega | assumption) (by first | omega | assumption) _)) ?_
      by_cases q5 : goodR_ sq vl fu co rs ss ws wr
      ·
        refine al_callH 8 [.agg #[.int .i64 sq, .bool vl, .int .i64 fu, inlL ccells 6 co, inlL kcells 2 rs, inlL scells 3 ss, inlL kcells 2 ws, inlL wcells 4 wr]] (.tuple #[inlL bcells 1 (encB sq vl fu co rs ss ws wr), .nilIface]) _ rfl (fun b h => by cases h) (by kernel_rfl) (by kernel_rfl) (rc_eq (hC8 _ _ _ _ (con_encode_at sq vl fu co rs ss ws wr (by first | omega | assumption) (by first | omega | assumption) (by first | omega | assumption) (by first | omega | assumption) (by first | omega | assumption) (by first | omega | assumption) (by first | omega | assumption) _)) (encV_t q5)) ?_
        refine al_known (by kernel_rfl) ?_
        refine sk_seq ?_
        refine sk_regionL Try.cfgOk hS ?_
        refine al_chunk 1 (by kernel_rfl) ?_
        refine al_callH 9 [.agg #[.int .i64 zq, .bool zl, .int .i64 zu, inlL ccells 6 zo, inlL kcells 2 zr, inlL scells 3 zs, inlL kcells 2 zw, inlL wcells 4 ze]] (.agg #[.int .i64 zq, .bool zl, .int .i64 zu, inlL ccells 6 zo, inlL kcells 2 zr, inlL scells 3 zs, inlL kcells 2 zw, inlL wcells 4 ze]) _ rfl (fun b h => by cases h) (by kernel_rfl) (by kernel_rfl) (hC9 _ _ _ _ (con_programT_at zq zl zu zo zr zs zw ze (by first | omega | assumption) (by first | omega | assumption) (by first | omega | assumption) (by first | omega | assumption) (by first | omega | assumption) _)) ?_
        by_cases q6 : goodR_ zq zl zu zo zr zs zw ze
        ·
          refine al_callH 8 [.agg #[.int .i64 zq, .bool zl, .int .i64 zu, inlL ccells 6 zo, inlL kcells 2 zr, inlL scells 3 zs, inlL kcells 2 zw, inlL wcells 4 ze]] (.tuple #[inlL bcells 1 (encB zq zl zu zo zr zs zw ze), .nilIface]) _ rfl (fun b h => by cases h) (by kernel_rfl) (by kernel_rfl) (rc_eq (hC8 _ _ _ _ (con_encode_at zq zl zu zo zr zs zw ze (by first | omega | assumption) (by first | omega | assumption) (by first | omega | assumption) (by first | omega | assumption) (by first | omega | assumption) (by first | omega | assumption) (by first | omega | assumption) _)) (encV_t q6)) ?_
          refine al_known (by kernel_rfl) ?_
          refine sk_seq (sk_seq ?_)
          refine sk_regionK Try.cfgOk hS (by kernel_rfl) ?_
          refine sk_false (by kernel_rfl) ?_
          refine sk_skip (sk_seq ?_)
          refine sk_drawL Try.cfgOk hS ?_
          refine ald_chunk 2 (by kernel_rfl) ?_
          refine ald_callB 10 [inlL bcells 1 (encB sq vl fu co rs ss ws wr), inlL bcells 1 (encB zq zl zu zo zr zs zw ze)] (decide ((encB sq vl fu co rs ss ws wr) = (encB zq zl zu zo zr zs zw ze))) _ rfl (fun b h => by cases h) (by kernel_rfl) (by kernel_rfl) (hC10 _ _ _ _ (con_nsameB_at (encB sq vl fu co rs ss ws wr) (encB zq zl zu zo zr zs zw ze)  _)) (fun b => by kernel_rfl) (fun h7 => ?_) (fun h7 => ?_)
          · have c8 : (encB sq vl fu co rs ss ws wr) = (encB zq zl zu zo zr zs zw ze) := of_decide_eq_true h7
            clear h7
            refine ald_readK (d := (0, St.empty 0, St.empty 0)) (by kernel_rfl) (by kernel_rfl) (by kernel_rfl) (by kernel_rfl) (below_len (k := 1) (by kernel_rfl) (all1 (.inr (read_again (by kernel_rfl) (Eq.trans (b := .agg #[.int .i64 sq, .bool vl, .int .i64 fu, inlL ccells 6 co, inlL kcells 2 rs, inlL scells 3 ss, inlL kcells 2 ws, inlL wcells 4 wr]) (by kernel_rfl) (by kernel_rfl)))))) ?_
            refine ald_callH 9 [.agg #[.int .i64 sq, .bool vl, .int .i64 fu, inlL ccells 6 co, inlL kcells 2 rs, inlL scells 3 ss, inlL kcells 2 ws, inlL wcells 4 wr]] (.agg #[.int .i64 sq, .bool vl, .int .i64 fu, inlL ccells 6 co, inlL kcells 2 rs, inlL scells 3 ss, inlL kcells 2 ws, inlL wcells 4 wr]) _ rfl (fun b h => by cases h) (by kernel_rfl) (by kernel_rfl) (hC9 _ _ _ _ (con_programT_at sq vl fu co rs ss ws wr (by first | omega | assumption) (by first | omega | assumption) (by first | omega | assumption) (by first | omega | assumption) (by first | omega | assumption) _)) (by kernel_rfl) ?_
            refine ald_readK (d := (0, St.empty 0, St.empty 0)) (by kernel_rfl) (by kernel_rfl) (by kernel_rfl) (by kernel_rfl) (below_len (k := 2) (by kernel_rfl) (all2 (.inr (read_again (by kernel_rfl) (Eq.trans (b := .agg #[.int .i64 zq, .bool zl, .int .i64 zu, inlL ccells 6 zo, inlL kcells 2 zr, inlL scells 3 zs, inlL kcells 2 zw, inlL wcells 4 ze]) (by kernel_rfl) (by kernel_rfl)))) (.inr (read_again (by kernel_rfl) (Eq.trans (b := .agg #[.int .i64 zq, .bool zl, .int .i64 zu, inlL ccells 6 zo, inlL kcells 2 zr, inlL scells 3 zs, inlL kcells 2 zw, inlL wcells 4 ze]) (by kernel_rfl) (by kernel_rfl)))))) ?_
            refine ald_callB 11 [.agg #[.int .i64 sq, .bool vl, .int .i64 fu, inlL ccells 6 co, inlL kcells 2 rs, inlL scells 3 ss, inlL kcells 2 ws, inlL wcells 4 wr], .agg #[.int .i64 zq, .bool zl, .int .i64 zu, inlL ccells 6 zo, inlL kcells 2 zr, inlL scells 3 zs, inlL kcells 2 zw, inlL wcells 4 ze]] (tf (sq = zq ∧ vl = zl ∧ ((fu : Int) = zu ∧ co = zo) ∧ (rs = zr ∧ ss = zs ∧ ws = zw) ∧ wr = ze)) _ rfl (fun b h => by cases h) (by kernel_rfl) (by kernel_rfl) (hC11 _ _ _ _ (con_rsame_at sq vl fu co rs ss ws wr zq zl zu zo zr zs zw ze (by first | omega | assumption) (by first | omega | assumption) (by first | omega | assumption) (by first | omega | assumption) (by first | omega | assumption) (by first | omega | assumption) (by first | omega | assumption) (by first | omega | assumption) (by first | omega | assumption) (by first | omega | assumption) _)) (fun b => by kernel_rfl) (fun h9 => ?_) (fun h9 => ?_)
            · have c10 : sq = zq ∧ vl = zl ∧ ((fu : Int) = zu ∧ co = zo) ∧ (rs = zr ∧ ss = zs ∧ ws = zw) ∧ wr = ze := tf_t h9
              clear h9
              refine ald_chunk 2 (by kernel_rfl) ?_
              refine ald_nil ?_
              refine sk_ret ?_
              exact ⟨[.bool true], by kernel_rfl, .same (sub_clo rfl), Nat.le_of_ble_eq_true (by kernel_rfl)⟩
            · have c10 : ¬ (sq = zq ∧ vl = zl ∧ ((fu : Int) = zu ∧ co = zo) ∧ (rs = zr ∧ ss = zs ∧ ws = zw) ∧ wr = ze) := tf_f h9
              clear h9
              refine ald_chunk 2 (by kernel_rfl) ?_
              refine ald_nil ?_
              refine sk_ret ?_
              exact ⟨[.bool false], by kernel_rfl, fs_to (fs_clo rfl) (congrArg Value.bool (by first | rfl | exact absurd (enc_inj (by assumption) (by assumption) u1 u2 u3 h3 h4 u4 u5 u6 h8 h9 (by assumption)) (by assumption) | exact absurd (enc_congr (by assumption)) (by assumption))), Nat.le_of_ble_eq_true (by kernel_rfl)⟩
          · have c8 : ¬ ((encB sq vl fu co rs ss ws wr) = (encB zq zl zu zo zr zs zw ze)) := of_decide_eq_false h7
            clear h7
            refine ald_readK (d := (0, St.empty 0, St.empty 0)) (by kernel_rfl) (by kernel_rfl) (by kernel_rfl) (by kernel_rfl) (below_len (k := 1) (by kernel_rfl) (all1 (.inr (read_again (by kernel_rfl) (Eq.trans (b := .agg #[.int .i64 sq, .bool vl, .int .i64 fu, inlL ccells 6 co, inlL kcells 2 rs, inlL scells 3 ss, inlL kcells 2 ws, inlL wcells 4 wr]) (by kernel_rfl) (by kernel_rfl)))))) ?_
            refine ald_callH 9 [.agg #[.int .i64 sq, .bool vl, .int .i64 fu, inlL ccells 6 co, inlL kcells 2 rs, inlL scells 3 ss, inlL kcells 2 ws, inlL wcells 4 wr]] (.agg #[.int .i64 sq, .bool vl, .int .i64 fu, inlL ccells 6 co, inlL kcells 2 rs, inlL scells 3 ss, inlL kcells 2 ws, inlL wcells 4 wr]) _ rfl (fun b h => by cases h) (by kernel_rfl) (by kernel_rfl) (hC9 _ _ _ _ (con_programT_at sq vl fu co rs ss ws wr (by first | omega | assumption) (by first | omega | assumption) (by first | omega | assumption) (by first | omega | assumption) (by first | omega | assumption) _)) (by kernel_rfl) ?_
            refine ald_readK (d := (0, St.empty 0, St.empty 0)) (by kernel_rfl) (by kernel_rfl) (by kernel_rfl) (by kernel_rfl) (below_len (k := 2) (by kernel_rfl) (all2 (.inr (read_again (by kernel_rfl) (Eq.trans (b := .agg #[.int .i64 zq, .bool zl, .int .i64 zu, inlL ccells 6 zo, inlL kcells 2 zr, inlL scells 3 zs, inlL kcells 2 zw, inlL wcells 4 ze]) (by kernel_rfl) (by kernel_rfl)))) (.inr (read_again (by kernel_rfl) (Eq.trans (b := .agg #[.int .i64 zq, .bool zl, .int .i64 zu, inlL ccells 6 zo, inlL kcells 2 zr, inlL scells 3 zs, inlL kcells 2 zw, inlL wcells 4 ze]) (by kernel_rfl) (by kernel_rfl)))))) ?_
            refine ald_callB 11 [.agg #[.int .i64 sq, .bool vl, .int .i64 fu, inlL ccells 6 co, inlL kcells 2 rs, inlL scells 3 ss, inlL kcells 2 ws, inlL wcells 4 wr], .agg #[.int .i64 zq, .bool zl, .int .i64 zu, inlL ccells 6 zo, inlL kcells 2 zr, inlL scells 3 zs, inlL kcells 2 zw, inlL wcells 4 ze]] (tf (sq = zq ∧ vl = zl ∧ ((fu : Int) = zu ∧ co = zo) ∧ (rs = zr ∧ ss = zs ∧ ws = zw) ∧ wr = ze)) _ rfl (fun b h => by cases h) (by kernel_rfl) (by kernel_rfl) (hC11 _ _ _ _ (con_rsame_at sq vl fu co rs ss ws wr zq zl zu zo zr zs zw ze (by first | omega | assumption) (by first | omega | assumption) (by first | omega | assumption) (by first | omega | assumption) (by first | omega | assumption) (by first | omega | assumption) (by first | omega | assumption) (by first | omega | assumption) (by first | omega | assumption) (by first | omega | assumption) _)) (fun b => by kernel_rfl) (fun h11 => ?_) (fun h11 => ?_)
            · have c12 : sq = zq ∧ vl = zl ∧ ((fu : Int) = zu ∧ co = zo) ∧ (rs = zr ∧ ss = zs ∧ ws = zw) ∧ wr = ze := tf_t h11
              clear h11
              refine ald_chunk 2 (by kernel_rfl) ?_
              refine ald_nil ?_
              refine sk_ret ?_
              exact ⟨[.bool false], by kernel_rfl, fs_to (fs_clo rfl) (congrArg Value.bool (by first | rfl | exact absurd (enc_inj (by assumption) (by assumption) u1 u2 u3 h3 h4 u4 u5 u6 h8 h9 (by assumption)) (by assumption) | exact absurd (enc_congr (by assumption)) (by assumption))), Nat.le_of_ble_eq_true (by kernel_rfl)⟩
            · have c12 : ¬ (sq = zq ∧ vl = zl ∧ ((fu : Int) = zu ∧ co = zo) ∧ (rs = zr ∧ ss = zs ∧ ws = zw) ∧ wr = ze) := tf_f h11
              clear h11
              refine ald_chunk 2 (by kernel_rfl) ?_
              refine ald_nil ?_
              refine sk_ret ?_
              exact ⟨[.bool true], by kernel_rfl, .same (sub_clo rfl), Nat.le_of_ble_eq_true (by kernel_rfl)⟩
        ·
          refine al_callH 8 [.agg #[.int .i64 zq, .bool zl, .int .i64 zu, inlL ccells 6 zo, inlL kcells 2 zr, inlL scells 3 zs, inlL kcells 2 zw, inlL wcells 4 ze]] (.tuple #[inlL bcells 1 ([] : List UInt8), .iface 58 (.int .i64 2)]) _ rfl (fun b h => by cases h) (by kernel_rfl) (by kernel_rfl) (rc_eq (hC8 _ _ _ _ (con_encode_at zq zl zu zo zr zs zw ze (by first | omega | assumption) (by first | omega | assumption) (by first | omega | assumption) (by first | omega | assumption) (by first | omega | assumption) (by first | omega | assumption) (by first | omega | assumption) _)) (encV_f q6)) ?_
          refine al_known (by kernel_rfl) ?_
          refine sk_seq (sk_seq ?_)
          refine sk_regionK Try.cfgOk hS (by kernel_rfl) ?_
          refine sk_true (by kernel_rfl) ?_
          refine sk_seq ?_
          refine sk_regionK Try.cfgOk hS (by kernel_rfl) ?_
          refine sk_ret ?_
          exact ⟨[.bool true], by kernel_rfl, .same (sub_clo rfl), Nat.le_of_ble_eq_true (by kernel_rfl)⟩
      ·
        refine al_callH 8 [.agg #[.int .i64 sq, .bool vl, .int .i64 fu, inlL ccells 6 co, inlL kcells 2 rs, inlL scells 3 ss, inlL kcells 2 ws, inlL wcells 4 wr]] (.tuple #[inlL bcells 1 ([] : List UInt8), .iface 58 (.int .i64 2)]) _ rfl (fun b h => by cases h) (by kernel_rfl) (by kernel_rfl) (rc_eq (hC8 _ _ _ _ (con_encode_at sq vl fu co rs ss ws wr (by first | omega | assumption) (by first | omega | assumption) (by first | omega | assumption) (by first | omega | assumption) (by first | omega | assumption) (by first | omega | assumption) (by first | omega | assumption) _)) (encV_f q5)) ?_
        refine al_known (by kernel_rfl) ?_
        refine sk_seq ?_
        refine sk_regionL Try.cfgOk hS ?_
        refine al_chunk 1 (by kernel_rfl) ?_
        refine al_callH 9 [.agg #[.int .i64 zq, .bool zl, .int .i64 zu, inlL ccells 6 zo, inlL kcells 2 zr, inlL scells 3 zs, inlL kcells 2 zw, inlL wcells 4 ze]] (.agg #[.int .i64 zq, .bool zl, .int .i64 zu, inlL ccells 6 zo, inlL kcells 2 zr, inlL scells 3 zs, inlL kcells 2 zw, inlL wcells 4 ze]) _ rfl (fun b h => by cases h) (by kernel_rfl) (by kernel_rfl) (hC9 _ _ _ _ (con_programT_at zq zl zu zo zr zs zw ze (by first | omega | assumption) (by first | omega | assumption) (by first | omega | assumption) (by first | omega | assumption) (by first | omega | assumption) _)) ?_
        by_cases q13 : goodR_ zq zl zu zo zr zs zw ze
        ·
          refine al_callH 8 [.agg #[.int .i64 zq, .bool zl, .int .i64 zu, inlL ccells 6 zo, inlL kcells 2 zr, inlL scells 3 zs, inlL kcells 2 zw, inlL wcells 4 ze]] (.tuple #[inlL bcells 1 (encB zq zl zu zo zr zs zw ze), .nilIface]) _ rfl (fun b h => by cases h) (by kernel_rfl) (by kernel_rfl) (rc_eq (hC8 _ _ _ _ (con_encode_at zq zl zu zo zr zs zw ze (by first | omega | assumption) (by first | omega | assumption) (by first | omega | assumption) (by first | omega | assumption) (by first | omega | assumption) (by first | omega | assumption) (by first | omega | assumption) _)) (encV_t q13)) ?_
          refine al_known (by kernel_rfl) ?_
          refine sk_seq (sk_seq ?_)
          refine sk_regionK Try.cfgOk hS (by kernel_rfl) ?_
          refine sk_true (by kernel_rfl) ?_
          refine sk_seq ?_
          refine sk_regionK Try.cfgOk hS (by kernel_rfl) ?_
          refine sk_ret ?_
          exact ⟨[.bool true], by kernel_rfl, .same (sub_clo rfl), Nat.le_of_ble_eq_true (by kernel_rfl)⟩
        ·
          refine al_callH 8 [.agg #[.int .i64 zq, .bool zl, .int .i64 zu, inlL ccells 6 zo, inlL kcells 2 zr, inlL scells 3 zs, inlL kcells 2 zw, inlL wcells 4 ze]] (.tuple #[inlL bcells 1 ([] : List UInt8), .iface 58 (.int .i64 2)]) _ rfl (fun b h => by cases h) (by kernel_rfl) (by kernel_rfl) (rc_eq (hC8 _ _ _ _ (con_encode_at zq zl zu zo zr zs zw ze (by first | omega | assumption) (by first | omega | assumption) (by first | omega | assumption) (by first | omega | assumption) (by first | omega | assumption) (by first | omega | assumption) (by first | omega | assumption) _)) (encV_f q13)) ?_
          refine al_known (by kernel_rfl) ?_
          refine sk_seq (sk_seq ?_)
          refine sk_regionK Try.cfgOk hS (by kernel_rfl) ?_
          refine sk_true (by kernel_rfl) ?_
          refine sk_seq ?_
          refine sk_regionK Try.cfgOk hS (by kernel_rfl) ?_
          refine sk_ret ?_
          exact ⟨[.bool true], by kernel_rfl, .same (sub_clo rfl), Nat.le_of_ble_eq_true (by kernel_rfl)⟩
end Go.Proofs.Ytegigohhnplomaa