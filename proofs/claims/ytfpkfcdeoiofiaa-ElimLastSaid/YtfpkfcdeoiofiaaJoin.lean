/- Feet are put together: all of it. -/
import Derived.Test.YtfpkfcdeoiofiaaSpans
set_option linter.unusedVariables false
set_option linter.unusedSimpArgs false
set_option linter.unnecessarySimpa false
namespace Go.Proofs.Ytfpkfcdeoiofiaa
open Go.Ai
def flatR (l : List Foot) : List Key := l.flatMap fun x => x.1
def flatS (l : List Foot) : List Span := l.flatMap fun x => x.2.1
def flatW (l : List Foot) : List Key := l.flatMap fun x => x.2.2
theorem flat_succ {α β : Type} (f : α → List β) {l : List α} {i : Nat} {x : α} (h : l[i]? = some x) : (l.take (i + 1)).flatMap f = (l.take i).flatMap f ++ f x := by
  rw [List.take_add_one, h, List.flatMap_append]
  simp
theorem flat_take {α β : Type} (f : α → List β) (l : List α) (i : Nat) : ((l.take i).flatMap f).length ≤ (l.flatMap f).length := by
  have e : l.flatMap f = (l.take i).flatMap f ++ (l.drop i).flatMap f := by rw [← List.flatMap_append, List.take_append_drop]
  rw [e, List.length_append]
  omega
theorem flatR_succ {l : List Foot} {i : Nat} {x : Foot} (h : l[i]? = some x) : flatR (l.take (i + 1)) = flatR (l.take i) ++ x.1 := flat_succ _ h
theorem flatS_succ {l : List Foot} {i : Nat} {x : Foot} (h : l[i]? = some x) : flatS (l.take (i + 1)) = flatS (l.take i) ++ x.2.1 := flat_succ _ h
theorem flatW_succ {l : List Foot} {i : Nat} {x : Foot} (h : l[i]? = some x) : flatW (l.take (i + 1)) = flatW (l.take i) ++ x.2.2 := flat_succ _ h
theorem flatR_take (l : List Foot) (i : Nat) : (flatR (l.take i)).length ≤ (flatR l).length := flat_take _ l i
theorem flatS_take (l : List Foot) (i : Nat) : (flatS (l.take i)).length ≤ (flatS l).length := flat_take _ l i
theorem flatW_take (l : List Foot) (i : Nat) : (flatW (l.take i)).length ≤ (flatW l).length := flat_take _ l i
theorem bdR {l : List Foot} {i : Nat} {x : Foot} {a : List Key} (h : a = flatR (l.take i)) (hx : l[i]? = some x) : a.length + x.1.length ≤ (flatR l).length := by
  have q := flatR_take l (i + 1)
  rw [flatR_succ hx, List.length_append, ← h] at q
  exact q
theorem bdS {l : List Foot} {i : Nat} {x : Foot} {a : List Span} (h : a = flatS (l.take i)) (hx : l[i]? = some x) : a.length + x.2.1.length ≤ (flatS l).length := by
  have q := flatS_take l (i + 1)
  rw [flatS_succ hx, List.length_append, ← h] at q
  exact q
theorem bdW {l : List Foot} {i : Nat} {x : Foot} {a : List Key} (h : a = flatW (l.take i)) (hx : l[i]? = some x) : a.length + x.2.2.length ≤ (flatW l).length := by
  have q := flatW_take l (i + 1)
  rw [flatW_succ hx, List.length_append, ← h] at q
  exact q
theorem row_len (a : List Key) : (dd (srt cmpK a) ++ List.replicate (a.length - (dd (srt cmpK a)).length) ((0, 0) : Key)).length = a.length ∧ (dd (srt cmpK a)).length ≤ a.length := by
  have q := dd_le (srt cmpK a)
  rw [srt_len] at q
  rw [List.length_append, List.length_replicate]
  omega
theorem cut_kj {a b r : List Key} (h : a = b) : List.take (dd (srt cmpK a)).length (dd (srt cmpK a) ++ r) = kj b := by
  subst h
  rw [List.take_left]
  rfl
def jn (l : List Foot) : Foot := (kj (flatR l), sj (flatS l), kj (flatW l))
theorem joinF_fn : Try.cfg.fn 27 = some Try.f27 := by kernel_rfl
set_option maxHeartbeats 4000000 in
set_option maxRecDepth 100000 in
theorem joinF_sc (l : List Foot) (h0 : l.length ≤ 1000) (h1 : (flatR l).length ≤ 1000000) (h2 : (flatS l).length ≤ 1000000) (h3 : (flatW l).length ≤ 1000000) : SC Try.prog 0 27 [slL 0 3 l.length] ((St.empty 0).new (rowL fcells l)) fun v s' => v = .agg #[inlL kcells 2 (kj (flatR l)), inlL scells 3 (sj (flatS l)), inlL kcells 2 (kj (flatW l))] ∧ s'.n ≤ 400 ∧ ∀ a, a < 1 → s'.get a = some (objL [rowL fcells l] a) := by
  obtain ⟨rc, hS, hC⟩ := rc_con (sound_run Try.cfgOk 300) [con_keysF, con_spansF] (by kernel_rfl)
  have hC36 := hC con_keysF (.head _)
  have hC37 := hC con_spansF (.tail _ (.head _))
  refine sc_iceK (k := 1) (N := 400) (v2 := .agg #[inlL kcells 2 (kj (flatR l)), inlL scells 3 (sj (flatS l)), inlL kcells 2 (kj (flatW l))]) (Ms := objL [rowL fcells l]) rfl ?_ (all1 (OSub.arr (subs_clo (flatL_clo fcells_clo))))
  refine sc_body Try.cfgOk joinF_fn rfl ?_
  refine sk_seq ?_
  refine kK Try.cfgOk hS ?_
  refine sk_seq ?_
  refine kK Try.cfgOk hS ?_
  refine sk_seq (sk_seq ?_)
  refine sk_live 41 [(0, slL 0 3 l.length), (2, .pointer (some ⟨1, 0, none⟩)), (3, .pointer (some ⟨2, 0, none⟩))] (by kernel_rfl) ⟨by kernel_rfl, by kernel_rfl, by kernel_rfl, trivial⟩ fun m1 => ?_
  refine sk_st ((((St.empty 0).new (rowL fcells l)).new (.cells [.slice none 0 0, .slice none 0 0, .slice none 0 0])).new (.cells [.slice none 0 0, .slice none 0 0, .slice none 0 0])) (by kernel_rfl) ?_
  refine virt_cell 3 2 0 2 [] [.slice none 0 0, .slice none 0 0] (by decide) ((((wf_empty 0).new _).new _).new _) (by kernel_rfl) (by kernel_rfl) (by decide) ?_
  refine sk_st (((((St.empty 0).new (rowL fcells l)).new (.cells [.slice none 0 0, .slice none 0 0, .slice none 0 0])).new (.cells [slL 3 2 (([] : List Key).length), .slice none 0 0, .slice none 0 0])).new (rowL kcells ([] : List Key))) (by kernel_rfl) ?_
  refine sk_live 41 [(0, slL 0 3 l.length), (2, .pointer (some ⟨1, 0, none⟩)), (3, .pointer (some ⟨2, 0, none⟩))] (by kernel_rfl) ⟨by kernel_rfl, by kernel_rfl, by kernel_rfl, trivial⟩ fun m2 => ?_
  refine sk_st (((((St.empty 0).new (rowL fcells l)).new (.cells [.slice none 0 0, .slice none 0 0, .slice none 0 0])).new (.cells [slL 3 2 (([] : List Key).length), .slice none 0 0, .slice none 0 0])).new (rowL kcells ([] : List Key))) (by kernel_rfl) ?_
  refine virt_cell 3 2 0 3 [slL 3 2 (([] : List Key).length)] [.slice none 0 0] (by decide) (((((wf_empty 0).new _).new _).new _).new _) (by kernel_rfl) (by kernel_rfl) (by decide) ?_
  refine sk_st ((((((St.empty 0).new (rowL fcells l)).new (.cells [.slice none 0 0, .slice none 0 0, .slice none 0 0])).new (.cells [slL 3 2 (([] : List Key).length), slL 4 3 (([] : List Span).length), .slice none 0 0])).new (rowL kcells ([] : List Key))).new (rowL scells ([] : List Span))) (by kernel_rfl) ?_
  refine sk_live 41 [(0, slL 0 3 l.length), (2, .pointer (some ⟨1, 0, none⟩)), (3, .pointer (some ⟨2, 0, none⟩))] (by kernel_rfl) ⟨by kernel_rfl, by kernel_rfl, by kernel_rfl, trivial⟩ fun m3 => ?_
  refine sk_st ((((((St.empty 0).new (rowL fcells l)).new (.cells [.slice none 0 0, .slice none 0 0, .slice none 0 0])).new (.cells [slL 3 2 (([] : List Key).length), slL 4 3 (([] : List Span).length), .slice none 0 0])).new (rowL kcells ([] : List Key))).new (rowL scells ([] : List Span))) (by kernel_rfl) ?_
  refine virt_cell 3 2 0 2 [slL 3 2 (([] : List Key).length), slL 4 3 (([] : List Span).length)] [] (by decide) ((((((wf_empty 0).new _).new _).new _).new _).new _) (by kernel_rfl) (by kernel_rfl) (by decide) ?_
  refine sk_st (((((((St.empty 0).new (rowL fcells l)).new (.cells [.slice none 0 0, .slice none 0 0, .slice none 0 0])).new (.cells [slL 3 2 (([] : List Key).length), slL 4 3 (([] : List Span).length), slL 5 2 (([] : List Key).length)])).new (rowL kcells ([] : List Key))).new (rowL scells ([] : List Span))).new (rowL kcells ([] : List Key))) (by kernel_rfl) ?_
  refine kK Try.cfgOk hS ?_
  refine sk_block ?_
  refine sk_live 41 ((fun a : Nat × (List Key) × (List Span) × (List Key) => [(2, .pointer (some ⟨1, 0, none⟩)), (3, .pointer (some ⟨2, 0, none⟩)), (6, slL 0 3 l.length), (7, .int .i64 ((l.length : Nat) : Int)), (8, .int .i64 ((a.1 : Nat) : Int))]) (0, ([] : List Key), ([] : List Span), ([] : List Key))) (by kernel_rfl) ⟨by kernel_rfl, by kernel_rfl, by kernel_rfl, by kernel_rfl, by kernel_rfl, trivial⟩ fun m4 => ?_
  refine sk_st ((fun a : Nat × (List Key) × (List Span) × (List Key) => (((((((St.empty 0).new (rowL fcells l)).new (.cells [.slice none 0 0, .slice none 0 0, .slice none 0 0])).new (.cells [slL 3 2 a.2.1.length, slL 4 3 a.2.2.1.length, slL 5 2 a.2.2.2.length])).new (rowL kcells a.2.1)).new (rowL scells a.2.2.1)).new (rowL kcells a.2.2.2))) (0, ([] : List Key), ([] : List Span), ([] : List Key))) (by kernel_rfl) ?_
  refine (sk_while (k := 6) (N := 400) (live := (fun a : Nat × (List Key) × (List Span) × (List Key) => [(2, .pointer (some ⟨1, 0, none⟩)), (3, .pointer (some ⟨2, 0, none⟩)), (6, slL 0 3 l.length), (7, .int .i64 ((l.length : Nat) : Int)), (8, .int .i64 ((a.1 : Nat) : Int))])) (M := (fun a : Nat × (List Key) × (List Span) × (List Key) => (((((((St.empty 0).new (rowL fcells l)).new (.cells [.slice none 0 0, .slice none 0 0, .slice none 0 0])).new (.cells [slL 3 2 a.2.1.length, slL 4 3 a.2.2.1.length, slL 5 2 a.2.2.2.length])).new (rowL kcells a.2.1)).new (rowL scells a.2.2.1)).new (rowL kcells a.2.2.2)))) (fun a : Nat × (List Key) × (List Span) × (List Key) => (a.1 ≤ l.length) ∧ (a.2.1 = flatR (l.take a.1)) ∧ (a.2.2.1 = flatS (l.take a.1)) ∧ (a.2.2.2 = flatW (l.take a.1)) ∧ (a.2.1.length ≤ 1000000) ∧ (a.2.2.1.length ≤ 1000000) ∧ (a.2.2.2.length ≤ 1000000)) (fun a : Nat × (List Key) × (List Span) × (List Key) => l.length - a.1) (fun (a : Nat × (List Key) × (List Span) × (List Key)) (o : Out) (lv : List (Nat × Value)) (M : St) => (o = .exit 0 ∧ (a.1 = l.length ∧ ((dd (srt cmpK a.2.1) ++ List.replicate (a.2.1.length - (dd (srt cmpK a.2.1)).length) (0, 0)).length = a.2.1.length ∧ (dd (srt cmpK a.2.1)).length ≤ a.2.1.length) ∧ ((dd (srt cmpK a.2.2.2) ++ List.replicate (a.2.2.2.length - (dd (srt cmpK a.2.2.2)).length) (0, 0)).length = a.2.2.2.length ∧ (dd (srt cmpK a.2.2.2)).length ≤ a.2.2.2.length)) ∧ lv = [(2, .pointer (some ⟨1, 0, none⟩)), (3, .pointer (some ⟨2, 0, none⟩)), (6, slL 0 3 l.length), (7, .int .i64 ((l.length : Nat) : Int)), (8, .int .i64 ((a.1 : Nat) : Int))] ∧ M = (((((((St.empty 0).new (rowL fcells l)).new (.cells [.slice none 0 0, .slice none 0 0, .slice none 0 0])).new (.cells [slL 3 2 a.2.1.length, slL 4 3 a.2.2.1.length, slL 5 2 a.2.2.2.length])).new (rowL kcells a.2.1)).new (rowL scells a.2.2.1)).new (rowL kcells a.2.2.2)))) (Nat.zero_le _) (fun a ha => ?_) (fun a ha => ?_) (fun a m ha => ?_) (fun a m ha => ?_) (0, ([] : List Key), ([] : List Span), ([] : List Key)) m4 ?_).up ?_
  · exact ⟨by kernel_rfl, (((((((wf_empty 0).new _).new _).new _).new _).new _).new _), (selfs (all_cons (o := rowL fcells l) (by kernel_rfl) (OSub.arr (subs_clo (flatL_clo fcells_clo))) (all_cons (o := .cells [.slice none 0 0, .slice none 0 0, .slice none 0 0]) (by kernel_rfl) (OSub.cells (.cons (sub_clo rfl) (.cons (sub_clo rfl) (.cons (sub_clo rfl) .nil)))) (all_cons (o := .cells [slL 3 2 a.2.1.length, slL 4 3 a.2.2.1.length, slL 5 2 a.2.2.2.length]) (by kernel_rfl) (OSub.cells (.cons (.slice ⟨by decide, rfl⟩) (.cons (.slice ⟨by decide, rfl⟩) (.cons (.slice ⟨by decide, rfl⟩) .nil)))) (all_cons (o := rowL kcells a.2.1) (by kernel_rfl) (OSub.arr (subs_clo (flatL_clo kcells_clo))) (all_cons (o := rowL scells a.2.2.1) (by kernel_rfl) (OSub.arr (subs_clo (flatL_clo scells_clo))) (all_cons (o := rowL kcells a.2.2.2) (by kernel_rfl) (OSub.arr (subs_clo (flatL_clo kcells_clo))) (all_none))))))))⟩
  · exact ⟨.ptr ⟨by decide, rfl⟩, .ptr ⟨by decide, rfl⟩, .slice ⟨by decide, rfl⟩, sub_clo rfl, sub_clo rfl, trivial⟩
  · exact ⟨by kernel_rfl, by kernel_rfl, by kernel_rfl, by kernel_rfl, by kernel_rfl, trivial⟩
  · obtain ⟨i, a, b, c⟩ := a
    obtain ⟨i0, i1, i2, i3, i4, i5, i6⟩ := ha
    dsimp only at i0 i1 i2 i3 i4 i5 i6
    refine sk_seq ?_
    refine sk_regionL Try.cfgOk hS ?_
    refine aT (fun h5 => ?_) (fun h5 => ?_)
    · have c6e : (decide ((((i : Nat) : Int) : Int) < ((l.length : Nat) : Int))) = true := Eq.trans (by kernel_rfl) h5
      clear h5
      have c6 : (((i : Nat) : Int) : Int) < ((l.length : Nat) : Int) := of_decide_eq_true c6e
      clear c6e
      refine al_nil ?_
      refine sk_seq ?_
      refine kT ?_
      refine sk_skip (sk_seq (sk_block (sk_seq ?_)))
      refine sk_regionL Try.cfgOk hS ?_
      refine aM (indexAddrV Try.cfg 49 (slL 0 3 l.length) (.int .i64 ((i : Nat) : Int))) (.pointer (some ⟨0, i * 3, some (l.length * 3)⟩)) (idx_rowL (by kernel_rfl) (by omega)) ?_
      have hx7l : i < l.length := by omega
      refine Exists.elim (get_ex hx7l) fun x7 hx7 => ?_
      clear hx7l
      refine aM (loadV Try.cfg (((((((St.empty 0).new (rowL fcells l)).new (.cells [.slice none 0 0, .slice none 0 0, .slice none 0 0])).new (.cells [slL 3 2 a.length, slL 4 3 b.length, slL 5 2 c.length])).new (rowL kcells a)).new (rowL scells b)).new (rowL kcells c)) 35 (.pointer (some ⟨0, i * 3, some (l.length * 3)⟩))) (.agg #[inlL kcells 2 x7.1, inlL scells 3 x7.2.1, inlL kcells 2 x7.2.2]) (load_rowL (l := l) (by kernel_rfl) fcells_len (by kernel_rfl) hx7) ?_
      refine aN ?_
      refine sk_seq ?_
      refine sk_regionL Try.cfgOk hS ?_
      refine aK 4 ?_
      refine al_opF (v := slL 3 2 (a ++ x7.1).length) (s1 := ((((((((St.empty 0).new (rowL fcells l)).new (.cells [.slice none 0 0, .slice none 0 0, .slice none 0 0])).new (.cells [slL 3 2 a.length, slL 4 3 b.length, slL 5 2 c.length])).new (rowL kcells a)).new (rowL scells b)).new (rowL kcells c)).new (.cells [inlL kcells 2 x7.1, inlL scells 3 x7.2.1, inlL kcells 2 x7.2.2])).set 3 (rowL kcells (a ++ x7.1))) (by kernel_rfl) (by kernel_rfl) (Eq.trans (b := appendV Try.cfg ((((((((St.empty 0).new (rowL fcells l)).new (.cells [.slice none 0 0, .slice none 0 0, .slice none 0 0])).new (.cells [slL 3 2 a.length, slL 4 3 b.length, slL 5 2 c.length])).new (rowL kcells a)).new (rowL scells b)).new (rowL kcells c)).new (.cells [inlL kcells 2 x7.1, inlL scells 3 x7.2.1, inlL kcells 2 x7.2.2])) 32 (slL 3 2 a.length) (inlL kcells 2 x7.1)) (by kernel_rfl) (app_rowL (l := a) (l2 := x7.1) (bytes := 16) tokC (by kernel_rfl) kcells_len kcells_one (by kernel_rfl) (lenV_inl tokC) (firstV_inlL tokC kcells_len) (by have q1 := bdR i1 (by assumption); have q2 := bdS i2 (by assumption); have q3 := bdW i3 (by assumption); omega))) ?_
      refine aN ?_
      refine sk_seq ?_
      refine sk_regionL Try.cfgOk hS ?_
      refine aK 4 ?_
      refine al_opF (v := slL 4 3 (b ++ x7.2.1).length) (s1 := ((((((((St.empty 0).new (rowL fcells l)).new (.cells [.slice none 0 0, .slice none 0 0, .slice none 0 0])).new (.cells [slL 3 2 ((a ++ x7.1).length), slL 4 3 b.length, slL 5 2 c.length])).new (rowL kcells (a ++ x7.1))).new (rowL scells b)).new (rowL kcells c)).new (.cells [inlL kcells 2 x7.1, inlL scells 3 x7.2.1, inlL kcells 2 x7.2.2])).set 4 (rowL scells (b ++ x7.2.1))) (by kernel_rfl) (by kernel_rfl) (Eq.trans (b := appendV Try.cfg ((((((((St.empty 0).new (rowL fcells l)).new (.cells [.slice none 0 0, .slice none 0 0, .slice none 0 0])).new (.cells [slL 3 2 ((a ++ x7.1).length), slL 4 3 b.length, slL 5 2 c.length])).new (rowL kcells (a ++ x7.1))).new (rowL scells b)).new (rowL kcells c)).new (.cells [inlL kcells 2 x7.1, inlL scells 3 x7.2.1, inlL kcells 2 x7.2.2])) 33 (slL 4 3 b.length) (inlL scells 3 x7.2.1)) (by kernel_rfl) (app_rowL (l := b) (l2 := x7.2.1) (bytes := 24) tokC (by kernel_rfl) scells_len scells_one (by kernel_rfl) (lenV_inl tokC) (firstV_inlL tokC scells_len) (by have q1 := bdR i1 (by assumption); have q2 := bdS i2 (by assumption); have q3 := bdW i3 (by assumption); omega))) ?_
      refine aN ?_
      refine sk_regionL Try.cfgOk hS ?_
      refine aK 4 ?_
      refine al_opF (v := slL 5 2 (c ++ x7.2.2).length) (s1 := ((((((((St.empty 0).new (rowL fcells l)).new (.cells [.slice none 0 0, .slice none 0 0, .slice none 0 0])).new (.cells [slL 3 2 ((a ++ x7.1).length), slL 4 3 ((b ++ x7.2.1).length), slL 5 2 c.length])).new (rowL kcells (a ++ x7.1))).new (rowL scells (b ++ x7.2.1))).new (rowL kcells c)).new (.cells [inlL kcells 2 x7.1, inlL scells 3 x7.2.1, inlL kcells 2 x7.2.2])).set 5 (rowL kcells (c ++ x7.2.2))) (by kernel_rfl) (by kernel_rfl) (Eq.trans (b := appendV Try.cfg ((((((((St.empty 0).new (rowL fcells l)).new (.cells [.slice none 0 0, .slice none 0 0, .slice none 0 0])).new (.cells [slL 3 2 ((a ++ x7.1).length), slL 4 3 ((b ++ x7.2.1).length), slL 5 2 c.length])).new (rowL kcells (a ++ x7.1))).new (rowL scells (b ++ x7.2.1))).new (rowL kcells c)).new (.cells [inlL kcells 2 x7.1, inlL scells 3 x7.2.1, inlL kcells 2 x7.2.2])) 32 (slL 5 2 c.length) (inlL kcells 2 x7.2.2)) (by kernel_rfl) (app_rowL (l := c) (l2 := x7.2.2) (bytes := 16) tokC (by kernel_rfl) kcells_len kcells_one (by kernel_rfl) (lenV_inl tokC) (firstV_inlL tokC kcells_len) (by have q1 := bdR i1 (by assumption); have q2 := bdS i2 (by assumption); have q3 := bdW i3 (by assumption); omega))) ?_
      refine aN ?_
      refine sk_regionL Try.cfgOk hS ?_
      refine aE (v := .int .i64 (IntKind.wrap .i64 (((i : Nat) : Int) + 1))) (.int .i64 ((i + 1 : Nat) : Int)) (congrArg (Value.int .i64) (wrap_to (by omega) (by omega))) ?_
      refine aN ?_
      refine .inl ⟨(i + 1, (a ++ x7.1), (b ++ x7.2.1), (c ++ x7.2.2)), rfl, ⟨?_, ?_, ?_, ?_, ?_, ?_, ?_⟩, ?_, ⟨by kernel_rfl, ⟨by kernel_rfl, by kernel_rfl, by kernel_rfl, by kernel_rfl, by kernel_rfl, trivial⟩, ⟨.ptr ⟨by decide, rfl⟩, .ptr ⟨by decide, rfl⟩, .slice ⟨by decide, rfl⟩, sub_clo rfl, sub_clo rfl, trivial⟩, Nat.le_of_ble_eq_true (by kernel_rfl), ⟨by kernel_rfl, (((((((wf_empty 0).new _).new _).new _).new _).new _).new _), (selfs (all_cons (o := rowL fcells l) (by kernel_rfl) (OSub.arr (subs_clo (flatL_clo fcells_clo))) (all_cons (o := .cells [.slice none 0 0, .slice none 0 0, .slice none 0 0]) (by kernel_rfl) (OSub.cells (.cons (sub_clo rfl) (.cons (sub_clo rfl) (.cons (sub_clo rfl) .nil)))) (all_cons (o := .cells [slL 3 2 ((a ++ x7.1).length), slL 4 3 ((b ++ x7.2.1).length), slL 5 2 ((c ++ x7.2.2).length)]) (by kernel_rfl) (OSub.cells (.cons (.slice ⟨by decide, rfl⟩) (.cons (.slice ⟨by decide, rfl⟩) (.cons (.slice ⟨by decide, rfl⟩) .nil)))) (all_cons (o := rowL kcells (a ++ x7.1)) (by kernel_rfl) (OSub.arr (subs_clo (flatL_clo kcells_clo))) (all_cons (o := rowL scells (b ++ x7.2.1)) (by kernel_rfl) (OSub.arr (subs_clo (flatL_clo scells_clo))) (all_cons (o := rowL kcells (c ++ x7.2.2)) (by kernel_rfl) (OSub.arr (subs_clo (flatL_clo kcells_clo))) (all_none))))))))⟩, mem_all (by kernel_rfl)⟩⟩
      · (try dsimp only); omega
      · (try dsimp only); rw [flatR_succ (by assumption), i1]
      · (try dsimp only); rw [flatS_succ (by assumption), i2]
      · (try dsimp only); rw [flatW_succ (by assumption), i3]
      · (try dsimp only); rw [i1, ← flatR_succ (by assumption)]; exact Nat.le_trans (flatR_take _ _) (by assumption)
      · (try dsimp only); rw [i2, ← flatS_succ (by assumption)]; exact Nat.le_trans (flatS_take _ _) (by assumption)
      · (try dsimp only); rw [i3, ← flatW_succ (by assumption)]; exact Nat.le_trans (flatW_take _ _) (by assumption)
      · dsimp only; omega
    · have c6e : (decide ((((i : Nat) : Int) : Int) < ((l.length : Nat) : Int))) = false := Eq.trans (by kernel_rfl) h5
      clear h5
      have c6 : ¬ (((i : Nat) : Int) : Int) < ((l.length : Nat) : Int) := of_decide_eq_false c6e
      clear c6e
      refine al_nil ?_
      refine sk_seq ?_
      refine kF ?_
      refine sk_exit ?_
      dsimp only
      refine .inr ⟨_, _, (fun h => by cases h), ⟨rfl, ?_, rfl, rfl⟩, ⟨by kernel_rfl, ⟨by kernel_rfl, by kernel_rfl, by kernel_rfl, by kernel_rfl, by kernel_rfl, trivial⟩, ⟨.ptr ⟨by decide, rfl⟩, .ptr ⟨by decide, rfl⟩, .slice ⟨by decide, rfl⟩, sub_clo rfl, sub_clo rfl, trivial⟩, Nat.le_of_ble_eq_true (by kernel_rfl), ⟨by kernel_rfl, (((((((wf_empty 0).new _).new _).new _).new _).new _).new _), (selfs (all_cons (o := rowL fcells l) (by kernel_rfl) (OSub.arr (subs_clo (flatL_clo fcells_clo))) (all_cons (o := .cells [.slice none 0 0, .slice none 0 0, .slice none 0 0]) (by kernel_rfl) (OSub.cells (.cons (sub_clo rfl) (.cons (sub_clo rfl) (.cons (sub_clo rfl) .nil)))) (all_cons (o := .cells [slL 3 2 a.length, slL 4 3 b.length, slL 5 2 c.length]) (by kernel_rfl) (OSub.cells (.cons (.slice ⟨by decide, rfl⟩) (.cons (.slice ⟨by decide, rfl⟩) (.cons (.slice ⟨by decide, rfl⟩) .nil)))) (all_cons (o := rowL kcells a) (by kernel_rfl) (OSub.arr (subs_clo (flatL_clo kcells_clo))) (all_cons (o := rowL scells b) (by kernel_rfl) (OSub.arr (subs_clo (flatL_clo scells_clo))) (all_cons (o := rowL kcells c) (by kernel_rfl) (OSub.arr (subs_clo (flatL_clo kcells_clo))) (all_none))))))))⟩, mem_all (by kernel_rfl)⟩⟩
      · exact ⟨by omega, row_len a, row_len c⟩
  · exact ⟨by ((try dsimp only); first | done | (omega)), by ((try dsimp only); first | done | (rfl)), by ((try dsimp only); first | done | (rfl)), by ((try dsimp only); first | done | (rfl)), by ((try dsimp only); first | done | (exact Nat.zero_le _)), by ((try dsimp only); first | done | (exact Nat.zero_le _)), by ((try dsimp only); first | done | (exact Nat.zero_le _))⟩
  rintro o e1 s1 ⟨a, lv1, M1, m4, ha, ⟨rfl, hx, rfl, rfl⟩, rfl, rfl⟩
  obtain ⟨i, a, b, c⟩ := a
  obtain ⟨i0, i1, i2, i3, i4, i5, i6⟩ := ha
  dsimp only at hx i0 i1 i2 i3 i4 i5 i6
  dsimp only
  try rw [if_pos rfl]
  refine sk_seq ?_
  refine sk_drawL Try.cfgOk hS ?_
  refine dK 2 ?_
  refine dC 36 [slL 3 2 a.length] (ssL 3 2 0 ((dd (srt cmpK a)).length) a.length) _ rfl (hC36 _ _ _ _ (con_keysF_at a 3 (by first | omega | (simp; done) | (simp; omega)) _ (by kernel_rfl) (by kernel_rfl) )) ?_
  refine dK 1 ?_
  refine ald_readK (d := (0, St.empty 0, St.empty 0)) (by kernel_rfl) (by kernel_rfl) (by kernel_rfl) (by kernel_rfl) (below_len (k := 1) (by kernel_rfl) (all1 (.inr (read_again (by kernel_rfl) (Eq.trans (b := slL 4 3 b.length) (by kernel_rfl) (by kernel_rfl)))))) ?_
  refine dC 37 [slL 4 3 b.length] (inlL scells 3 (spF (srt cmpS b))) _ rfl (hC37 _ _ _ _ (con_spansF_at b 4 (by first | omega | (simp; done) | (simp; omega)) _ (by kernel_rfl) (by kernel_rfl) )) ?_
  refine dK 1 ?_
  refine ald_readK (d := (0, St.empty 0, St.empty 0)) (by kernel_rfl) (by kernel_rfl) (by kernel_rfl) (by kernel_rfl) (below_len (k := 2) (by kernel_rfl) (all2 (.inr (read_again (by kernel_rfl) (Eq.trans (b := slL 5 2 c.length) (by kernel_rfl) (by kernel_rfl)))) (.inr (read_again (by kernel_rfl) (Eq.trans (b := slL 5 2 c.length) (by kernel_rfl) (by kernel_rfl)))))) ?_
  refine dC 36 [slL 5 2 c.length] (ssL 5 2 0 ((dd (srt cmpK c)).length) c.length) _ rfl (hC36 _ _ _ _ (con_keysF_at c 5 (by first | omega | (simp; done) | (simp; omega)) _ (by kernel_rfl) (by kernel_rfl) )) ?_
  refine dK 2 ?_
  refine ald_nil ?_
  refine sk_ret ?_
  exact ⟨[.agg #[ssL 3 2 0 ((dd (srt cmpK a)).length) a.length, inlL scells 3 (spF (srt cmpS b)), ssL 5 2 0 ((dd (srt cmpK c)).length) c.length]], by kernel_rfl, .agg (.cons (fs_to (fs_ss (mv := a.length * 2) (l := (dd (srt cmpK a) ++ List.replicate (a.length - (dd (srt cmpK a)).length) (0, 0))) (m := (dd (srt cmpK a)).length) (tot := a.length) (by decide) kcells_len kcells_clo kcells_one (Nat.le_of_ble_eq_true (by kernel_rfl)) (by kernel_rfl) (by omega) (by omega) (by omega)) (congrArg (inlL kcells 2) (by first | exact cut_kj (by rw [i1, List.take_of_length_le (by omega)]) | exact cut_kj (by rw [i3, List.take_of_length_le (by omega)]) | (rw [i2, List.take_of_length_le (by omega)]; rfl)))) (.cons (fs_to (fs_clo rfl) (congrArg (inlL scells 3) (by first | exact cut_kj (by rw [i1, List.take_of_length_le (by omega)]) | exact cut_kj (by rw [i3, List.take_of_length_le (by omega)]) | (rw [i2, List.take_of_length_le (by omega)]; rfl)))) (.cons (fs_to (fs_ss (mv := c.length * 2) (l := (dd (srt cmpK c) ++ List.replicate (c.length - (dd (srt cmpK c)).length) (0, 0))) (m := (dd (srt cmpK c)).length) (tot := c.length) (by decide) kcells_len kcells_clo kcells_one (Nat.le_of_ble_eq_true (by kernel_rfl)) (by kernel_rfl) (by omega) (by omega) (by omega)) (congrArg (inlL kcells 2) (by first | exact cut_kj (by rw [i1, List.take_of_length_le (by omega)]) | exact cut_kj (by rw [i3, List.take_of_length_le (by omega)]) | (rw [i2, List.take_of_length_le (by omega)]; rfl)))) (.nil)))), Nat.le_of_ble_eq_true (by kernel_rfl), all1 (by kernel_rfl)⟩
noncomputable def sm_joinF : Small Try.prog 0 27 ((List Foot)) where
  k := 1
  A := fun z9 ρ => [slL (ρ 0) 3 z9.length]
  M := fun z9 ρ => objL [rowL fcells z9]
  M1 := fun z9 ρ => objL [rowL fcells z9]
  V := fun z9 ρ => .agg #[inlL kcells 2 (kj (flatR z9)), inlL scells 3 (sj (flatS z9)), inlL kcells 2 (kj (flatW z9))]
  Pre := fun z9 => (z9.length ≤ 1000) ∧ ((flatR z9).length ≤ 1000000) ∧ ((flatS z9).length ≤ 1000000) ∧ ((flatW z9).length ≤ 1000000)
  ch := []
  N := 400
  s0 := fun z9 => ((St.empty 0).new (rowL fcells z9))
  hch := by decide
  hsame := fun x ρ => all1 (fun _ => rfl)
  hG := rfl
  hn := fun x => rfl
  hwf := fun x => ((wf_empty 0).new _)
  hget := fun x => all1 (by kernel_rfl)
  noloop := fun x ρ => all1 (fun h => h.elim)
  inA := fun x ρ R hR => .cons (.slice (hR 0 _ (by decide))) .nil
  inM := fun x ρ R hR => all1 (OSub.arr (subs_clo (flatL_clo fcells_clo)))
  outM := fun x ρ R hR => all1 (OSub.arr (subs_clo (flatL_clo fcells_clo)))
  outV := fun x ρ R hR => .agg (.cons (sub_clo rfl) (.cons (sub_clo rfl) (.cons (sub_clo rfl) .nil)))
  dom := by
    intro x ρ a ha
    cases ha
  sc := by
    rintro x ⟨p0, p1, p2, p3⟩
    exact joinF_sc x p0 p1 p2 p3
  det := by
    rintro x ρ y σ s h hm hm'
    simp only [List.cons.injEq, and_true, Int.natCast_inj, UInt8.toNat_inj, Value.int.injEq, Value.bool.injEq, Value.string.injEq, Value.agg.injEq, Array.mk.injEq, true_and, Value.pointer.injEq, Option.some.injEq, Addr.mk.injEq, Value.func.injEq, AObj.cells.injEq, AObj.arr.injEq, slL_iff, fcells_row] at h
    have q0 : ρ 0 = σ 0 := by simp_all
    have e0 := (hm 0 (by decide)).symm.trans ((congrArg s.get q0).trans (hm' 0 (by decide)))
    simp only [objL, List.getD_cons_zero, List.getD_cons_succ, List.cons.injEq, and_true, Int.natCast_inj, UInt8.toNat_inj, Value.int.injEq, Value.bool.injEq, Value.string.injEq, Value.agg.injEq, Array.mk.injEq, true_and, Value.pointer.injEq, Option.some.injEq, Addr.mk.injEq, Value.func.injEq, AObj.cells.injEq, AObj.arr.injEq, slL_iff, fcells_row] at e0
    have q : ∀ a, a < 1 → ρ a = σ a := all1 q0
    clear hm hm'
    exact ⟨by first | rfl | (simp_all [Prod.ext_iff]; done) | exact e0, q⟩
  par := by
    intro x ρ σ h
    have h0 := h 0 (by decide)
    exact ⟨by first | rfl | simp only [h0], by first | exact fun _ _ => rfl | (intro a ha; simp only [h0])⟩
noncomputable def con_joinF : Con Try.prog 0 := sm_joinF.con
theorem con_joinF_at (l : List Foot) (i0 : Nat) (h0 : l.length ≤ 1000) (h1 : (flatR l).length ≤ 1000000) (h2 : (flatS l).length ≤ 1000000) (h3 : (flatW l).length ≤ 1000000) (s : St) (hn : nodupB [i0] = true) (m0 : s.get i0 = some (rowL fcells l)) : con_joinF.rel [slL i0 3 l.length] s (.agg #[inlL kcells 2 (kj (flatR l)), inlL scells 3 (sj (flatS l)), inlL kcells 2 (kj (flatW l))]) s :=
  sm_joinF.at_ l [i0] s _ ⟨h0, h1, h2, h3⟩ rfl hn rfl (all1 m0) rfl rfl
end Go.Proofs.Ytfpkfcdeoiofiaa