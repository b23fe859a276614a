/- A parcel: is it large? The same as the program has it. -/
import Derived.Test.YtfilpiajpmaaiaaGreatDoorBase
import Derived.Test.YtfilpiajpmaaiaaGreatDoorAiHit
import Derived.Test.YtfilpiajpmaaiaaGreatDoorAiComp
set_option linter.unusedVariables false
set_option linter.unusedSimpArgs false
set_option linter.unnecessarySimpa false
namespace Go.Proofs.YtfilpiajpmaaiaaGreatDoor
open Go.Ai
/-- keys, spans, writes, instructions, records -/
abbrev Key := Int × Int
abbrev Span := Int × Int × Int
abbrev Wr := Int × Int × Int × Bool
abbrev Code := Int × Int × Int × Int × Int × Int
abbrev Rec8 := Int × Bool × Int × List Code × List Key × List Span × List Key × List Wr
def kcells (x : Key) : List Value := [.int .i64 x.1, .int .i64 x.2]
theorem kcells_len (x : Key) : (kcells x).length = 2 := rfl
theorem kcells_clo (x : Key) : clo.cloL (kcells x) = true := rfl
theorem kcells_one (x : Key) : (kcells x).all one = true := rfl
theorem kcells_iff {a b : List (Key)} : inlL kcells 2 a = inlL kcells 2 b ↔ a = b :=
  ⟨inlL_inj kcells_len fun x y h => by simp only [kcells, List.cons.injEq, Value.int.injEq, true_and, and_true] at h; exact Prod.ext h.1 (h.2), fun h => by rw [h]⟩
def scells (x : Span) : List Value := [.int .i64 x.1, .int .i64 x.2.1, .int .i64 x.2.2]
theorem scells_len (x : Span) : (scells x).length = 3 := rfl
theorem scells_clo (x : Span) : clo.cloL (scells x) = true := rfl
theorem scells_one (x : Span) : (scells x).all one = true := rfl
theorem scells_iff {a b : List (Span)} : inlL scells 3 a = inlL scells 3 b ↔ a = b :=
  ⟨inlL_inj scells_len fun x y h => by simp only [scells, List.cons.injEq, Value.int.injEq, true_and, and_true] at h; exact Prod.ext h.1 (Prod.ext h.2.1 (h.2.2)), fun h => by rw [h]⟩
def wcells (x : Wr) : List Value := [.int .i64 x.1, .int .i64 x.2.1, .int .i64 x.2.2.1, .bool x.2.2.2]
theorem wcells_len (x : Wr) : (wcells x).length = 4 := rfl
theorem wcells_clo (x : Wr) : clo.cloL (wcells x) = true := rfl
theorem wcells_one (x : Wr) : (wcells x).all one = true := rfl
theorem wcells_iff {a b : List (Wr)} : inlL wcells 4 a = inlL wcells 4 b ↔ a = b :=
  ⟨inlL_inj wcells_len fun x y h => by simp only [wcells, List.cons.injEq, Value.int.injEq, Value.bool.injEq, true_and, and_true] at h; exact Prod.ext h.1 (Prod.ext h.2.1 (Prod.ext h.2.2.1 (h.2.2.2))), fun h => by rw [h]⟩
def ccells (x : Code) : List Value := [.int .i64 x.1, .int .i64 x.2.1, .int .i64 x.2.2.1, .int .i64 x.2.2.2.1, .int .i64 x.2.2.2.2.1, .int .i64 x.2.2.2.2.2]
theorem ccells_len (x : Code) : (ccells x).length = 6 := rfl
theorem ccells_clo (x : Code) : clo.cloL (ccells x) = true := rfl
theorem ccells_one (x : Code) : (ccells x).all one = true := rfl
theorem ccells_iff {a b : List (Code)} : inlL ccells 6 a = inlL ccells 6 b ↔ a = b :=
  ⟨inlL_inj ccells_len fun x y h => by simp only [ccells, List.cons.injEq, Value.int.injEq, true_and, and_true] at h; exact Prod.ext h.1 (Prod.ext h.2.1 (Prod.ext h.2.2.1 (Prod.ext h.2.2.2.1 (Prod.ext h.2.2.2.2.1 (h.2.2.2.2.2))))), fun h => by rw [h]⟩
noncomputable def rcells (x : Rec8) : List Value := [.int .i64 x.1, .bool x.2.1, .int .i64 x.2.2.1, inlL ccells 6 x.2.2.2.1, inlL kcells 2 x.2.2.2.2.1, inlL scells 3 x.2.2.2.2.2.1, inlL kcells 2 x.2.2.2.2.2.2.1, inlL wcells 4 x.2.2.2.2.2.2.2]
theorem rcells_len (x : Rec8) : (rcells x).length = 8 := rfl
theorem rcells_clo (x : Rec8) : clo.cloL (rcells x) = true := rfl
theorem rcells_one (x : Rec8) : (rcells x).all one = true := rfl
theorem rcells_iff {a b : List (Rec8)} : inlL rcells 8 a = inlL rcells 8 b ↔ a = b :=
  ⟨inlL_inj rcells_len fun x y h => by simp only [rcells, List.cons.injEq, Value.int.injEq, Value.bool.injEq, ccells_iff, kcells_iff, scells_iff, wcells_iff, true_and, and_true] at h; exact Prod.ext h.1 (Prod.ext h.2.1 (Prod.ext h.2.2.1 (Prod.ext h.2.2.2.1 (Prod.ext h.2.2.2.2.1 (Prod.ext h.2.2.2.2.2.1 (Prod.ext h.2.2.2.2.2.2.1 (h.2.2.2.2.2.2.2))))))), fun h => by rw [h]⟩
theorem take_one {α : Type} {l : List α} {i : Nat} {x : α} (hx : l[i]? = some x) : l.take (i + 1) = l.take i ++ [x] := by rw [List.take_add_one, hx]; rfl
abbrev smR (r : Rec8) : Prop := r.2.2.2.1.length ≤ 1000 ∧ r.2.2.2.2.1.length ≤ 1000 ∧ r.2.2.2.2.2.1.length ≤ 1000 ∧ r.2.2.2.2.2.2.1.length ≤ 1000 ∧ r.2.2.2.2.2.2.2.length ≤ 1000
def bigR (l : List Rec8) (i : Nat) : Prop := ∃ x, l[i]? = some x ∧ (x.2.2.2.1.length > 33 ∨ x.2.2.2.2.1.length > 12 ∨ x.2.2.2.2.2.1.length > 12 ∨ x.2.2.2.2.2.2.1.length > 12 ∨ x.2.2.2.2.2.2.2.length > 14)
theorem bigR_iff {l : List Rec8} {i : Nat} {x : Rec8} (hx : l[i]? = some x) : bigR l i ↔ (x.2.2.2.1.length > 33 ∨ x.2.2.2.2.1.length > 12 ∨ x.2.2.2.2.2.1.length > 12 ∨ x.2.2.2.2.2.2.1.length > 12 ∨ x.2.2.2.2.2.2.2.length > 14) :=
  ⟨fun ⟨z, h1, h2⟩ => by rw [hx] at h1; obtain rfl := Option.some.inj h1; exact h2, fun h => ⟨x, hx, h⟩⟩
abbrev largeP (t : List UInt8) (l : List Rec8) : Prop := t.length > 800 ∨ l.length > 10 ∨ ∃ i, i < l.length ∧ bigR l i
theorem small_at {t : List UInt8} {l : List Rec8} (h : ¬ largeP t l) : t.length ≤ 800 ∧ l.length ≤ 10 ∧ ∀ r ∈ l, smR r := by
  refine ⟨by omega, by omega, fun x hx => ?_⟩
  obtain ⟨i, hi⟩ := List.getElem?_of_mem hx
  have h0 : ¬ bigR l i := fun q => h (.inr (.inr ⟨i, (List.getElem?_eq_some_iff.1 hi).1, q⟩))
  rw [bigR_iff hi] at h0
  exact ⟨by omega, by omega, by omega, by omega, by omega⟩
theorem large26_fn : Tryz.cfg.fn 5 = some Tryz.f5 := by kernel_rfl
set_option maxHeartbeats 4000000 in
set_option maxRecDepth 100000 in
theorem large26_sc (bs : Int) (tx : List UInt8) (l : List Rec8) (h0 : tx.length ≤ 9223372036854775807) (h1 : l.length ≤ 9223372036854775807) : SC Tryz.prog 0 5 [.slice (some ⟨0, 0, some 3⟩) 1 3] ((St.empty 0).new (.arr [.int .i64 bs, inlL bcells 1 tx, inlL rcells 8 l] 0 false)) fun v s' => v = .bool (tf (largeP tx l)) ∧ s'.n ≤ 400 ∧ ∀ a, a < 1 → s'.get a = some (objL [.arr [.int .i64 bs, inlL bcells 1 tx, inlL rcells 8 l] 0 false] a) := by
  have hS := sound_run Tryz.cfgOk 300
  refine sc_body Tryz.cfgOk large26_fn rfl ?_
  refine sk_seq ?_
  refine kK Tryz.cfgOk hS ?_
  refine sk_seq (sk_seq ?_)
  refine kK Tryz.cfgOk hS ?_
  refine sk_block ?_
  refine sk_loop ?_
  refine sk_seq ?_
  refine kK Tryz.cfgOk hS ?_
  refine sk_seq ?_
  refine kT ?_
  refine sk_skip (sk_seq (sk_block (sk_seq ?_)))
  refine kK Tryz.cfgOk hS ?_
  refine sk_seq (sk_seq ?_)
  refine sk_regionL Tryz.cfgOk hS ?_
  refine aK 5 ?_
  refine aM (lenB Tryz.cfg (St.empty 0) 22 (inlL bcells 1 tx)) (.int .i64 ((tx.length : Nat) : Int)) (len_inl tokC (by kernel_rfl)) ?_
  refine aT (fun h1 => ?_) (fun h1 => ?_)
  · have c2e : (decide ((((tx.length : Nat) : Int) : Int) > 800)) = true := Eq.trans (by kernel_rfl) h1
    clear h1
    have c2 : (((tx.length : Nat) : Int) : Int) > 800 := of_decide_eq_true c2e
    clear c2e
    refine aN ?_
    refine kT ?_
    refine sk_seq ?_
    refine kK Tryz.cfgOk hS ?_
    refine sk_ret ?_
    exact ⟨[.bool true], by kernel_rfl, congrArg Value.bool (by first | (obtain ⟨q1, q2⟩ := hx; exact Eq.symm (tf_true (.inr (.inr ⟨_, q1, q2⟩)))) | exact Eq.symm (tf_true (by omega)) | exact Eq.symm (tf_false (fun h => by rcases h with h | h | h <;> first | omega | exact hx h)) | exact Eq.symm (tf_true (.inl (by assumption))) | exact Eq.symm (tf_true (.inr (.inl (by assumption))))), Nat.le_of_ble_eq_true (by kernel_rfl), all1 (by kernel_rfl)⟩
  · have c2e : (decide ((((tx.length : Nat) : Int) : Int) > 800)) = false := Eq.trans (by kernel_rfl) h1
    clear h1
    have c2 : ¬ (((tx.length : Nat) : Int) : Int) > 800 := of_decide_eq_false c2e
    clear c2e
    refine aK 4 ?_
    refine aM (lenB Tryz.cfg (St.empty 0) 23 (inlL rcells 8 l)) (.int .i64 ((l.length : Nat) : Int)) (len_inl tokC (by kernel_rfl)) ?_
    refine aT (fun h3 => ?_) (fun h3 => ?_)
    · have c4e : (decide ((((l.length : Nat) : Int) : Int) > 10)) = true := Eq.trans (by kernel_rfl) h3
      clear h3
      have c4 : (((l.length : Nat) : Int) : Int) > 10 := of_decide_eq_true c4e
      clear c4e
      refine aN ?_
      refine kT ?_
      refine sk_seq ?_
      refine kK Tryz.cfgOk hS ?_
      refine sk_ret ?_
      exact ⟨[.bool true], by kernel_rfl, congrArg Value.bool (by first | (obtain ⟨q1, q2⟩ := hx; exact Eq.symm (tf_true (.inr (.inr ⟨_, q1, q2⟩)))) | exact Eq.symm (tf_true (by omega)) | exact Eq.symm (tf_false (fun h => by rcases h with h | h | h <;> first | omega | exact hx h)) | exact Eq.symm (tf_true (.inl (by assumption))) | exact Eq.symm (tf_true (.inr (.inl (by assumption))))), Nat.le_of_ble_eq_true (by kernel_rfl), all1 (by kernel_rfl)⟩
    · have c4e : (decide ((((l.length : Nat) : Int) : Int) > 10)) = false := Eq.trans (by kernel_rfl) h3
      clear h3
      have c4 : ¬ (((l.length : Nat) : Int) : Int) > 10 := of_decide_eq_false c4e
      clear c4e
      refine aN ?_
      refine kF ?_
      refine sk_skip (sk_seq ?_)
      refine sk_regionL Tryz.cfgOk hS ?_
      refine aK 2 ?_
      refine aM (lenB Tryz.cfg (St.empty 0) 23 (inlL rcells 8 l)) (.int .i64 ((l.length : Nat) : Int)) (len_inl tokC (by kernel_rfl)) ?_
      refine aN ?_
      refine sk_block ?_
      refine sk_live 69 ((fun a : Nat => [(7, .slice (some ⟨0, 0, some 3⟩) 1 3), (8, .int .i64 1), (9, .int .i64 0), (17, .pointer (some ⟨1, 1, none⟩)), (18, inlL bcells 1 tx), (19, .int .i64 ((tx.length : Nat) : Int)), (20, .bool false), (23, .pointer (some ⟨1, 2, none⟩)), (24, inlL rcells 8 l), (25, .int .i64 ((l.length : Nat) : Int)), (26, .bool false), (29, inlL rcells 8 l), (30, .int .i64 ((l.length : Nat) : Int)), (31, .int .i64 ((a : Nat) : Int))]) 0) (by kernel_rfl) ⟨by kernel_rfl, by kernel_rfl, by kernel_rfl, by kernel_rfl, by kernel_rfl, by kernel_rfl, by kernel_rfl, by kernel_rfl, by kernel_rfl, by kernel_rfl, by kernel_rfl, by kernel_rfl, by kernel_rfl, by kernel_rfl, trivial⟩ fun m5 => ?_
      refine sk_st ((fun a : Nat => (((St.empty 0).new (.arr [.int .i64 bs, inlL bcells 1 tx, inlL rcells 8 l] 0 false)).new (.cells [.int .i64 bs, inlL bcells 1 tx, inlL rcells 8 l]))) 0) (by kernel_rfl) ?_
      refine (sk_while (k := 2) (N := 400) (live := (fun a : Nat => [(7, .slice (some ⟨0, 0, some 3⟩) 1 3), (8, .int .i64 1), (9, .int .i64 0), (17, .pointer (some ⟨1, 1, none⟩)), (18, inlL bcells 1 tx), (19, .int .i64 ((tx.length : Nat) : Int)), (20, .bool false), (23, .pointer (some ⟨1, 2, none⟩)), (24, inlL rcells 8 l), (25, .int .i64 ((l.length : Nat) : Int)), (26, .bool false), (29, inlL rcells 8 l), (30, .int .i64 ((l.length : Nat) : Int)), (31, .int .i64 ((a : Nat) : Int))])) (M := (fun a : Nat => (((St.empty 0).new (.arr [.int .i64 bs, inlL bcells 1 tx, inlL rcells 8 l] 0 false)).new (.cells [.int .i64 bs, inlL bcells 1 tx, inlL rcells 8 l])))) (fun a : Nat => (a ≤ l.length) ∧ (NoI (fun a : Nat => bigR l a) a)) (fun a : Nat => l.length - a) (fun (a : Nat) (o : Out) (lv : List (Nat × Value)) (M : St) => (o = .exit 2 ∧ (¬ ∃ a, a < l.length ∧ bigR l a) ∧ lv = [(7, .slice (some ⟨0, 0, some 3⟩) 1 3), (8, .int .i64 1), (9, .int .i64 0), (17, .pointer (some ⟨1, 1, none⟩)), (18, inlL bcells 1 tx), (19, .int .i64 ((tx.length : Nat) : Int)), (20, .bool false), (23, .pointer (some ⟨1, 2, none⟩)), (24, inlL rcells 8 l), (25, .int .i64 ((l.length : Nat) : Int)), (26, .bool false), (29, inlL rcells 8 l), (30, .int .i64 ((l.length : Nat) : Int)), (31, .int .i64 ((a : Nat) : Int))] ∧ M = (((St.empty 0).new (.arr [.int .i64 bs, inlL bcells 1 tx, inlL rcells 8 l] 0 false)).new (.cells [.int .i64 bs, inlL bcells 1 tx, inlL rcells 8 l]))) ∨ (o = .ret ∧ (a < l.length ∧ (bigR l a)) ∧ lv = [(2, .bool true)] ∧ M = (((St.empty 0).new (.arr [.int .i64 bs, inlL bcells 1 tx, inlL rcells 8 l] 0 false)).new (.cells [.int .i64 bs, inlL bcells 1 tx, inlL rcells 8 l])))) (Nat.zero_le _) (fun a ha => ?_) (fun a ha => ?_) (fun a m ha => ?_) (fun a m ha => ?_) 0 m5 ?_).up ?_
      · exact ⟨by kernel_rfl, (((wf_empty 0).new _).new _), (selfs (all_cons (o := .arr [.int .i64 bs, inlL bcells 1 tx, inlL rcells 8 l] 0 false) (by kernel_rfl) (OSub.arr (.cons (sub_clo rfl) (.cons (sub_clo rfl) (.cons (sub_clo rfl) .nil)))) (all_cons (o := .cells [.int .i64 bs, inlL bcells 1 tx, inlL rcells 8 l]) (by kernel_rfl) (OSub.cells (.cons (sub_clo rfl) (.cons (sub_clo rfl) (.cons (sub_clo rfl) .nil)))) (all_none))))⟩
      · exact ⟨.slice ⟨by decide, rfl⟩, sub_clo rfl, sub_clo rfl, .ptr ⟨by decide, rfl⟩, sub_clo rfl, sub_clo rfl, sub_clo rfl, .ptr ⟨by decide, rfl⟩, sub_clo rfl, sub_clo rfl, sub_clo rfl, sub_clo rfl, sub_clo rfl, sub_clo rfl, trivial⟩
      · exact ⟨by kernel_rfl, by kernel_rfl, by kernel_rfl, by kernel_rfl, by kernel_rfl, by kernel_rfl, by kernel_rfl, by kernel_rfl, by kernel_rfl, by kernel_rfl, by kernel_rfl, by kernel_rfl, by kernel_rfl, by kernel_rfl, trivial⟩
      · obtain ⟨i, ea⟩ : ∃ z, z = a := ⟨_, rfl⟩
        subst ea
        obtain ⟨i0, i1⟩ := ha
        refine sk_seq ?_
        refine sk_regionL Tryz.cfgOk hS ?_
        refine aT (fun h6 => ?_) (fun h6 => ?_)
        · have c7e : (decide ((((i : Nat) : Int) : Int) < ((l.length : Nat) : Int))) = true := Eq.trans (by kernel_rfl) h6
          clear h6
          have c7 : (((i : Nat) : Int) : Int) < ((l.length : Nat) : Int) := of_decide_eq_true c7e
          clear c7e
          refine al_nil ?_
          refine sk_seq ?_
          refine kT ?_
          refine sk_skip (sk_seq (sk_block (sk_seq ?_)))
          refine sk_regionL Tryz.cfgOk hS ?_
          refine aM (indexAddrV Tryz.cfg 23 (inlL rcells 8 l) (.int .i64 ((i : Nat) : Int))) (elt (flatL rcells l) (i * 8)) (idx_inlL tokC (by kernel_rfl) (by first | omega | simp)) ?_
          have hx8l : i < l.length := by omega
          refine Exists.elim (get_ex hx8l) fun x8 hx8 => ?_
          clear hx8l
          refine aM (loadV Tryz.cfg (St.empty 0) 67 (elt (flatL rcells l) (i * 8))) (.agg #[.int .i64 x8.1, .bool x8.2.1, .int .i64 x8.2.2.1, inlL ccells 6 x8.2.2.2.1, inlL kcells 2 x8.2.2.2.2.1, inlL scells 3 x8.2.2.2.2.2.1, inlL kcells 2 x8.2.2.2.2.2.2.1, inlL wcells 4 x8.2.2.2.2.2.2.2]) (load_el tokC (by kernel_rfl) rcells_len hx8) ?_
          refine aN ?_
          refine sk_seq ?_
          refine sk_regionL Tryz.cfgOk hS ?_
          refine aK 3 ?_
          refine aM (lenB Tryz.cfg (St.empty 0) 58 (inlL ccells 6 x8.2.2.2.1)) (.int .i64 ((x8.2.2.2.1.length : Nat) : Int)) (len_inl tokC (by kernel_rfl)) ?_
          refine aT (fun h9 => ?_) (fun h9 => ?_)
          · have c10e : (decide ((((x8.2.2.2.1.length : Nat) : Int) : Int) > 33)) = true := Eq.trans (by kernel_rfl) h9
            clear h9
            have c10 : (((x8.2.2.2.1.length : Nat) : Int) : Int) > 33 := of_decide_eq_true c10e
            clear c10e
            refine aN ?_
            refine kT ?_
            refine sk_seq ?_
            refine kK Tryz.cfgOk hS ?_
            refine sk_ret ?_
            refine .inr ⟨_, _, (fun h => by cases h), .inr ⟨rfl, ?_, rfl, rfl⟩, ⟨by kernel_rfl, ⟨by kernel_rfl, trivial⟩, ⟨sub_clo rfl, trivial⟩, Nat.le_of_ble_eq_true (by kernel_rfl), ⟨by kernel_rfl, (((wf_empty 0).new _).new _), (selfs (all_cons (o := .arr [.int .i64 bs, inlL bcells 1 tx, inlL rcells 8 l] 0 false) (by kernel_rfl) (OSub.arr (.cons (sub_clo rfl) (.cons (sub_clo rfl) (.cons (sub_clo rfl) .nil)))) (all_cons (o := .cells [.int .i64 bs, inlL bcells 1 tx, inlL rcells 8 l]) (by kernel_rfl) (OSub.cells (.cons (sub_clo rfl) (.cons (sub_clo rfl) (.cons (sub_clo rfl) .nil)))) (all_none))))⟩, mem_all (by kernel_rfl)⟩⟩
            · first | (refine ⟨by omega, ?_⟩; rw [bigR_iff (by assumption)]; omega) | (rw [bigR_iff (by assumption)]; omega)
          · have c10e : (decide ((((x8.2.2.2.1.length : Nat) : Int) : Int) > 33)) = false := Eq.trans (by kernel_rfl) h9
            clear h9
            have c10 : ¬ (((x8.2.2.2.1.length : Nat) : Int) : Int) > 33 := of_decide_eq_false c10e
            clear c10e
            refine aK 4 ?_
            refine aM (lenB Tryz.cfg (St.empty 0) 61 (inlL kcells 2 x8.2.2.2.2.1)) (.int .i64 ((x8.2.2.2.2.1.length : Nat) : Int)) (len_inl tokC (by kernel_rfl)) ?_
            refine aT (fun h11 => ?_) (fun h11 => ?_)
            · have c12e : (decide ((((x8.2.2.2.2.1.length : Nat) : Int) : Int) > 12)) = true := Eq.trans (by kernel_rfl) h11
              clear h11
              have c12 : (((x8.2.2.2.2.1.length : Nat) : Int) : Int) > 12 := of_decide_eq_true c12e
              clear c12e
              refine aN ?_
              refine kT ?_
              refine sk_seq ?_
              refine kK Tryz.cfgOk hS ?_
              refine sk_ret ?_
              refine .inr ⟨_, _, (fun h => by cases h), .inr ⟨rfl, ?_, rfl, rfl⟩, ⟨by kernel_rfl, ⟨by kernel_rfl, trivial⟩, ⟨sub_clo rfl, trivial⟩, Nat.le_of_ble_eq_true (by kernel_rfl), ⟨by kernel_rfl, (((wf_empty 0).new _).new _), (selfs (all_cons (o := .arr [.int .i64 bs, inlL bcells 1 tx, inlL rcells 8 l] 0 false) (by kernel_rfl) (OSub.arr (.cons (sub_clo rfl) (.cons (sub_clo rfl) (.cons (sub_clo rfl) .nil)))) (all_cons (o := .cells [.int .i64 bs, inlL bcells 1 tx, inlL rcells 8 l]) (by kernel_rfl) (OSub.cells (.cons (sub_clo rfl) (.cons (sub_clo rfl) (.cons (sub_clo rfl) .nil)))) (all_none))))⟩, mem_all (by kernel_rfl)⟩⟩
              · first | (refine ⟨by omega, ?_⟩; rw [bigR_iff (by assumption)]; omega) | (rw [bigR_iff (by assumption)]; omega)
            · have c12e : (decide ((((x8.2.2.2.2.1.length : Nat) : Int) : Int) > 12)) = false := Eq.trans (by kernel_rfl) h11
              clear h11
              have c12 : ¬ (((x8.2.2.2.2.1.length : Nat) : Int) : Int) > 12 := of_decide_eq_false c12e
              clear c12e
              refine aK 5 ?_
              refine aM (lenB Tryz.cfg (St.empty 0) 62 (inlL scells 3 x8.2.2.2.2.2.1)) (.int .i64 ((x8.2.2.2.2.2.1.length : Nat) : Int)) (len_inl tokC (by kernel_rfl)) ?_
              refine aT (fun h13 => ?_) (fun h13 => ?_)
              · have c14e : (decide ((((x8.2.2.2.2.2.1.length : Nat) : Int) : Int) > 12)) = true := Eq.trans (by kernel_rfl) h13
                clear h13
                have c14 : (((x8.2.2.2.2.2.1.length : Nat) : Int) : Int) > 12 := of_decide_eq_true c14e
                clear c14e
                refine aN ?_
                refine kT ?_
                refine sk_seq ?_
                refine kK Tryz.cfgOk hS ?_
                refine sk_ret ?_
                refine .inr ⟨_, _, (fun h => by cases h), .inr ⟨rfl, ?_, rfl, rfl⟩, ⟨by kernel_rfl, ⟨by kernel_rfl, trivial⟩, ⟨sub_clo rfl, trivial⟩, Nat.le_of_ble_eq_true (by kernel_rfl), ⟨by kernel_rfl, (((wf_empty 0).new _).new _), (selfs (all_cons (o := .arr [.int .i64 bs, inlL bcells 1 tx, inlL rcells 8 l] 0 false) (by kernel_rfl) (OSub.arr (.cons (sub_clo rfl) (.cons (sub_clo rfl) (.cons (sub_clo rfl) .nil)))) (all_cons (o := .cells [.int .i64 bs, inlL bcells 1 tx, inlL rcells 8 l]) (by kernel_rfl) (OSub.cells (.cons (sub_clo rfl) (.cons (sub_clo rfl) (.cons (sub_clo rfl) .nil)))) (all_none))))⟩, mem_all (by kernel_rfl)⟩⟩
                · first | (refine ⟨by omega, ?_⟩; rw [bigR_iff (by assumption)]; omega) | (rw [bigR_iff (by assumption)]; omega)
              · have c14e : (decide ((((x8.2.2.2.2.2.1.length : Nat) : Int) : Int) > 12)) = false := Eq.trans (by kernel_rfl) h13
                clear h13
                have c14 : ¬ (((x8.2.2.2.2.2.1.length : Nat) : Int) : Int) > 12 := of_decide_eq_false c14e
                clear c14e
                refine aK 5 ?_
                refine aM (lenB Tryz.cfg (St.empty 0) 61 (inlL kcells 2 x8.2.2.2.2.2.2.1)) (.int .i64 ((x8.2.2.2.2.2.2.1.length : Nat) : Int)) (len_inl tokC (by kernel_rfl)) ?_
                refine aT (fun h15 => ?_) (fun h15 => ?_)
                · have c16e : (decide ((((x8.2.2.2.2.2.2.1.length : Nat) : Int) : Int) > 12)) = true := Eq.trans (by kernel_rfl) h15
                  clear h15
                  have c16 : (((x8.2.2.2.2.2.2.1.length : Nat) : Int) : Int) > 12 := of_decide_eq_true c16e
                  clear c16e
                  refine aN ?_
                  refine kT ?_
                  refine sk_seq ?_
                  refine kK Tryz.cfgOk hS ?_
                  refine sk_ret ?_
                  refine .inr ⟨_, _, (fun h => by cases h), .inr ⟨rfl, ?_, rfl, rfl⟩, ⟨by kernel_rfl, ⟨by kernel_rfl, trivial⟩, ⟨sub_clo rfl, trivial⟩, Nat.le_of_ble_eq_true (by kernel_rfl), ⟨by kernel_rfl, (((wf_empty 0).new _).new _), (selfs (all_cons (o := .arr [.int .i64 bs, inlL bcells 1 tx, inlL rcells 8 l] 0 false) (by kernel_rfl) (OSub.arr (.cons (sub_clo rfl) (.cons (sub_clo rfl) (.cons (sub_clo rfl) .nil)))) (all_cons (o := .cells [.int .i64 bs, inlL bcells 1 tx, inlL rcells 8 l]) (by kernel_rfl) (OSub.cells (.cons (sub_clo rfl) (.cons (sub_clo rfl) (.cons (sub_clo rfl) .nil)))) (all_none))))⟩, mem_all (by kernel_rfl)⟩⟩
                  · first | (refine ⟨by omega, ?_⟩; rw [bigR_iff (by assumption)]; omega) | (rw [bigR_iff (by assumption)]; omega)
                · have c16e : (decide ((((x8.2.2.2.2.2.2.1.length : Nat) : Int) : Int) > 12)) = false := Eq.trans (by kernel_rfl) h15
                  clear h15
                  have c16 : ¬ (((x8.2.2.2.2.2.2.1.length : Nat) : Int) : Int) > 12 := of_decide_eq_false c16e
                  clear c16e
                  refine aK 4 ?_
                  refine aM (lenB Tryz.cfg (St.empty 0) 65 (inlL wcells 4 x8.2.2.2.2.2.2.2)) (.int .i64 ((x8.2.2.2.2.2.2.2.length : Nat) : Int)) (len_inl tokC (by kernel_rfl)) ?_
                  refine aT (fun h17 => ?_) (fun h17 => ?_)
                  · have c18e : (decide ((((x8.2.2.2.2.2.2.2.length : Nat) : Int) : Int) > 14)) = true := Eq.trans (by kernel_rfl) h17
                    clear h17
                    have c18 : (((x8.2.2.2.2.2.2.2.length : Nat) : Int) : Int) > 14 := of_decide_eq_true c18e
                    clear c18e
                    refine aN ?_
                    refine kT ?_
                    refine sk_seq ?_
                    refine kK Tryz.cfgOk hS ?_
                    refine sk_ret ?_
                    refine .inr ⟨_, _, (fun h => by cases h), .inr ⟨rfl, ?_, rfl, rfl⟩, ⟨by kernel_rfl, ⟨by kernel_rfl, trivial⟩, ⟨sub_clo rfl, trivial⟩, Nat.le_of_ble_eq_true (by kernel_rfl), ⟨by kernel_rfl, (((wf_empty 0).new _).new _), (selfs (all_cons (o := .arr [.int .i64 bs, inlL bcells 1 tx, inlL rcells 8 l] 0 false) (by kernel_rfl) (OSub.arr (.cons (sub_clo rfl) (.cons (sub_clo rfl) (.cons (sub_clo rfl) .nil)))) (all_cons (o := .cells [.int .i64 bs, inlL bcells 1 tx, inlL rcells 8 l]) (by kernel_rfl) (OSub.cells (.cons (sub_clo rfl) (.cons (sub_clo rfl) (.cons (sub_clo rfl) .nil)))) (all_none))))⟩, mem_all (by kernel_rfl)⟩⟩
                    · first | (refine ⟨by omega, ?_⟩; rw [bigR_iff (by assumption)]; omega) | (rw [bigR_iff (by assumption)]; omega)
                  · have c18e : (decide ((((x8.2.2.2.2.2.2.2.length : Nat) : Int) : Int) > 14)) = false := Eq.trans (by kernel_rfl) h17
                    clear h17
                    have c18 : ¬ (((x8.2.2.2.2.2.2.2.length : Nat) : Int) : Int) > 14 := of_decide_eq_false c18e
                    clear c18e
                    refine aN ?_
                    refine kF ?_
                    refine sk_skip ?_
                    refine sk_regionL Tryz.cfgOk hS ?_
                    refine aE (v := .int .i64 (IntKind.wrap .i64 (((i : Nat) : Int) + 1))) (.int .i64 ((i + 1 : Nat) : Int)) (congrArg (Value.int .i64) (wrap_to (by omega) (by omega))) ?_
                    refine aN ?_
                    refine .inl ⟨i + 1, rfl, ⟨?_, ?_⟩, ?_, ⟨by kernel_rfl, ⟨by kernel_rfl, by kernel_rfl, by kernel_rfl, by kernel_rfl, by kernel_rfl, by kernel_rfl, by kernel_rfl, by kernel_rfl, by kernel_rfl, by kernel_rfl, by kernel_rfl, by kernel_rfl, by kernel_rfl, by kernel_rfl, trivial⟩, ⟨.slice ⟨by decide, rfl⟩, sub_clo rfl, sub_clo rfl, .ptr ⟨by decide, rfl⟩, sub_clo rfl, sub_clo rfl, sub_clo rfl, .ptr ⟨by decide, rfl⟩, sub_clo rfl, sub_clo rfl, sub_clo rfl, sub_clo rfl, sub_clo rfl, sub_clo rfl, trivial⟩, Nat.le_of_ble_eq_true (by kernel_rfl), ⟨by kernel_rfl, (((wf_empty 0).new _).new _), (selfs (all_cons (o := .arr [.int .i64 bs, inlL bcells 1 tx, inlL rcells 8 l] 0 false) (by kernel_rfl) (OSub.arr (.cons (sub_clo rfl) (.cons (sub_clo rfl) (.cons (sub_clo rfl) .nil)))) (all_cons (o := .cells [.int .i64 bs, inlL bcells 1 tx, inlL rcells 8 l]) (by kernel_rfl) (OSub.cells (.cons (sub_clo rfl) (.cons (sub_clo rfl) (.cons (sub_clo rfl) .nil)))) (all_none))))⟩, mem_all (by kernel_rfl)⟩⟩
                    · (try dsimp only); omega
                    · (try dsimp only); exact NoI.succ (p := (fun i : Nat => bigR l i)) (by assumption) (by first | (refine ⟨by omega, ?_⟩; rw [bigR_iff (by assumption)]; omega) | (rw [bigR_iff (by assumption)]; omega))
                    · omega
        · have c7e : (decide ((((i : Nat) : Int) : Int) < ((l.length : Nat) : Int))) = false := Eq.trans (by kernel_rfl) h6
          clear h6
          have c7 : ¬ (((i : Nat) : Int) : Int) < ((l.length : Nat) : Int) := of_decide_eq_false c7e
          clear c7e
          refine al_nil ?_
          refine sk_seq ?_
          refine kF ?_
          refine sk_exit ?_
          dsimp only
          refine .inr ⟨_, _, (fun h => by cases h), .inl ⟨rfl, ?_, rfl, rfl⟩, ⟨by kernel_rfl, ⟨by kernel_rfl, by kernel_rfl, by kernel_rfl, by kernel_rfl, by kernel_rfl, by kernel_rfl, by kernel_rfl, by kernel_rfl, by kernel_rfl, by kernel_rfl, by kernel_rfl, by kernel_rfl, by kernel_rfl, by kernel_rfl, trivial⟩, ⟨.slice ⟨by decide, rfl⟩, sub_clo rfl, sub_clo rfl, .ptr ⟨by decide, rfl⟩, sub_clo rfl, sub_clo rfl, sub_clo rfl, .ptr ⟨by decide, rfl⟩, sub_clo rfl, sub_clo rfl, sub_clo rfl, sub_clo rfl, sub_clo rfl, sub_clo rfl, trivial⟩, Nat.le_of_ble_eq_true (by kernel_rfl), ⟨by kernel_rfl, (((wf_empty 0).new _).new _), (selfs (all_cons (o := .arr [.int .i64 bs, inlL bcells 1 tx, inlL rcells 8 l] 0 false) (by kernel_rfl) (OSub.arr (.cons (sub_clo rfl) (.cons (sub_clo rfl) (.cons (sub_clo rfl) .nil)))) (all_cons (o := .cells [.int .i64 bs, inlL bcells 1 tx, inlL rcells 8 l]) (by kernel_rfl) (OSub.cells (.cons (sub_clo rfl) (.cons (sub_clo rfl) (.cons (sub_clo rfl) .nil)))) (all_none))))⟩, mem_all (by kernel_rfl)⟩⟩
          · exact fun h => NoI.none (by assumption) (by omega) h
      · exact ⟨by ((try dsimp only); first | done | (omega)), by ((try dsimp only); first | done | (exact NoI.zero))⟩
      rintro o e1 s1 ⟨a, lv1, M1, m5, ha, (⟨rfl, hx, rfl, rfl⟩ | ⟨rfl, hx, rfl, rfl⟩), rfl, rfl⟩
      ·
        obtain ⟨i, ea⟩ : ∃ z, z = a := ⟨_, rfl⟩
        subst ea
        obtain ⟨i0, i1⟩ := ha
        dsimp only
        try rw [if_pos rfl]
        refine kK Tryz.cfgOk hS ?_
        refine sk_loop ?_
        refine sk_seq ?_
        refine kK Tryz.cfgOk hS ?_
        refine sk_seq ?_
        refine kF ?_
        refine sk_exit ?_
        dsimp only
        try rw [if_pos rfl]
        refine sk_seq ?_
        refine kK Tryz.cfgOk hS ?_
        refine sk_ret ?_
        exact ⟨[.bool false], by kernel_rfl, congrArg Value.bool (by first | (obtain ⟨q1, q2⟩ := hx; exact Eq.symm (tf_true (.inr (.inr ⟨_, q1, q2⟩)))) | exact Eq.symm (tf_true (by omega)) | exact Eq.symm (tf_false (fun h => by rcases h with h | h | h <;> first | omega | exact hx h)) | exact Eq.symm (tf_true (.inl (by assumption))) | exact Eq.symm (tf_true (.inr (.inl (by assumption))))), Nat.le_of_ble_eq_true (by kernel_rfl), all1 (by kernel_rfl)⟩
      ·
        obtain ⟨i, ea⟩ : ∃ z, z = a := ⟨_, rfl⟩
        subst ea
        obtain ⟨i0, i1⟩ := ha
        dsimp only
        exact ⟨[.bool true], by kernel_rfl, congrArg Value.bool (by first | (obtain ⟨q1, q2⟩ := hx; exact Eq.symm (tf_true (.inr (.inr ⟨_, q1, q2⟩)))) | exact Eq.symm (tf_true (by omega)) | exact Eq.symm (tf_false (fun h => by rcases h with h | h | h <;> first | omega | exact hx h)) | exact Eq.symm (tf_true (.inl (by assumption))) | exact Eq.symm (tf_true (.inr (.inl (by assumption))))), Nat.le_of_ble_eq_true (by kernel_rfl), all1 (by kernel_rfl)⟩
noncomputable def sm_large26 : Small Tryz.prog 0 5 (Int × (List UInt8) × (List Rec8)) where
  k := 1
  A := fun z9 ρ => [.slice (some ⟨(ρ 0), 0, some 3⟩) 1 3]
  M := fun z9 ρ => objL [.arr [.int .i64 z9.1, inlL bcells 1 z9.2.1, inlL rcells 8 z9.2.2] 0 false]
  M1 := fun z9 ρ => objL [.arr [.int .i64 z9.1, inlL bcells 1 z9.2.1, inlL rcells 8 z9.2.2] 0 false]
  V := fun z9 ρ => .bool (tf (largeP z9.2.1 z9.2.2))
  Pre := fun z9 => (z9.2.1.length ≤ 9223372036854775807) ∧ (z9.2.2.length ≤ 9223372036854775807)
  ch := []
  N := 400
  s0 := fun z9 => ((St.empty 0).new (.arr [.int .i64 z9.1, inlL bcells 1 z9.2.1, inlL rcells 8 z9.2.2] 0 false))
  hch := by decide
  hsame := fun x ρ => all1 (fun _ => rfl)
  hG := rfl
  hn := fun x => rfl
  hwf := fun x => ((wf_empty 0).new _)
  hget := fun x => all1 (by kernel_rfl)
  noloop := fun x ρ => all1 (fun h => h.elim)
  inA := fun x ρ R hR => .cons (.slice (hR 0 _ (by decide))) .nil
  inM := fun x ρ R hR => all1 (OSub.arr (.cons (sub_clo rfl) (.cons (sub_clo rfl) (.cons (sub_clo rfl) .nil))))
  outM := fun x ρ R hR => all1 (OSub.arr (.cons (sub_clo rfl) (.cons (sub_clo rfl) (.cons (sub_clo rfl) .nil))))
  outV := fun x ρ R hR => sub_clo rfl
  dom := by
    intro x ρ a ha
    cases ha
  sc := by
    rintro ⟨a0, a1, a2⟩ ⟨p0, p1⟩
    exact large26_sc a0 a1 a2 p0 p1
  det := by
    rintro ⟨a0, a1, a2⟩ ρ ⟨b0, b1, b2⟩ σ s h hm hm'
    simp only [List.cons.injEq, and_true, Int.natCast_inj, UInt8.toNat_inj, Value.int.injEq, Value.bool.injEq, Value.string.injEq, Value.agg.injEq, Array.mk.injEq, true_and, Value.pointer.injEq, Option.some.injEq, Addr.mk.injEq, Value.func.injEq, AObj.cells.injEq, AObj.arr.injEq, slL_iff, bcells_iff, rcells_iff] at h
    have q0 : ρ 0 = σ 0 := by simp_all
    have e0 := (hm 0 (by decide)).symm.trans ((congrArg s.get q0).trans (hm' 0 (by decide)))
    simp only [objL, List.getD_cons_zero, List.getD_cons_succ, List.cons.injEq, and_true, Int.natCast_inj, UInt8.toNat_inj, Value.int.injEq, Value.bool.injEq, Value.string.injEq, Value.agg.injEq, Array.mk.injEq, true_and, Value.pointer.injEq, Option.some.injEq, Addr.mk.injEq, Value.func.injEq, AObj.cells.injEq, AObj.arr.injEq, slL_iff, bcells_iff, rcells_iff] at e0
    have q : ∀ a, a < 1 → ρ a = σ a := all1 q0
    clear hm hm'
    exact ⟨by first | rfl | (simp_all [Prod.ext_iff]; done) | exact e0, q⟩
  par := by
    intro x ρ σ h
    have h0 := h 0 (by decide)
    exact ⟨by first | rfl | simp only [h0], by first | exact fun _ _ => rfl | (intro a ha; simp only [h0])⟩
noncomputable def con_large26 : Con Tryz.prog 3 := sm_large26.conG
theorem con_large26_at (bs : Int) (tx : List UInt8) (l : List Rec8) (i0 : Nat) (h0 : tx.length ≤ 9223372036854775807) (h1 : l.length ≤ 9223372036854775807) (s : St) (hn : nodupB [i0] = true) (m0 : s.get i0 = some (.arr [.int .i64 bs, inlL bcells 1 tx, inlL rcells 8 l] 0 false)) : con_large26.rel [.slice (some ⟨i0, 0, some 3⟩) 1 3] s (.bool (tf (largeP tx l))) s :=
  sm_large26.at_ (bs, tx, l) [i0] s _ ⟨h0, h1⟩ rfl hn rfl (all1 m0) rfl rfl
end Go.Proofs.YtfilpiajpmaaiaaGreatDoor