/- Of equal neighbours one is left. -/
import Derived.Test.YtfpkfcdeoiofiaaSort
set_option linter.unusedVariables false
set_option linter.unusedSimpArgs false
set_option linter.unnecessarySimpa false
namespace Go.Proofs.Ytfpkfcdeoiofiaa
open Go.Ai
def dd : List Key → List Key
  | [] => []
  | [x] => [x]
  | x :: y :: r => if x = y then dd (y :: r) else x :: dd (y :: r)
theorem dd_snoc : ∀ (l : List Key) (y x : Key), dd (l ++ [y] ++ [x]) = if y = x then dd (l ++ [y]) else dd (l ++ [y]) ++ [x]
  | [], y, x => by
    show dd [y, x] = if y = x then dd [y] else dd [y] ++ [x]
    simp only [dd]
    split
    · rename_i h; rw [h]
    · rfl
  | [z], y, x => by
    show dd [z, y, x] = if y = x then dd [z, y] else dd [z, y] ++ [x]
    simp only [dd]
    by_cases h1 : z = y <;> by_cases h2 : y = x <;> simp [h1, h2]
  | z :: w :: l, y, x => by
    have ih := dd_snoc (w :: l) y x
    show dd (z :: w :: (l ++ [y] ++ [x])) = if y = x then dd (z :: w :: (l ++ [y])) else dd (z :: w :: (l ++ [y])) ++ [x]
    have e1 : dd (z :: w :: (l ++ [y] ++ [x])) = if z = w then dd (w :: l ++ [y] ++ [x]) else z :: dd (w :: l ++ [y] ++ [x]) := rfl
    have e2 : dd (z :: w :: (l ++ [y])) = if z = w then dd (w :: l ++ [y]) else z :: dd (w :: l ++ [y]) := rfl
    rw [e1, e2, ih]
    by_cases h1 : z = w <;> by_cases h2 : y = x <;> simp [h1, h2]
theorem dd_le : ∀ l : List Key, (dd l).length ≤ l.length
  | [] => Nat.le_refl _
  | [x] => Nat.le_refl _
  | x :: y :: r => by
    have ih := dd_le (y :: r)
    simp only [dd]
    split
    · simp only [List.length_cons] at ih ⊢; omega
    · simp only [List.length_cons] at ih ⊢; omega
/-- one element more -/
theorem dd_at {l : List Key} {k : Nat} {x y : Key} (h0 : 0 < k) (hy : l[k - 1]? = some y) (hx : l[k]? = some x) : dd (l.take (k + 1)) = if y = x then dd (l.take k) else dd (l.take k) ++ [x] := by
  obtain ⟨j, rfl⟩ : ∃ j, k = j + 1 := ⟨k - 1, by omega⟩
  have e1 : l.take (j + 1) = l.take j ++ [y] := by rw [List.take_add_one, show j = j + 1 - 1 from rfl, hy]; rfl
  have e2 : l.take (j + 1 + 1) = l.take j ++ [y] ++ [x] := by rw [List.take_add_one, hx, e1]; rfl
  rw [e2, e1, dd_snoc]
theorem dd_end {l : List Key} {k : Nat} (h1 : dd (l.take k) = l.take k) (hk : ¬ k < l.length) : dd l = l := by
  rwa [List.take_of_length_le (by omega)] at h1
theorem dd_small {l : List Key} (h : l.length < 2) : dd l = l := by
  match l, h with
  | [], _ => rfl
  | [x], _ => rfl
theorem take_set {r : List Key} {q : Nat} {x : Key} (h : q < r.length) : (r.set q x).take (q + 1) = r.take q ++ [x] := by
  rw [List.take_add_one, List.getElem?_set_self h, List.take_set_of_le (Nat.le_refl _)]; rfl
theorem cut_row {r l : List Key} {q k n : Nat} (h : r.take q = dd (l.take k)) (hk : ¬ k < n) (hq : q ≤ k) (hr : r.length = n) (hl : n = l.length) (hk2 : k ≤ n) : q = (dd l).length ∧ r.take q ++ List.replicate (n - q) (0, 0) = dd l ++ List.replicate (n - (dd l).length) (0, 0) := by
  have e2 : l.take k = l := List.take_of_length_le (by omega)
  rw [e2] at h
  have e : q = (dd l).length := by rw [← h, List.length_take]; omega
  exact ⟨e, by rw [h, ← e]⟩
theorem in_ne {r l : List Key} {q k j : Nat} {x y : Key} (h6 : r.take q = dd (l.take (k + j))) (h5 : ∀ i, q ≤ i → r[i]? = l[i]?) (hx : r[k + j]? = some x) (hy : r[k + j - 1]? = some y) (h0 : 0 < k + j) (hq : q ≤ k + j - 1) (hr : q < r.length) (h : ¬ (x.1 = y.1 ∧ x.2 = y.2)) : (r.set q (x.1, x.2)).take (q + 1) = dd (l.take (k + (j + 1))) := by
  rw [take_set hr, h6, ← Nat.add_assoc, dd_at h0 ((h5 _ hq).symm.trans hy) ((h5 _ (by omega)).symm.trans hx), if_neg fun e => h (by rw [e]; exact ⟨rfl, rfl⟩)]
theorem in_eq {r l : List Key} {q k j : Nat} {x y : Key} (h6 : r.take q = dd (l.take (k + j))) (h5 : ∀ i, q ≤ i → r[i]? = l[i]?) (hx : r[k + j]? = some x) (hy : r[k + j - 1]? = some y) (h0 : 0 < k + j) (hq : q ≤ k + j - 1) (h : x.1 = y.1 ∧ x.2 = y.2) : r.take q = dd (l.take (k + (j + 1))) := by
  rw [h6, ← Nat.add_assoc, dd_at h0 ((h5 _ hq).symm.trans hy) ((h5 _ (by omega)).symm.trans hx), if_pos (Prod.ext h.1.symm h.2.symm)]
theorem ss_all {l : List Key} {n : Nat} (h : dd l = l) (hn : n = l.length) : slL 0 2 n = ssL 0 2 0 (dd l).length n := by subst hn; rw [h]; rfl
theorem row_all {l : List Key} {n m : Nat} (h : dd l = l) (hn : n = l.length) : rowM kcells m l = rowM kcells m (dd l ++ List.replicate (n - (dd l).length) (0, 0)) := by
  rw [h, hn, Nat.sub_self]
  simp
theorem set_after {r : List Key} {q : Nat} {x : Key} {i : Nat} (h : q + 1 ≤ i) : (r.set q x)[i]? = r[i]? := List.getElem?_set_ne (by omega)
theorem compactK_fn : Try.cfg.fn 44 = some Try.f44 := by kernel_rfl
set_option maxHeartbeats 4000000 in
set_option maxRecDepth 100000 in
theorem compactK_sc (n : Nat) (l : List Key) (h0 : n = l.length) (h1 : n ≤ 1000000) : SC Try.prog 0 44 [slL 0 2 n] ((St.empty 0).new (rowM kcells (n * 2) l)) fun v s' => v = ssL 0 2 0 ((dd l).length) n ∧ s'.n ≤ 400 ∧ ∀ a, a < 1 → s'.get a = some (objL [rowM kcells (n * 2) (dd l ++ List.replicate (n - (dd l).length) (0, 0))] a) := by
  have hS := sound_run Try.cfgOk 300
  refine sc_body Try.cfgOk compactK_fn rfl ?_
  refine sk_seq ?_
  refine kK Try.cfgOk hS ?_
  refine sk_seq (sk_seq ?_)
  refine sk_regionL Try.cfgOk hS ?_
  refine aK 2 ?_
  refine aT (fun h1 => ?_) (fun h1 => ?_)
  · have c2e : (decide ((((n : Nat) : Int) : Int) < 2)) = true := Eq.trans (by kernel_rfl) h1
    clear h1
    have c2 : (((n : Nat) : Int) : Int) < 2 := of_decide_eq_true c2e
    clear c2e
    refine al_nil ?_
    refine kT ?_
    refine sk_seq ?_
    refine kK Try.cfgOk hS ?_
    refine sk_ret ?_
    exact ⟨[slL 0 2 n], by kernel_rfl, (show (slL 0 2 n : Value) = ssL 0 2 0 ((dd l).length) n by first | exact ss_all (dd_small (by omega)) h0 | exact ss_all (dd_end i2 (by omega)) h0 | rw [hx.1]), Nat.le_of_ble_eq_true (by kernel_rfl), all1 (Eq.trans (b := some (rowM kcells (n * 2) l)) (by kernel_rfl) (congrArg some (show ((rowM kcells (n * 2) l) : AObj) = rowM kcells (n * 2) (dd l ++ List.replicate (n - (dd l).length) (0, 0)) by first | exact row_all (dd_small (by omega)) h0 | exact row_all (dd_end i2 (by omega)) h0 | rw [hx.2])))⟩
  · have c2e : (decide ((((n : Nat) : Int) : Int) < 2)) = false := Eq.trans (by kernel_rfl) h1
    clear h1
    have c2 : ¬ (((n : Nat) : Int) : Int) < 2 := of_decide_eq_false c2e
    clear c2e
    refine al_nil ?_
    refine kF ?_
    refine sk_skip (sk_seq (sk_seq ?_))
    refine kK Try.cfgOk hS ?_
    refine sk_block ?_
    refine sk_live 61 ((fun a : Nat => [(0, slL 0 2 n), (3, .int .i64 ((a : Nat) : Int))]) 1) (by kernel_rfl) ⟨by kernel_rfl, by kernel_rfl, trivial⟩ fun m3 => ?_
    refine sk_st ((fun a : Nat => ((St.empty 0).new (rowM kcells (n * 2) l))) 1) (by kernel_rfl) ?_
    refine (sk_while (k := 1) (N := 400) (live := (fun a : Nat => [(0, slL 0 2 n), (3, .int .i64 ((a : Nat) : Int))])) (M := (fun a : Nat => ((St.empty 0).new (rowM kcells (n * 2) l)))) (fun a : Nat => (1 ≤ a) ∧ (a ≤ n) ∧ (dd (l.take a) = l.take a)) (fun a : Nat => n - a) (fun (a : Nat) (o : Out) (lv : List (Nat × Value)) (M : St) => (o = .exit 0 ∧ (¬ a < n) ∧ lv = [(0, slL 0 2 n), (3, .int .i64 ((a : Nat) : Int))] ∧ M = ((St.empty 0).new (rowM kcells (n * 2) l))) ∨ (o = .ret ∧ ∃ q : Nat, ∃ w : List Key, (q = (dd l).length ∧ w = (dd l ++ List.replicate (n - (dd l).length) (0, 0))) ∧ lv = [(2, ssL 0 2 0 q n)] ∧ M = ((St.empty 0).new (rowM kcells (n * 2) w)))) (Nat.zero_le _) (fun a ha => ?_) (fun a ha => ?_) (fun a m ha => ?_) (fun a m ha => ?_) 1 m3 ?_).up ?_
    · exact ⟨by kernel_rfl, ((wf_empty 0).new _), (selfs (all_cons (o := rowM kcells (n * 2) l) (by kernel_rfl) (OSub.arr (subs_clo (flatL_clo kcells_clo))) (all_none)))⟩
    · exact ⟨.slice ⟨by decide, rfl⟩, sub_clo rfl, trivial⟩
    · exact ⟨by kernel_rfl, by kernel_rfl, trivial⟩
    · obtain ⟨k, ea⟩ : ∃ z, z = a := ⟨_, rfl⟩
      subst ea
      obtain ⟨i0, i1, i2⟩ := ha
      refine sk_seq (sk_seq ?_)
      refine sk_regionL Try.cfgOk hS ?_
      refine aK 3 ?_
      refine aT (fun h4 => ?_) (fun h4 => ?_)
      · have c5e : (decide ((((k : Nat) : Int) : Int) < ((n : Nat) : Int))) = true := Eq.trans (by kernel_rfl) h4
        clear h4
        have c5 : (((k : Nat) : Int) : Int) < ((n : Nat) : Int) := of_decide_eq_true c5e
        clear c5e
        refine al_nil ?_
        refine kT ?_
        refine sk_skip (sk_seq (sk_block (sk_seq ?_)))
        refine sk_drawL Try.cfgOk hS ?_
        refine dK 2 ?_
        refine dM (indexAddrV Try.cfg 32 (slL 0 2 n) (.int .i64 ((k : Nat) : Int))) (.pointer (some ⟨0, k * 2, some (n * 2)⟩)) (idx_rowL (by kernel_rfl) (by omega)) ?_
        have hx6l : k < l.length := by omega
        refine Exists.elim (get_ex hx6l) fun x6 hx6 => ?_
        clear hx6l
        refine dM (loadV Try.cfg ((St.empty 0).new (rowM kcells (n * 2) l)) 43 (.pointer (some ⟨0, k * 2, some (n * 2)⟩))) (.agg #[.int .i64 x6.1, .int .i64 x6.2]) (load_rowM (l := l) (mv := n * 2) (n := n) (by kernel_rfl) kcells_len (by kernel_rfl) (by omega) (by omega) hx6) ?_
        refine dK 2 ?_
        refine dE (v := .int .i64 (IntKind.wrap .i64 (((k : Nat) : Int) - 1))) (.int .i64 ((k - 1 : Nat) : Int)) (congrArg (Value.int .i64) (wrap_to (by omega) (by omega))) ?_
        refine dM (indexAddrV Try.cfg 32 (slL 0 2 n) (.int .i64 ((k - 1 : Nat) : Int))) (.pointer (some ⟨0, (k - 1) * 2, some (n * 2)⟩)) (idx_rowL (by kernel_rfl) (by omega)) ?_
        have hx7l : (k - 1) < l.length := by omega
        refine Exists.elim (get_ex hx7l) fun x7 hx7 => ?_
        clear hx7l
        refine dM (loadV Try.cfg ((St.empty 0).new (rowM kcells (n * 2) l)) 43 (.pointer (some ⟨0, (k - 1) * 2, some (n * 2)⟩))) (.agg #[.int .i64 x7.1, .int .i64 x7.2]) (load_rowM (l := l) (mv := n * 2) (n := n) (by kernel_rfl) kcells_len (by kernel_rfl) (by omega) (by omega) hx7) ?_
        refine dT (fun h8 => ?_) (fun h8 => ?_)
        · have c9e : (((x6.1 == x7.1) && ((x6.2 == x7.2) && true))) = true := Eq.trans (by kernel_rfl) h8
          clear h8
          have c9 : x6.1 = x7.1 ∧ x6.2 = x7.2 := ⟨eq_of_beq (and_l c9e), eq_of_beq (and_l (and_r c9e))⟩
          clear c9e
          refine ald_nil ?_
          refine kT ?_
          refine sk_seq ?_
          refine sk_regionL Try.cfgOk hS ?_
          refine aK 2 ?_
          refine aM (sliceV Try.cfg 32 (slL 0 2 n) (some (.int .i64 ((k : Nat) : Int))) none none) (ssL 0 2 k (n - k) n) (cut_lo_row (m := k) (by kernel_rfl) (by omega)) ?_
          refine aN ?_
          refine sk_seq (sk_seq ?_)
          refine kK Try.cfgOk hS ?_
          refine sk_block ?_
          refine sk_live 61 ((fun a : Nat × Nat × (List Key) => [(0, slL 0 2 n), (3, .int .i64 ((a.1 : Nat) : Int)), (4, ssL 0 2 k (n - k) n), (5, .int .i64 ((a.2.1 : Nat) : Int))]) (k, 1, l)) (by kernel_rfl) ⟨by kernel_rfl, by kernel_rfl, by kernel_rfl, by kernel_rfl, trivial⟩ fun m10 => ?_
          refine sk_st ((fun a : Nat × Nat × (List Key) => ((St.empty 0).new (rowM kcells (n * 2) a.2.2))) (k, 1, l)) (by kernel_rfl) ?_
          refine (sk_while (k := 1) (N := 400) (live := (fun a : Nat × Nat × (List Key) => [(0, slL 0 2 n), (3, .int .i64 ((a.1 : Nat) : Int)), (4, ssL 0 2 k (n - k) n), (5, .int .i64 ((a.2.1 : Nat) : Int))])) (M := (fun a : Nat × Nat × (List Key) => ((St.empty 0).new (rowM kcells (n * 2) a.2.2)))) (fun a : Nat × Nat × (List Key) => (1 ≤ a.2.1) ∧ (k + a.2.1 ≤ n) ∧ (k ≤ a.1) ∧ (a.1 + 1 ≤ k + a.2.1) ∧ (a.2.2.length = n) ∧ (∀ i, a.1 ≤ i → a.2.2[i]? = l[i]?) ∧ (a.2.2.take a.1 = dd (l.take (k + a.2.1)))) (fun a : Nat × Nat × (List Key) => n - (k + a.2.1)) (fun (a : Nat × Nat × (List Key)) (o : Out) (lv : List (Nat × Value)) (M : St) => (o = .exit 2 ∧ (¬ k + a.2.1 < n) ∧ lv = [(0, slL 0 2 n), (3, .int .i64 ((a.1 : Nat) : Int)), (4, ssL 0 2 k (n - k) n), (5, .int .i64 ((a.2.1 : Nat) : Int))] ∧ M = ((St.empty 0).new (rowM kcells (n * 2) a.2.2)))) (Nat.zero_le _) (fun a ha => ?_) (fun a ha => ?_) (fun a m ha => ?_) (fun a m ha => ?_) (k, 1, l) m10 ?_).up ?_
          · exact ⟨by kernel_rfl, ((wf_empty 0).new _), (selfs (all_cons (o := rowM kcells (n * 2) a.2.2) (by kernel_rfl) (OSub.arr (subs_clo (flatL_clo kcells_clo))) (all_none)))⟩
          · exact ⟨.slice ⟨by decide, rfl⟩, sub_clo rfl, .slice ⟨by decide, rfl⟩, sub_clo rfl, trivial⟩
          · exact ⟨by kernel_rfl, by kernel_rfl, by kernel_rfl, by kernel_rfl, trivial⟩
          · obtain ⟨q, j, r⟩ := a
            obtain ⟨i0, i1, i2, i3, i4, i5, i6⟩ := ha
            dsimp only at i0 i1 i2 i3 i4 i5 i6
            refine sk_seq (sk_seq ?_)
            refine sk_regionL Try.cfgOk hS ?_
            refine aK 3 ?_
            refine aT (fun h11 => ?_) (fun h11 => ?_)
            · have c12e : (decide ((((j : Nat) : Int) : Int) < ((n - k : Nat) : Int))) = true := Eq.trans (by kernel_rfl) h11
              clear h11
              have c12 : (((j : Nat) : Int) : Int) < ((n - k : Nat) : Int) := of_decide_eq_true c12e
              clear c12e
              refine al_nil ?_
              refine kT ?_
              refine sk_skip (sk_seq (sk_block (sk_seq ?_)))
              refine sk_drawL Try.cfgOk hS ?_
              refine dK 2 ?_
              refine dM (indexAddrV Try.cfg 32 (ssL 0 2 k (n - k) n) (.int .i64 ((j : Nat) : Int))) (.pointer (some ⟨0, (k + j) * 2, some (n * 2)⟩)) (idx_ssE (by kernel_rfl) (by omega) (by omega)) ?_
              have hx13l : (k + j) < r.length := by omega
              refine Exists.elim (get_ex hx13l) fun x13 hx13 => ?_
              clear hx13l
              refine dM (loadV Try.cfg ((St.empty 0).new (rowM kcells (n * 2) r)) 43 (.pointer (some ⟨0, (k + j) * 2, some (n * 2)⟩))) (.agg #[.int .i64 x13.1, .int .i64 x13.2]) (load_rowM (l := r) (mv := n * 2) (n := n) (by kernel_rfl) kcells_len (by kernel_rfl) (by omega) (by omega) hx13) ?_
              refine dK 2 ?_
              refine dE (v := .int .i64 (IntKind.wrap .i64 (((j : Nat) : Int) - 1))) (.int .i64 ((j - 1 : Nat) : Int)) (congrArg (Value.int .i64) (wrap_to (by omega) (by omega))) ?_
              refine dM (indexAddrV Try.cfg 32 (ssL 0 2 k (n - k) n) (.int .i64 ((j - 1 : Nat) : Int))) (.pointer (some ⟨0, (k + j - 1) * 2, some (n * 2)⟩)) (idx_ssE (by kernel_rfl) (by omega) (by omega)) ?_
              have hx14l : (k + j - 1) < r.length := by omega
              refine Exists.elim (get_ex hx14l) fun x14 hx14 => ?_
              clear hx14l
              refine dM (loadV Try.cfg ((St.empty 0).new (rowM kcells (n * 2) r)) 43 (.pointer (some ⟨0, (k + j - 1) * 2, some (n * 2)⟩))) (.agg #[.int .i64 x14.1, .int .i64 x14.2]) (load_rowM (l := r) (mv := n * 2) (n := n) (by kernel_rfl) kcells_len (by kernel_rfl) (by omega) (by omega) hx14) ?_
              refine dT (fun h15 => ?_) (fun h15 => ?_)
              · have c16e : (!((x13.1 == x14.1) && ((x13.2 == x14.2) && true))) = true := Eq.trans (by kernel_rfl) h15
                clear h15
                have c16 : ¬ (x13.1 = x14.1 ∧ x13.2 = x14.2) := fun q => Bool.noConfusion (((not_t c16e)).symm.trans (and_i (beq_iff_eq.2 q.1) (and_i (beq_iff_eq.2 q.2) (rfl))))
                clear c16e
                refine ald_nil ?_
                refine kT ?_
                refine sk_seq ?_
                refine sk_regionL Try.cfgOk hS ?_
                refine aK 4 ?_
                refine aM (indexAddrV Try.cfg 32 (ssL 0 2 k (n - k) n) (.int .i64 ((j : Nat) : Int))) (.pointer (some ⟨0, (k + j) * 2, some (n * 2)⟩)) (idx_ssE (by kernel_rfl) (by omega) (by omega)) ?_
                refine aM (loadV Try.cfg ((St.empty 0).new (rowM kcells (n * 2) r)) 43 (.pointer (some ⟨0, (k + j) * 2, some (n * 2)⟩))) (.agg #[.int .i64 x13.1, .int .i64 x13.2]) (load_rowM (l := r) (mv := n * 2) (n := n) (by kernel_rfl) kcells_len (by kernel_rfl) (by omega) (by omega) hx13) ?_
                refine aM (indexAddrV Try.cfg 32 (slL 0 2 n) (.int .i64 ((q : Nat) : Int))) (.pointer (some ⟨0, q * 2, some (n * 2)⟩)) (idx_rowL (by kernel_rfl) (by omega)) ?_
                refine al_opF (v := undef) (s1 := ((St.empty 0).new (rowM kcells (n * 2) r)).set 0 (rowM kcells (n * 2) (r.set q (x13.1, x13.2)))) (by kernel_rfl) (by kernel_rfl) (Eq.trans (b := (storeV Try.cfg ((St.empty 0).new (rowM kcells (n * 2) r)) 43 (.pointer (some ⟨0, q * 2, some (n * 2)⟩)) (.agg #[.int .i64 x13.1, .int .i64 x13.2])).map fun s8 => (undef, s8)) (by kernel_rfl) (congrArg (Option.map fun s8 => (undef, s8)) (store_rowM (f := kcells) (l := r) (n := n) (i := q) (mv := n * 2) (x := (x13.1, x13.2)) (by kernel_rfl) kcells_len kcells_one (by kernel_rfl) (by omega) (by omega) (by omega)))) ?_
                refine al_nil ?_
                refine sk_regionL Try.cfgOk hS ?_
                refine aK 1 ?_
                refine aE (v := .int .i64 (IntKind.wrap .i64 (((q : Nat) : Int) + 1))) (.int .i64 ((q + 1 : Nat) : Int)) (congrArg (Value.int .i64) (wrap_to (by omega) (by omega))) ?_
                refine aN ?_
                refine sk_regionL Try.cfgOk hS ?_
                refine aK 1 ?_
                refine aE (v := .int .i64 (IntKind.wrap .i64 (((j : Nat) : Int) + 1))) (.int .i64 ((j + 1 : Nat) : Int)) (congrArg (Value.int .i64) (wrap_to (by omega) (by omega))) ?_
                refine aN ?_
                refine .inl ⟨(q + 1, j + 1, (r.set q (x13.1, x13.2))), rfl, ⟨?_, ?_, ?_, ?_, ?_, ?_, ?_⟩, ?_, ⟨by kernel_rfl, ⟨by kernel_rfl, by kernel_rfl, by kernel_rfl, by kernel_rfl, trivial⟩, ⟨.slice ⟨by decide, rfl⟩, sub_clo rfl, .slice ⟨by decide, rfl⟩, sub_clo rfl, trivial⟩, Nat.le_of_ble_eq_true (by kernel_rfl), ⟨by kernel_rfl, ((wf_empty 0).new _), (selfs (all_cons (o := rowM kcells (n * 2) (r.set q (x13.1, x13.2))) (by kernel_rfl) (OSub.arr (subs_clo (flatL_clo kcells_clo))) (all_none)))⟩, mem_all (by kernel_rfl)⟩⟩
                · (try dsimp only); omega
                · (try dsimp only); omega
                · (try dsimp only); omega
                · (try dsimp only); omega
                · (try dsimp only); first | assumption | (rw [List.length_set]; assumption)
                · (try dsimp only); first | exact i5 | (intro i hi; rw [set_after hi]; exact i5 i (by omega))
                · (try dsimp only); first | exact in_ne i6 i5 (by assumption) (by assumption) (by omega) (by omega) (by omega) (by omega) | exact in_eq i6 i5 (by assumption) (by assumption) (by omega) (by omega) (by omega)
                · dsimp only; omega
              · have c16e : (!((x13.1 == x14.1) && ((x13.2 == x14.2) && true))) = false := Eq.trans (by kernel_rfl) h15
                clear h15
                have c16 : x13.1 = x14.1 ∧ x13.2 = x14.2 := ⟨eq_of_beq (and_l (not_f c16e)), eq_of_beq (and_l (and_r (not_f c16e)))⟩
                clear c16e
                refine ald_nil ?_
                refine kF ?_
                refine sk_skip ?_
                refine sk_regionL Try.cfgOk hS ?_
                refine aK 1 ?_
                refine aE (v := .int .i64 (IntKind.wrap .i64 (((j : Nat) : Int) + 1))) (.int .i64 ((j + 1 : Nat) : Int)) (congrArg (Value.int .i64) (wrap_to (by omega) (by omega))) ?_
                refine aN ?_
                refine .inl ⟨(q, j + 1, r), rfl, ⟨?_, ?_, ?_, ?_, ?_, ?_, ?_⟩, ?_, ⟨by kernel_rfl, ⟨by kernel_rfl, by kernel_rfl, by kernel_rfl, by kernel_rfl, trivial⟩, ⟨.slice ⟨by decide, rfl⟩, sub_clo rfl, .slice ⟨by decide, rfl⟩, sub_clo rfl, trivial⟩, Nat.le_of_ble_eq_true (by kernel_rfl), ⟨by kernel_rfl, ((wf_empty 0).new _), (selfs (all_cons (o := rowM kcells (n * 2) r) (by kernel_rfl) (OSub.arr (subs_clo (flatL_clo kcells_clo))) (all_none)))⟩, mem_all (by kernel_rfl)⟩⟩
                · (try dsimp only); omega
                · (try dsimp only); omega
                · (try dsimp only); omega
                · (try dsimp only); omega
                · (try dsimp only); first | assumption | (rw [List.length_set]; assumption)
                · (try dsimp only); first | exact i5 | (intro i hi; rw [set_after hi]; exact i5 i (by omega))
                · (try dsimp only); first | exact in_ne i6 i5 (by assumption) (by assumption) (by omega) (by omega) (by omega) (by omega) | exact in_eq i6 i5 (by assumption) (by assumption) (by omega) (by omega) (by omega)
                · dsimp only; omega
            · have c12e : (decide ((((j : Nat) : Int) : Int) < ((n - k : Nat) : Int))) = false := Eq.trans (by kernel_rfl) h11
              clear h11
              have c12 : ¬ (((j : Nat) : Int) : Int) < ((n - k : Nat) : Int) := of_decide_eq_false c12e
              clear c12e
              refine al_nil ?_
              refine kF ?_
              refine sk_exit ?_
              dsimp only
              refine .inr ⟨_, _, (fun h => by cases h), ⟨rfl, ?_, rfl, rfl⟩, ⟨by kernel_rfl, ⟨by kernel_rfl, by kernel_rfl, by kernel_rfl, by kernel_rfl, trivial⟩, ⟨.slice ⟨by decide, rfl⟩, sub_clo rfl, .slice ⟨by decide, rfl⟩, sub_clo rfl, trivial⟩, Nat.le_of_ble_eq_true (by kernel_rfl), ⟨by kernel_rfl, ((wf_empty 0).new _), (selfs (all_cons (o := rowM kcells (n * 2) r) (by kernel_rfl) (OSub.arr (subs_clo (flatL_clo kcells_clo))) (all_none)))⟩, mem_all (by kernel_rfl)⟩⟩
              · omega
          · exact ⟨by ((try dsimp only); first | done | (omega)), by ((try dsimp only); first | done | (omega)), by ((try dsimp only); first | done | (omega)), by ((try dsimp only); first | done | (omega)), by ((try dsimp only); first | done | (omega)), by ((try dsimp only); first | done | (exact fun _ _ => rfl)), by ((try dsimp only); first | done | (rw [dd_at (by omega) (by assumption) (by assumption), if_pos (by first | exact (Prod.ext_iff.2 c4).symm | exact Eq.symm (Prod.ext (by omega) (by omega))), i2]))⟩
          rintro o e1 s1 ⟨a, lv1, M1, m10, ha, ⟨rfl, hx, rfl, rfl⟩, rfl, rfl⟩
          obtain ⟨q, j, r⟩ := a
          obtain ⟨i0, i1, i2, i3, i4, i5, i6⟩ := ha
          dsimp only at hx i0 i1 i2 i3 i4 i5 i6
          dsimp only
          try rw [if_pos rfl]
          refine sk_seq ?_
          refine sk_regionL Try.cfgOk hS ?_
          refine aK 2 ?_
          refine aM (sliceV Try.cfg 32 (slL 0 2 n) (some (.int .i64 ((q : Nat) : Int))) none none) (ssL 0 2 q (n - q) n) (cut_lo_row (m := q) (by kernel_rfl) (by omega)) ?_
          refine al_opF (v := .tuple #[]) (s1 := ((St.empty 0).new (rowM kcells (n * 2) r)).set 0 (rowM kcells (n * 2) (r.take q ++ List.replicate (n - q) (0, 0)))) (by kernel_rfl) (by kernel_rfl) (Eq.trans (b := builtinV Try.cfg ((St.empty 0).new (rowM kcells (n * 2) r)) .clear #[32] [ssL 0 2 q (n - q) n]) (by kernel_rfl) (clear_ss (f := kcells) (l := r) (z := (0, 0)) (mv := n * 2) (by kernel_rfl) kcells_len kcells_one (by kernel_rfl) (by omega) (by omega) (by omega) (by omega))) ?_
          refine al_nil ?_
          refine sk_seq ?_
          refine sk_regionL Try.cfgOk hS ?_
          refine aK 2 ?_
          refine aM (sliceV Try.cfg 32 (slL 0 2 n) none (some (.int .i64 ((q : Nat) : Int))) none) (ssL 0 2 0 q n) (cut_hi_row (m := q) (by kernel_rfl) (by omega)) ?_
          refine aN ?_
          refine sk_ret ?_
          refine .inr ⟨_, _, (fun h => by cases h), .inr ⟨rfl, q, (r.take q ++ List.replicate (n - q) (0, 0)), ?_, rfl, rfl⟩, ⟨by kernel_rfl, ⟨by kernel_rfl, trivial⟩, ⟨.slice ⟨by decide, rfl⟩, trivial⟩, Nat.le_of_ble_eq_true (by kernel_rfl), ⟨by kernel_rfl, ((wf_empty 0).new _), (selfs (all_cons (o := rowM kcells (n * 2) (r.take q ++ List.replicate (n - q) (0, 0))) (by kernel_rfl) (OSub.arr (subs_clo (flatL_clo kcells_clo))) (all_none)))⟩, mem_all (by kernel_rfl)⟩⟩
          · exact cut_row (by assumption) hx (by omega) (by assumption) (by omega) (by omega)
        · have c9e : (((x6.1 == x7.1) && ((x6.2 == x7.2) && true))) = false := Eq.trans (by kernel_rfl) h8
          clear h8
          have c9 : ¬ (x6.1 = x7.1 ∧ x6.2 = x7.2) := fun q => Bool.noConfusion ((c9e).symm.trans (and_i (beq_iff_eq.2 q.1) (and_i (beq_iff_eq.2 q.2) (rfl))))
          clear c9e
          refine ald_nil ?_
          refine kF ?_
          refine sk_skip ?_
          refine sk_regionL Try.cfgOk hS ?_
          refine aK 1 ?_
          refine aE (v := .int .i64 (IntKind.wrap .i64 (((k : Nat) : Int) + 1))) (.int .i64 ((k + 1 : Nat) : Int)) (congrArg (Value.int .i64) (wrap_to (by omega) (by omega))) ?_
          refine aN ?_
          refine .inl ⟨k + 1, rfl, ⟨?_, ?_, ?_⟩, ?_, ⟨by kernel_rfl, ⟨by kernel_rfl, by kernel_rfl, trivial⟩, ⟨.slice ⟨by decide, rfl⟩, sub_clo rfl, trivial⟩, Nat.le_of_ble_eq_true (by kernel_rfl), ⟨by kernel_rfl, ((wf_empty 0).new _), (selfs (all_cons (o := rowM kcells (n * 2) l) (by kernel_rfl) (OSub.arr (subs_clo (flatL_clo kcells_clo))) (all_none)))⟩, mem_all (by kernel_rfl)⟩⟩
          · (try dsimp only); omega
          · (try dsimp only); omega
          · (try dsimp only); rw [dd_at (by omega) (by assumption) (by assumption), if_neg (fun e => by first | omega | (subst e; simp_all)), i2, List.take_add_one]; simp_all
          · omega
      · have c5e : (decide ((((k : Nat) : Int) : Int) < ((n : Nat) : Int))) = false := Eq.trans (by kernel_rfl) h4
        clear h4
        have c5 : ¬ (((k : Nat) : Int) : Int) < ((n : Nat) : Int) := of_decide_eq_false c5e
        clear c5e
        refine al_nil ?_
        refine kF ?_
        refine sk_exit ?_
        dsimp only
        refine .inr ⟨_, _, (fun h => by cases h), .inl ⟨rfl, ?_, rfl, rfl⟩, ⟨by kernel_rfl, ⟨by kernel_rfl, by kernel_rfl, trivial⟩, ⟨.slice ⟨by decide, rfl⟩, sub_clo rfl, trivial⟩, Nat.le_of_ble_eq_true (by kernel_rfl), ⟨by kernel_rfl, ((wf_empty 0).new _), (selfs (all_cons (o := rowM kcells (n * 2) l) (by kernel_rfl) (OSub.arr (subs_clo (flatL_clo kcells_clo))) (all_none)))⟩, mem_all (by kernel_rfl)⟩⟩
        · omega
    · exact ⟨by ((try dsimp only); first | done | (omega)), by ((try dsimp only); first | done | (omega)), by ((try dsimp only); first | done | (first | rfl | (match l with | [] => rfl | x :: _ => rfl)))⟩
    rintro o e1 s1 ⟨a, lv1, M1, m3, ha, (⟨rfl, hx, rfl, rfl⟩ | ⟨rfl, q, w, hx, rfl, rfl⟩), rfl, rfl⟩
    ·
      obtain ⟨k, ea⟩ : ∃ z, z = a := ⟨_, rfl⟩
      subst ea
      obtain ⟨i0, i1, i2⟩ := ha
      dsimp only
      try rw [if_pos rfl]
      refine sk_seq ?_
      refine kK Try.cfgOk hS ?_
      refine sk_ret ?_
      exact ⟨[slL 0 2 n], by kernel_rfl, (show (slL 0 2 n : Value) = ssL 0 2 0 ((dd l).length) n by first | exact ss_all (dd_small (by omega)) h0 | exact ss_all (dd_end i2 (by omega)) h0 | rw [hx.1]), Nat.le_of_ble_eq_true (by kernel_rfl), all1 (Eq.trans (b := some (rowM kcells (n * 2) l)) (by kernel_rfl) (congrArg some (show ((rowM kcells (n * 2) l) : AObj) = rowM kcells (n * 2) (dd l ++ List.replicate (n - (dd l).length) (0, 0)) by first | exact row_all (dd_small (by omega)) h0 | exact row_all (dd_end i2 (by omega)) h0 | rw [hx.2])))⟩
    ·
      obtain ⟨k, ea⟩ : ∃ z, z = a := ⟨_, rfl⟩
      subst ea
      obtain ⟨i0, i1, i2⟩ := ha
      dsimp only
      exact ⟨[ssL 0 2 0 q n], by kernel_rfl, (show (ssL 0 2 0 q n : Value) = ssL 0 2 0 ((dd l).length) n by first | exact ss_all (dd_small (by omega)) h0 | exact ss_all (dd_end i2 (by omega)) h0 | rw [hx.1]), Nat.le_of_ble_eq_true (by kernel_rfl), all1 (Eq.trans (b := some (rowM kcells (n * 2) w)) (by kernel_rfl) (congrArg some (show ((rowM kcells (n * 2) w) : AObj) = rowM kcells (n * 2) (dd l ++ List.replicate (n - (dd l).length) (0, 0)) by first | exact row_all (dd_small (by omega)) h0 | exact row_all (dd_end i2 (by omega)) h0 | rw [hx.2])))⟩
noncomputable def sm_compactK : Small Try.prog 0 44 (Nat × (List Key)) where
  k := 1
  A := fun z9 ρ => [slL (ρ 0) 2 z9.1]
  M := fun z9 ρ => objL [rowM kcells (z9.1 * 2) z9.2]
  M1 := fun z9 ρ => objL [rowM kcells (z9.1 * 2) (dd z9.2 ++ List.replicate (z9.1 - (dd z9.2).length) (0, 0))]
  V := fun z9 ρ => ssL (ρ 0) 2 0 ((dd z9.2).length) z9.1
  Pre := fun z9 => (z9.1 = z9.2.length) ∧ (z9.1 ≤ 1000000)
  ch := [0]
  N := 400
  s0 := fun z9 => ((St.empty 0).new (rowM kcells (z9.1 * 2) z9.2))
  hch := by decide
  hsame := fun x ρ => all1 (fun h => absurd (by decide) h)
  hG := rfl
  hn := fun x => rfl
  hwf := fun x => ((wf_empty 0).new _)
  hget := fun x => all1 (by kernel_rfl)
  noloop := fun x ρ => all1 (fun h => h.elim)
  inA := fun x ρ R hR => .cons (.slice (hR 0 _ (by decide))) .nil
  inM := fun x ρ R hR => all1 (OSub.arr (subs_clo (flatL_clo kcells_clo)))
  outM := fun x ρ R hR => all1 (OSub.arr (subs_clo (flatL_clo kcells_clo)))
  outV := fun x ρ R hR => .slice (hR 0 _ (by decide))
  dom := by
    intro x ρ a ha
    obtain rfl := List.mem_singleton.1 ha
    exact .inr fun h => h
  sc := by
    rintro ⟨a0, a1⟩ ⟨p0, p1⟩
    exact compactK_sc a0 a1 p0 p1
  det := by
    rintro ⟨a0, a1⟩ ρ ⟨b0, b1⟩ σ s h hm hm'
    simp only [List.cons.injEq, and_true, Int.natCast_inj, UInt8.toNat_inj, Value.int.injEq, Value.bool.injEq, Value.string.injEq, Value.agg.injEq, Array.mk.injEq, true_and, Value.pointer.injEq, Option.some.injEq, Addr.mk.injEq, Value.func.injEq, AObj.cells.injEq, AObj.arr.injEq, slL_iff, kcells_rowm] at h
    have q0 : ρ 0 = σ 0 := by simp_all
    have e0 := (hm 0 (by decide)).symm.trans ((congrArg s.get q0).trans (hm' 0 (by decide)))
    simp only [objL, List.getD_cons_zero, List.getD_cons_succ, List.cons.injEq, and_true, Int.natCast_inj, UInt8.toNat_inj, Value.int.injEq, Value.bool.injEq, Value.string.injEq, Value.agg.injEq, Array.mk.injEq, true_and, Value.pointer.injEq, Option.some.injEq, Addr.mk.injEq, Value.func.injEq, AObj.cells.injEq, AObj.arr.injEq, slL_iff, kcells_rowm] at e0
    have q : ∀ a, a < 1 → ρ a = σ a := all1 q0
    clear hm hm'
    exact ⟨by first | rfl | (simp_all [Prod.ext_iff]; done) | exact e0, q⟩
  par := by
    intro x ρ σ h
    have h0 := h 0 (by decide)
    exact ⟨by first | rfl | simp only [h0], by first | exact fun _ _ => rfl | (intro a ha; simp only [h0])⟩
noncomputable def con_compactK : Con Try.prog 0 := sm_compactK.con
theorem con_compactK_at (n : Nat) (l : List Key) (i0 : Nat) (h0 : n = l.length) (h1 : n ≤ 1000000) (s : St) (hn : nodupB [i0] = true) (m0 : s.get i0 = some (rowM kcells (n * 2) l)) : con_compactK.rel [slL i0 2 n] s (ssL i0 2 0 ((dd l).length) n) (s.set i0 (rowM kcells (n * 2) (dd l ++ List.replicate (n - (dd l).length) (0, 0)))) :=
  sm_compactK.at_ (n, l) [i0] s _ ⟨h0, h1⟩ rfl hn rfl (all1 m0) rfl rfl
end Go.Proofs.Ytfpkfcdeoiofiaa