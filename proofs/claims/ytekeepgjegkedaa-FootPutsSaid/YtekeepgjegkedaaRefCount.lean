/- The bytes of a count, after the document. -/
import Derived.Test.YtekeepgjegkedaaWriter
set_option linter.unusedVariables false
set_option linter.unusedSimpArgs false
set_option linter.unnecessarySimpa false
namespace Go.Proofs.Ytekeepgjegkedaa
open Go.Ai
theorem rcount_fn : Try.cfg.fn 62 = some Try.f62 := by kernel_rfl
set_option maxHeartbeats 4000000 in
set_option maxRecDepth 100000 in
theorem rcount_sc (x0 : Nat) (h0 : x0 < 18446744073709551616) : SC Try.prog 0 62 [.int .u64 ((x0 : Nat) : Int)] (St.empty 0) fun v s' => ∃ σ : Nat → Nat, (∀ a, a < 0 → σ a = a) ∧ (∀ a, 0 ≤ a → a < 0 + 1 → 0 ≤ σ a ∧ σ a < s'.n) ∧ (∀ a b, a < 0 + 1 → b < 0 + 1 → σ a = σ b → a = b) ∧ v = slL (σ 0) 1 ((uv x0).length) ∧ s'.n ≤ 400 ∧ ∀ a, a < 0 + 1 → s'.get (σ a) = some (objL [rowL bcells (uv x0)] a) := by
  have hS := sound_run Try.cfgOk 300
  refine sc_body Try.cfgOk rcount_fn rfl ?_
  repeat' (with_reducible first | refine sk_seq ?_ | refine sk_block ?_ | refine sk_skip ?_ | refine sk_scope ?_)
  refine sk_regionK Try.cfgOk hS (by kernel_rfl) ?_
  repeat' (with_reducible first | refine sk_seq ?_ | refine sk_block ?_ | refine sk_skip ?_ | refine sk_scope ?_)
  refine sk_regionK Try.cfgOk hS (by kernel_rfl) ?_
  repeat' (with_reducible first | refine sk_seq ?_ | refine sk_block ?_ | refine sk_skip ?_ | refine sk_scope ?_)
  refine sk_live 20 [(0, .int .u64 ((x0 : Nat) : Int)), (3, .slice none 0 0)] (by kernel_rfl) ⟨by kernel_rfl, by kernel_rfl, trivial⟩ fun m1 => ?_
  refine sk_st (St.empty 0) (by kernel_rfl) ?_
  refine virt_at (n := 20) (t := 3) (sz := 1) [(0, .int .u64 ((x0 : Nat) : Int)), (3, slL 0 1 0)] (by decide) (wf_empty 0) (by kernel_rfl) (by kernel_rfl) (by kernel_rfl) fun m1v => ?_
  refine sk_live 20 ((fun a : Nat × (List UInt8) => [(0, .int .u64 ((a.1 : Nat) : Int)), (3, slL 0 1 a.2.length)]) (x0, ([] : List UInt8))) (by kernel_rfl) ⟨by kernel_rfl, by kernel_rfl, trivial⟩ fun m2 => ?_
  refine sk_st ((fun a : Nat × (List UInt8) => ((St.empty 0).new (rowL bcells a.2))) (x0, ([] : List UInt8))) (by kernel_rfl) ?_
  refine (sk_while (k := 1) (N := 400) (live := (fun a : Nat × (List UInt8) => [(0, .int .u64 ((a.1 : Nat) : Int)), (3, slL 0 1 a.2.length)])) (M := (fun a : Nat × (List UInt8) => ((St.empty 0).new (rowL bcells a.2)))) (fun a : Nat × (List UInt8) => (a.2 ++ uv a.1 = uv x0) ∧ (a.1 < 18446744073709551616) ∧ (a.2.length + (uv a.1).length ≤ 10)) (fun a : Nat × (List UInt8) => a.1) (fun (a : Nat × (List UInt8)) (o : Out) (lv : List (Nat × Value)) (M : St) => (o = .exit 0 ∧ (a.1 < 128) ∧ lv = [(0, .int .u64 ((a.1 : Nat) : Int)), (3, slL 0 1 a.2.length)] ∧ M = ((St.empty 0).new (rowL bcells a.2)))) (Nat.zero_le _) (fun a ha => ?_) (fun a ha => ?_) (fun a m ha => ?_) (fun a m ha => ?_) (x0, ([] : List UInt8)) m2 ?_).up ?_
  · exact ⟨by kernel_rfl, ((wf_empty 0).new _), (selfs (all_cons (o := rowL bcells a.2) (by kernel_rfl) (OSub.arr (subs_clo (flatL_clo bcells_clo))) (all_none)))⟩
  · exact ⟨sub_clo rfl, .slice ⟨by decide, rfl⟩, trivial⟩
  · exact ⟨by kernel_rfl, by kernel_rfl, trivial⟩
  · obtain ⟨x, l⟩ := a
    obtain ⟨i0, i1, i2⟩ := ha
    dsimp only at i0 i1 i2
    repeat' (with_reducible first | refine sk_seq ?_ | refine sk_block ?_ | refine sk_skip ?_ | refine sk_scope ?_)
    refine sk_regionL Try.cfgOk hS ?_
    refine al_chunk 1 (by kernel_rfl) ?_
    refine al_test (by kernel_rfl) (by kernel_rfl) (by kernel_rfl) (fun h3 => ?_) (fun h3 => ?_)
    · have c4e : (decide ((((x : Nat) : Int) : Int) ≥ 128)) = true := Eq.trans (by kernel_rfl) h3
      clear h3
      have c4 : (((x : Nat) : Int) : Int) ≥ 128 := of_decide_eq_true c4e
      clear c4e
      refine al_nil ?_
      repeat' (with_reducible first | refine sk_seq ?_ | refine sk_block ?_ | refine sk_skip ?_ | refine sk_scope ?_)
      refine sk_true (by kernel_rfl) ?_
      repeat' (with_reducible first | refine sk_seq ?_ | refine sk_block ?_ | refine sk_skip ?_ | refine sk_scope ?_)
      refine sk_regionL Try.cfgOk hS ?_
      refine al_chunk 2 (by kernel_rfl) ?_
      refine al_eqv (v := .int .u64 (Int.tmod ((x : Nat) : Int) 128)) (.int .u64 ((x % 128 : Nat) : Int)) (by kernel_rfl) (by kernel_rfl) (by kernel_rfl) (congrArg (Value.int .u64) (rem_nat (y := 128) rfl)) ?_
      refine al_eqv (v := .int .u64 (IntKind.wrap .u64 (((x % 128 : Nat) : Int) + 128))) (.int .u64 ((x % 128 + 128 : Nat) : Int)) (by kernel_rfl) (by kernel_rfl) (by kernel_rfl) (congrArg (Value.int .u64) (u64_to (by omega) (by omega))) ?_
      refine al_eqv (v := .int .u8 (IntKind.wrap .u8 ((x % 128 + 128 : Nat) : Int))) (.int .u8 (((UInt8.ofNat (x % 128 + 128)).toNat : Nat) : Int)) (by kernel_rfl) (by kernel_rfl) (by kernel_rfl) (congrArg (Value.int .u8) (wrap_u8n _)) ?_
      refine al_chunk 1 (by kernel_rfl) ?_
      refine al_opF (v := slL 0 1 (l ++ [(UInt8.ofNat (x % 128 + 128))]).length) (s1 := (((St.empty 0).new (rowL bcells l)).new (.arr [.int .u8 (((UInt8.ofNat (x % 128 + 128)).toNat : Nat) : Int)] 0 false)).set 0 (rowL bcells (l ++ [(UInt8.ofNat (x % 128 + 128))]))) (by kernel_rfl) (by kernel_rfl) (Eq.trans (b := appendV Try.cfg (((St.empty 0).new (rowL bcells l)).new (.arr [.int .u8 (((UInt8.ofNat (x % 128 + 128)).toNat : Nat) : Int)] 0 false)) 42 (slL 0 1 l.length) (.slice (some ⟨1, 0, some 1⟩) 1 1)) (by kernel_rfl) (app_rowL (l := l) (l2 := [(UInt8.ofNat (x % 128 + 128))]) (bytes := 1) tokC (by kernel_rfl) bcells_len bcells_one (by kernel_rfl) (by kernel_rfl) (by kernel_rfl) (by (try simp only [List.length_cons, List.length_nil, List.length_append]); omega))) ?_
      refine al_known (by kernel_rfl) ?_
      repeat' (with_reducible first | refine sk_seq ?_ | refine sk_block ?_ | refine sk_skip ?_ | refine sk_scope ?_)
      refine sk_regionL Try.cfgOk hS ?_
      refine al_chunk 1 (by kernel_rfl) ?_
      refine al_eqv (v := .int .u64 (IntKind.wrap .u64 (Int.tdiv ((x : Nat) : Int) 128))) (.int .u64 ((x / 128 : Nat) : Int)) (by kernel_rfl) (by kernel_rfl) (by kernel_rfl) (congrArg (Value.int .u64) (quo_nat (y := 128) (by omega) rfl)) ?_
      refine al_known (by kernel_rfl) ?_
      repeat' (with_reducible first | refine sk_seq ?_ | refine sk_block ?_ | refine sk_skip ?_ | refine sk_scope ?_)
      refine .inl ⟨(x / 128, (l ++ [(UInt8.ofNat (x % 128 + 128))])), rfl, ⟨?_, ?_, ?_⟩, ?_, ⟨by kernel_rfl, ⟨by kernel_rfl, by kernel_rfl, trivial⟩, ⟨sub_clo rfl, .slice ⟨by decide, rfl⟩, trivial⟩, Nat.le_of_ble_eq_true (by kernel_rfl), ⟨by kernel_rfl, ((wf_empty 0).new _), (selfs (all_cons (o := rowL bcells (l ++ [(UInt8.ofNat (x % 128 + 128))])) (by kernel_rfl) (OSub.arr (subs_clo (flatL_clo bcells_clo))) (all_none)))⟩, mem_all (by kernel_rfl)⟩⟩
      · (try dsimp only); rw [← i0, uv_big (x := x) (by omega), List.append_assoc]; rfl
      · (try dsimp only); omega
      · (try dsimp only); have q := uv_len_big (x := x) (by omega); simp only [List.length_append, List.length_cons, List.length_nil]; omega
      · show x / 128 < x; omega
    · have c4e : (decide ((((x : Nat) : Int) : Int) ≥ 128)) = false := Eq.trans (by kernel_rfl) h3
      clear h3
      have c4 : ¬ (((x : Nat) : Int) : Int) ≥ 128 := of_decide_eq_false c4e
      clear c4e
      refine al_nil ?_
      repeat' (with_reducible first | refine sk_seq ?_ | refine sk_block ?_ | refine sk_skip ?_ | refine sk_scope ?_)
      refine sk_false (by kernel_rfl) ?_
      repeat' (with_reducible first | refine sk_seq ?_ | refine sk_block ?_ | refine sk_skip ?_ | refine sk_scope ?_)
      refine sk_exit ?_
      dsimp only
      refine .inr ⟨_, _, (fun h => by cases h), ⟨rfl, ?_, rfl, rfl⟩, ⟨by kernel_rfl, ⟨by kernel_rfl, by kernel_rfl, trivial⟩, ⟨sub_clo rfl, .slice ⟨by decide, rfl⟩, trivial⟩, Nat.le_of_ble_eq_true (by kernel_rfl), ⟨by kernel_rfl, ((wf_empty 0).new _), (selfs (all_cons (o := rowL bcells l) (by kernel_rfl) (OSub.arr (subs_clo (flatL_clo bcells_clo))) (all_none)))⟩, mem_all (by kernel_rfl)⟩⟩
      · omega
  · exact ⟨by ((try dsimp only); first | done | (rfl)), by ((try dsimp only); first | done | (assumption)), by ((try dsimp only); first | done | (have q := uv_len10 h0; simpa using q))⟩
  rintro o e1 s1 ⟨a, lv1, M1, m2, ha, ⟨rfl, hx, rfl, rfl⟩, rfl, rfl⟩
  obtain ⟨x, l⟩ := a
  obtain ⟨i0, i1, i2⟩ := ha
  dsimp only at hx i0 i1 i2
  dsimp only
  try rw [if_pos rfl]
  repeat' (with_reducible first | refine sk_seq ?_ | refine sk_block ?_ | refine sk_skip ?_ | refine sk_scope ?_)
  refine sk_regionL Try.cfgOk hS ?_
  refine al_chunk 2 (by kernel_rfl) ?_
  refine al_eqv (v := .int .u8 (IntKind.wrap .u8 ((x : Nat) : Int))) (.int .u8 (((UInt8.ofNat (x)).toNat : Nat) : Int)) (by kernel_rfl) (by kernel_rfl) (by kernel_rfl) (congrArg (Value.int .u8) (wrap_u8n _)) ?_
  refine al_chunk 1 (by kernel_rfl) ?_
  refine al_opF (v := slL 0 1 (l ++ [(UInt8.ofNat (x))]).length) (s1 := (((St.empty 0).new (rowL bcells l)).new (.arr [.int .u8 (((UInt8.ofNat (x)).toNat : Nat) : Int)] 0 false)).set 0 (rowL bcells (l ++ [(UInt8.ofNat (x))]))) (by kernel_rfl) (by kernel_rfl) (Eq.trans (b := appendV Try.cfg (((St.empty 0).new (rowL bcells l)).new (.arr [.int .u8 (((UInt8.ofNat (x)).toNat : Nat) : Int)] 0 false)) 42 (slL 0 1 l.length) (.slice (some ⟨1, 0, some 1⟩) 1 1)) (by kernel_rfl) (app_rowL (l := l) (l2 := [(UInt8.ofNat (x))]) (bytes := 1) tokC (by kernel_rfl) bcells_len bcells_one (by kernel_rfl) (by kernel_rfl) (by kernel_rfl) (by (try simp only [List.length_cons, List.length_nil, List.length_append]); omega))) ?_
  refine al_known (by kernel_rfl) ?_
  repeat' (with_reducible first | refine sk_seq ?_ | refine sk_block ?_ | refine sk_skip ?_ | refine sk_scope ?_)
  refine sk_ret ?_
  exact ⟨[slL 0 1 ((l ++ [(UInt8.ofNat (x))]).length)], by kernel_rfl, rhoL [0], all0 , new_rho rfl (by kernel_rfl), nodup_rho (ids := [0]) rfl, (show (slL 0 1 ((l ++ [(UInt8.ofNat (x))]).length) : Value) = slL 0 1 ((uv x0).length) by rw [← i0, uv_small hx]), Nat.le_of_ble_eq_true (by kernel_rfl), all1 (Eq.trans (b := some (rowL bcells (l ++ [(UInt8.ofNat (x))]))) (by kernel_rfl) (congrArg some (show ((rowL bcells (l ++ [(UInt8.ofNat (x))])) : AObj) = rowL bcells (uv x0) by rw [← i0, uv_small hx])))⟩
noncomputable def sm_rcount : SmallN Try.prog 0 62 (Nat) where
  k := 0
  m := 1
  A := fun z9 ρ => [.int .u64 ((z9 : Nat) : Int)]
  M := fun z9 ρ => objL []
  M1 := fun z9 ρ => objL [rowL bcells (uv z9)]
  V := fun z9 ρ => slL (ρ 0) 1 ((uv z9).length)
  Pre := fun z9 => (z9 < 18446744073709551616)
  ch := []
  N := 400
  s0 := fun z9 => (St.empty 0)
  hch := by decide
  hsame := fun x ρ => all0 
  hG := rfl
  hn := fun x => rfl
  hwf := fun x => (wf_empty 0)
  hget := fun x => all0 
  noloop := fun x ρ => all0 
  inA := fun x ρ R hR => .cons (sub_clo rfl) .nil
  inM := fun x ρ R hR => all0 
  outM := fun x σ ρ R hR => all1 (OSub.arr (subs_clo (flatL_clo bcells_clo)))
  outV := fun x σ ρ R hR => .slice (hR 0 _ (by decide))
  dom := by
    intro x ρ a ha
    cases ha
  sc := by
    rintro x p0
    exact rcount_sc x p0
  det := by
    rintro x ρ y σ s h hm hm'
    simp only [List.cons.injEq, and_true, Int.natCast_inj, Value.int.injEq, Value.bool.injEq, Value.string.injEq, Value.agg.injEq, Array.mk.injEq, true_and, Value.pointer.injEq, Option.some.injEq, Addr.mk.injEq, Value.func.injEq, AObj.cells.injEq, AObj.arr.injEq, slL_iff] at h
    have q : ∀ a, a < 0 → ρ a = σ a := all0 
    clear hm hm'
    exact ⟨by first | rfl | exact h | (simp_all [Prod.ext_iff]; done) | exact e0, q⟩
  par := by
    intro x ρ σ h
    have h0 := h 0 (by decide)
    exact ⟨by first | rfl | simp only [h0], by first | exact fun _ _ => rfl | (intro a ha; simp only [h0])⟩
noncomputable def con_rcount : Con Try.prog 0 := sm_rcount.con
theorem con_rcount_at (x0 : Nat) (i0 : Nat) (h0 : x0 < 18446744073709551616) (s : St) (hn : nodupB [] = true)  (n0 : i0 = s.n + 0) : con_rcount.rel [.int .u64 ((x0 : Nat) : Int)] s (slL i0 1 ((uv x0).length)) (s.new (rowL bcells (uv x0))) :=
  sm_rcount.at_ x0 [i0] s _ h0 rfl hn rfl (all0 ) (new_all (p := fun a b => rhoL [i0] a = s.n + b) (all1 n0)) rfl rfl
theorem folded_fn : Try.cfg.fn 82 = some Try.f82 := by kernel_rfl
set_option maxHeartbeats 4000000 in
set_option maxRecDepth 100000 in
theorem folded_sc (n : Int) (h0 : in64 n) : SC Try.prog 0 82 [.int .i64 n] (St.empty 0) fun v s' => v = .int .u64 ((fold n : Nat) : Int) ∧ s'.n ≤ 400 := by
  have hS := sound_run Try.cfgOk 300
  refine sc_ice0 (N := 400) (v2 := .int .u64 ((fold n : Nat) : Int)) (Q := fun v s' => FS 0 s' v (.int .u64 ((fold n : Nat) : Int)) ∧ s'.n ≤ 400) ?_ (fun _ _ h => h)
  refine sc_body Try.cfgOk folded_fn rfl ?_
  repeat' (with_reducible first | refine sk_seq ?_ | refine sk_block ?_ | refine sk_skip ?_ | refine sk_scope ?_)
  refine sk_regionK Try.cfgOk hS (by kernel_rfl) ?_
  repeat' (with_reducible first | refine sk_seq ?_ | refine sk_block ?_ | refine sk_skip ?_ | refine sk_scope ?_)
  refine sk_regionL Try.cfgOk hS ?_
  refine al_chunk 1 (by kernel_rfl) ?_
  refine al_test (by kernel_rfl) (by kernel_rfl) (by kernel_rfl) (fun h1 => ?_) (fun h1 => ?_)
  · have c2e : (decide ((n : Int) < 0)) = true := Eq.trans (by kernel_rfl) h1
    clear h1
    have c2 : (n : Int) < 0 := of_decide_eq_true c2e
    clear c2e
    refine al_nil ?_
    repeat' (with_reducible first | refine sk_seq ?_ | refine sk_block ?_ | refine sk_skip ?_ | refine sk_scope ?_)
    refine sk_true (by kernel_rfl) ?_
    repeat' (with_reducible first | refine sk_seq ?_ | refine sk_block ?_ | refine sk_skip ?_ | refine sk_scope ?_)
    refine sk_regionL Try.cfgOk hS ?_
    refine al_chunk 3 (by kernel_rfl) ?_
    refine al_eqv (v := .int .u64 (IntKind.wrap .u64 (IntKind.wrap .i64 (0 - (IntKind.wrap .i64 (n + 1)))))) (.int .u64 ((u64 (IntKind.wrap .i64 (0 - (IntKind.wrap .i64 (n + 1)))) : Nat) : Int)) (by kernel_rfl) (by kernel_rfl) (by kernel_rfl) (congrArg (Value.int .u64) (wrap_u64 _)) ?_
    refine al_known (by kernel_rfl) ?_
    repeat' (with_reducible first | refine sk_seq ?_ | refine sk_block ?_ | refine sk_skip ?_ | refine sk_scope ?_)
    refine sk_ret ?_
    exact ⟨[.int .u64 (IntKind.wrap .u64 ((IntKind.wrap .u64 (2 * ((u64 (IntKind.wrap .i64 (0 - (IntKind.wrap .i64 (n + 1)))) : Nat) : Int))) + 1))], by kernel_rfl, fs_to (fs_clo rfl) (congrArg (Value.int .u64) (by first | exact folded_neg h0 (by assumption) | exact folded_pos h0 (by assumption))), Nat.le_of_ble_eq_true (by kernel_rfl)⟩
  · have c2e : (decide ((n : Int) < 0)) = false := Eq.trans (by kernel_rfl) h1
    clear h1
    have c2 : ¬ (n : Int) < 0 := of_decide_eq_false c2e
    clear c2e
    refine al_nil ?_
    repeat' (with_reducible first | refine sk_seq ?_ | refine sk_block ?_ | refine sk_skip ?_ | refine sk_scope ?_)
    refine sk_false (by kernel_rfl) ?_
    repeat' (with_reducible first | refine sk_seq ?_ | refine sk_block ?_ | refine sk_skip ?_ | refine sk_scope ?_)
    refine sk_regionL Try.cfgOk hS ?_
    refine al_chunk 1 (by kernel_rfl) ?_
    refine al_eqv (v := .int .u64 (IntKind.wrap .u64 n)) (.int .u64 ((u64 n : Nat) : Int)) (by kernel_rfl) (by kernel_rfl) (by kernel_rfl) (congrArg (Value.int .u64) (wrap_u64 _)) ?_
    refine al_known (by kernel_rfl) ?_
    repeat' (with_reducible first | refine sk_seq ?_ | refine sk_block ?_ | refine sk_skip ?_ | refine sk_scope ?_)
    refine sk_ret ?_
    exact ⟨[.int .u64 (IntKind.wrap .u64 (2 * ((u64 n : Nat) : Int)))], by kernel_rfl, fs_to (fs_clo rfl) (congrArg (Value.int .u64) (by first | exact folded_neg h0 (by assumption) | exact folded_pos h0 (by assumption))), Nat.le_of_ble_eq_true (by kernel_rfl)⟩
noncomputable def con_folded : Con Try.prog 0 := Con.pure (α := Int) 82 (fun z9 => [.int .i64 z9]) (fun z9 => .int .u64 ((fold z9 : Nat) : Int)) (fun z9 => (in64 z9)) (by
  intro x y h
  simp only [List.cons.injEq, and_true, Int.natCast_inj, Value.int.injEq, Value.bool.injEq, Value.string.injEq, Value.agg.injEq, Array.mk.injEq, true_and] at h
  first | exact h | (simp only [Prod.ext_iff, h, and_self, and_true, true_and]; done) | simp_all [Prod.ext_iff]) (fun _ => rfl) (fun _ => rfl) 400 (by
  rintro x p0
  exact folded_sc x p0)
theorem con_folded_at (n : Int) (h0 : in64 n) (s : St) : con_folded.rel [.int .i64 n] s (.int .u64 ((fold n : Nat) : Int)) s := con_pure n h0 s
theorem rnum_fn : Try.cfg.fn 63 = some Try.f63 := by kernel_rfl
set_option maxHeartbeats 4000000 in
set_option maxRecDepth 100000 in
theorem rnum_sc (n : Int) (h0 : in64 n) : SC Try.prog 0 63 [.int .i64 n] (St.empty 0) fun v s' => ∃ σ : Nat → Nat, (∀ a, a < 0 → σ a = a) ∧ (∀ a, 0 ≤ a → a < 0 + 1 → 0 ≤ σ a ∧ σ a < s'.n) ∧ (∀ a b, a < 0 + 1 → b < 0 + 1 → σ a = σ b → a = b) ∧ v = slL (σ 0) 1 ((uv (fold n)).length) ∧ s'.n ≤ 400 ∧ ∀ a, a < 0 + 1 → s'.get (σ a) = some (objL [rowL bcells (uv (fold n))] a) := by
  obtain ⟨rc, hS, hC⟩ := rc_con (sound_run Try.cfgOk 300) [con_folded, con_rcount] (by kernel_rfl)
  have hC82 := hC con_folded (.head _)
  have hC62 := hC con_rcount (.tail _ (.head _))
  refine sc_body Try.cfgOk rnum_fn rfl ?_
  repeat' (with_reducible first | refine sk_seq ?_ | refine sk_block ?_ | refine sk_skip ?_ | refine sk_scope ?_)
  refine sk_regionK Try.cfgOk hS (by kernel_rfl) ?_
  repeat' (with_reducible first | refine sk_seq ?_ | refine sk_block ?_ | refine sk_skip ?_ | refine sk_scope ?_)
  refine sk_regionL Try.cfgOk hS ?_
  refine al_chunk 1 (by kernel_rfl) ?_
  refine al_callH 82 [.int .i64 n] (.int .u64 ((fold n : Nat) : Int)) _ rfl (fun b h => by cases h) (by kernel_rfl) (by kernel_rfl) (hC82 _ _ _ _ (con_folded_at n (by first | omega | assumption | exact fold_lt (by assumption)) _)) ?_
  refine al_callH 62 [.int .u64 ((fold n : Nat) : Int)] (slL 0 1 ((uv (fold n)).length)) _ rfl (fun b h => by cases h) (by kernel_rfl) (by kernel_rfl) (hC62 _ _ _ _ (con_rcount_at (fold n) 0 (by first | omega | assumption | exact fold_lt (by assumption)) _ (by kernel_rfl) (by kernel_rfl) )) ?_
  refine al_known (by kernel_rfl) ?_
  repeat' (with_reducible first | refine sk_seq ?_ | refine sk_block ?_ | refine sk_skip ?_ | refine sk_scope ?_)
  refine sk_ret ?_
  exact ⟨[slL 0 1 ((uv (fold n)).length)], by kernel_rfl, rhoL [0], all0 , new_rho rfl (by kernel_rfl), nodup_rho (ids := [0]) rfl, rfl, Nat.le_of_ble_eq_true (by kernel_rfl), all1 (by kernel_rfl)⟩
noncomputable def sm_rnum : SmallN Try.prog 0 63 (Int) where
  k := 0
  m := 1
  A := fun z9 ρ => [.int .i64 z9]
  M := fun z9 ρ => objL []
  M1 := fun z9 ρ => objL [rowL bcells (uv (fold z9))]
  V := fun z9 ρ => slL (ρ 0) 1 ((uv (fold z9)).length)
  Pre := fun z9 => (in64 z9)
  ch := []
  N := 400
  s0 := fun z9 => (St.empty 0)
  hch := by decide
  hsame := fun x ρ => all0 
  hG := rfl
  hn := fun x => rfl
  hwf := fun x => (wf_empty 0)
  hget := fun x => all0 
  noloop := fun x ρ => all0 
  inA := fun x ρ R hR => .cons (sub_clo rfl) .nil
  inM := fun x ρ R hR => all0 
  outM := fun x σ ρ R hR => all1 (OSub.arr (subs_clo (flatL_clo bcells_clo)))
  outV := fun x σ ρ R hR => .slice (hR 0 _ (by decide))
  dom := by
    intro x ρ a ha
    cases ha
  sc := by
    rintro x p0
    exact rnum_sc x p0
  det := by
    rintro x ρ y σ s h hm hm'
    simp only [List.cons.injEq, and_true, Int.natCast_inj, Value.int.injEq, Value.bool.injEq, Value.string.injEq, Value.agg.injEq, Array.mk.injEq, true_and, Value.pointer.injEq, Option.some.injEq, Addr.mk.injEq, Value.func.injEq, AObj.cells.injEq, AObj.arr.injEq, slL_iff] at h
    have q : ∀ a, a < 0 → ρ a = σ a := all0 
    clear hm hm'
    exact ⟨by first | rfl | exact h | (simp_all [Prod.ext_iff]; done) | exact e0, q⟩
  par := by
    intro x ρ σ h
    have h0 := h 0 (by decide)
    exact ⟨by first | rfl | simp only [h0], by first | exact fun _ _ => rfl | (intro a ha; simp only [h0])⟩
noncomputable def con_rnum : Con Try.prog 0 := sm_rnum.con
theorem con_rnum_at (n : Int) (i0 : Nat) (h0 : in64 n) (s : St) (hn : nodupB [] = true)  (n0 : i0 = s.n + 0) : con_rnum.rel [.int .i64 n] s (slL i0 1 ((uv (fold n)).length)) (s.new (rowL bcells (uv (fold n)))) :=
  sm_rnum.at_ n [i0] s _ h0 rfl hn rfl (all0 ) (new_all (p := fun a b => rhoL [i0] a = s.n + b) (all1 n0)) rfl rfl
end Go.Proofs.Ytekeepgjegkedaa