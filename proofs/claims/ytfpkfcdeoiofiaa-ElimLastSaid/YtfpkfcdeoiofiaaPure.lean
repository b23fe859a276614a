/- Functions of a few numbers. -/
import Derived.Test.YtfpkfcdeoiofiaaBase
set_option linter.unusedVariables false
set_option linter.unusedSimpArgs false
set_option linter.unnecessarySimpa false
namespace Go.Proofs.Ytfpkfcdeoiofiaa
open Go.Ai
def cmpI (a b : Int) : Int := if a < b then -1 else if a > b then 1 else 0
def lessK (a b : Key) : Prop := a.1 < b.1 ∨ a.1 = b.1 ∧ a.2 < b.2
instance (a b : Key) : Decidable (lessK a b) := inferInstanceAs (Decidable (_ ∨ _))
theorem isNaN_fn : Try.cfg.fn 42 = some Try.f42 := by kernel_rfl
set_option maxHeartbeats 4000000 in
set_option maxRecDepth 100000 in
theorem isNaN_sc (a : Int)  : SC Try.prog 0 42 [.int .i64 a] (St.empty 0) fun v s' => v = .bool false ∧ s'.n ≤ 400 := by
  have hS := sound_run Try.cfgOk 300
  refine sc_ice0 (N := 400) (v2 := .bool false) (Q := fun v s' => FS 0 s' v (.bool false) ∧ s'.n ≤ 400) ?_ (fun _ _ h => h)
  refine sc_body Try.cfgOk isNaN_fn rfl ?_
  refine sk_seq ?_
  refine kK Try.cfgOk hS ?_
  refine sk_seq ?_
  refine sk_regionL Try.cfgOk hS ?_
  refine aK 2 ?_
  refine aT (fun h1 => ?_) (fun h1 => ?_)
  · have c2e : ((a : Int) != a) = true := Eq.trans (by kernel_rfl) h1
    clear h1
    have c2 : ¬ (a : Int) = a := bne_iff_ne.1 c2e
    clear c2e
    exact absurd rfl c2
  · have c2e : ((a : Int) != a) = false := Eq.trans (by kernel_rfl) h1
    clear h1
    have c2 : (a : Int) = a := bne_eq_false_iff_eq.1 c2e
    clear c2e
    refine aN ?_
    refine sk_ret ?_
    exact ⟨[.bool false], by kernel_rfl, .same (sub_clo rfl), Nat.le_of_ble_eq_true (by kernel_rfl)⟩
noncomputable def con_isNaN : Con Try.prog 0 := Con.pure (α := Int) 42 (fun z9 => [.int .i64 z9]) (fun z9 => .bool false) (fun z9 => True) (by
  intro x y h
  simp only [List.cons.injEq, and_true, Int.natCast_inj, UInt8.toNat_inj, Value.int.injEq, Value.bool.injEq, Value.string.injEq, Value.agg.injEq, Array.mk.injEq, true_and] at h
  first | exact h | (simp only [Prod.ext_iff, h, and_self, and_true, true_and]; done) | simp_all [Prod.ext_iff]) (fun _ => rfl) (fun _ => rfl) 400 (by
  rintro x _
  exact isNaN_sc x )
theorem con_isNaN_at (a : Int)  (s : St) : con_isNaN.rel [.int .i64 a] s (.bool false) s := con_pure a trivial s
theorem compare_fn : Try.cfg.fn 35 = some Try.f35 := by kernel_rfl
set_option maxHeartbeats 4000000 in
set_option maxRecDepth 100000 in
theorem compare_sc (a : Int) (b : Int)  : SC Try.prog 0 35 [.int .i64 a, .int .i64 b] (St.empty 0) fun v s' => v = .int .i64 (cmpI a b) ∧ s'.n ≤ 400 := by
  obtain ⟨rc, hS, hC⟩ := rc_con (sound_run Try.cfgOk 300) [con_isNaN] (by kernel_rfl)
  have hC42 := hC con_isNaN (.head _)
  refine sc_ice0 (N := 400) (v2 := .int .i64 (cmpI a b)) (Q := fun v s' => FS 0 s' v (.int .i64 (cmpI a b)) ∧ s'.n ≤ 400) ?_ (fun _ _ h => h)
  refine sc_body Try.cfgOk compare_fn rfl ?_
  refine sk_seq ?_
  refine kK Try.cfgOk hS ?_
  refine sk_seq ?_
  refine sk_regionL Try.cfgOk hS ?_
  refine aK 1 ?_
  refine aC 42 [.int .i64 a] (.bool false) _ rfl (hC42 _ _ _ _ (con_isNaN_at a  _)) ?_
  refine aN ?_
  refine sk_seq ?_
  refine sk_regionL Try.cfgOk hS ?_
  refine aK 1 ?_
  refine aC 42 [.int .i64 b] (.bool false) _ rfl (hC42 _ _ _ _ (con_isNaN_at b  _)) ?_
  refine aN ?_
  refine sk_seq (sk_seq ?_)
  refine kK Try.cfgOk hS ?_
  refine kF ?_
  refine sk_skip (sk_seq (sk_seq ?_))
  refine kK Try.cfgOk hS ?_
  refine kF ?_
  refine sk_skip (sk_seq (sk_seq ?_))
  refine sk_regionL Try.cfgOk hS ?_
  refine aK 2 ?_
  refine aT (fun h1 => ?_) (fun h1 => ?_)
  · have c2e : (decide ((a : Int) < b)) = true := Eq.trans (by kernel_rfl) h1
    clear h1
    have c2 : (a : Int) < b := of_decide_eq_true c2e
    clear c2e
    refine al_nil ?_
    refine kT ?_
    refine sk_seq ?_
    refine kK Try.cfgOk hS ?_
    refine sk_ret ?_
    exact ⟨[.int .i64 (-1)], by kernel_rfl, fs_to (fs_clo rfl) (congrArg (Value.int .i64) (by simp only [cmpI]; (repeat' split) <;> omega)), Nat.le_of_ble_eq_true (by kernel_rfl)⟩
  · have c2e : (decide ((a : Int) < b)) = false := Eq.trans (by kernel_rfl) h1
    clear h1
    have c2 : ¬ (a : Int) < b := of_decide_eq_false c2e
    clear c2e
    refine al_nil ?_
    refine kF ?_
    refine sk_skip (sk_seq (sk_seq ?_))
    refine sk_regionL Try.cfgOk hS ?_
    refine aK 2 ?_
    refine aT (fun h3 => ?_) (fun h3 => ?_)
    · have c4e : (decide ((a : Int) > b)) = true := Eq.trans (by kernel_rfl) h3
      clear h3
      have c4 : (a : Int) > b := of_decide_eq_true c4e
      clear c4e
      refine al_nil ?_
      refine kT ?_
      refine sk_seq ?_
      refine kK Try.cfgOk hS ?_
      refine sk_ret ?_
      exact ⟨[.int .i64 1], by kernel_rfl, fs_to (fs_clo rfl) (congrArg (Value.int .i64) (by simp only [cmpI]; (repeat' split) <;> omega)), Nat.le_of_ble_eq_true (by kernel_rfl)⟩
    · have c4e : (decide ((a : Int) > b)) = false := Eq.trans (by kernel_rfl) h3
      clear h3
      have c4 : ¬ (a : Int) > b := of_decide_eq_false c4e
      clear c4e
      refine al_nil ?_
      refine kF ?_
      refine sk_skip (sk_seq ?_)
      refine kK Try.cfgOk hS ?_
      refine sk_ret ?_
      exact ⟨[.int .i64 0], by kernel_rfl, fs_to (fs_clo rfl) (congrArg (Value.int .i64) (by simp only [cmpI]; (repeat' split) <;> omega)), Nat.le_of_ble_eq_true (by kernel_rfl)⟩
noncomputable def con_compare : Con Try.prog 0 := Con.pure (α := Int × Int) 35 (fun z9 => [.int .i64 z9.1, .int .i64 z9.2]) (fun z9 => .int .i64 (cmpI z9.1 z9.2)) (fun z9 => True) (by
  rintro ⟨a0, a1⟩ ⟨b0, b1⟩ h
  simp only [List.cons.injEq, and_true, Int.natCast_inj, UInt8.toNat_inj, Value.int.injEq, Value.bool.injEq, Value.string.injEq, Value.agg.injEq, Array.mk.injEq, true_and] at h
  first | exact h | (simp only [Prod.ext_iff, h, and_self, and_true, true_and]; done) | simp_all [Prod.ext_iff]) (fun _ => rfl) (fun _ => rfl) 400 (by
  rintro ⟨a0, a1⟩ _
  exact compare_sc a0 a1 )
theorem con_compare_at (a : Int) (b : Int)  (s : St) : con_compare.rel [.int .i64 a, .int .i64 b] s (.int .i64 (cmpI a b)) s := con_pure (a, b) trivial s
theorem apart_fn : Try.cfg.fn 25 = some Try.f25 := by kernel_rfl
set_option maxHeartbeats 4000000 in
set_option maxRecDepth 100000 in
theorem apart_sc (at_ : Int) (al : Int) (ah : Int) (bt : Int) (bl : Int) (bh : Int)  : SC Try.prog 0 25 [.agg #[.int .i64 at_, .int .i64 al, .int .i64 ah], .agg #[.int .i64 bt, .int .i64 bl, .int .i64 bh]] (St.empty 0) fun v s' => v = .bool (decide (¬ at_ = bt ∨ ah < 9223372036854775806 ∧ IntKind.wrap .i64 (ah + 1) < bl)) ∧ s'.n ≤ 400 := by
  have hS := sound_run Try.cfgOk 300
  refine sc_ice0 (N := 400) (v2 := .bool (decide (¬ at_ = bt ∨ ah < 9223372036854775806 ∧ IntKind.wrap .i64 (ah + 1) < bl))) (Q := fun v s' => FS 0 s' v (.bool (decide (¬ at_ = bt ∨ ah < 9223372036854775806 ∧ IntKind.wrap .i64 (ah + 1) < bl))) ∧ s'.n ≤ 400) ?_ (fun _ _ h => h)
  refine sc_body Try.cfgOk apart_fn rfl ?_
  refine sk_seq ?_
  refine kK Try.cfgOk hS ?_
  refine sk_seq ?_
  refine sk_regionL Try.cfgOk hS ?_
  refine aK 4 ?_
  refine aT (fun h1 => ?_) (fun h1 => ?_)
  · have c2e : ((at_ : Int) != bt) = true := Eq.trans (by kernel_rfl) h1
    clear h1
    have c2 : ¬ (at_ : Int) = bt := bne_iff_ne.1 c2e
    clear c2e
    refine aN ?_
    refine sk_ret ?_
    exact ⟨[.bool true], by kernel_rfl, fs_to (fs_clo rfl) (congrArg Value.bool (by simp [*])), Nat.le_of_ble_eq_true (by kernel_rfl)⟩
  · have c2e : ((at_ : Int) != bt) = false := Eq.trans (by kernel_rfl) h1
    clear h1
    have c2 : (at_ : Int) = bt := bne_eq_false_iff_eq.1 c2e
    clear c2e
    refine aK 3 ?_
    refine aT (fun h3 => ?_) (fun h3 => ?_)
    · have c4e : (decide ((ah : Int) < 9223372036854775806)) = true := Eq.trans (by kernel_rfl) h3
      clear h3
      have c4 : (ah : Int) < 9223372036854775806 := of_decide_eq_true c4e
      clear c4e
      refine aK 6 ?_
      refine aT (fun h5 => ?_) (fun h5 => ?_)
      · have c6e : (decide (((IntKind.wrap .i64 (ah + 1)) : Int) < bl)) = true := Eq.trans (by kernel_rfl) h5
        clear h5
        have c6 : ((IntKind.wrap .i64 (ah + 1)) : Int) < bl := of_decide_eq_true c6e
        clear c6e
        refine aN ?_
        refine sk_ret ?_
        exact ⟨[.bool true], by kernel_rfl, fs_to (fs_clo rfl) (congrArg Value.bool (by simp [*])), Nat.le_of_ble_eq_true (by kernel_rfl)⟩
      · have c6e : (decide (((IntKind.wrap .i64 (ah + 1)) : Int) < bl)) = false := Eq.trans (by kernel_rfl) h5
        clear h5
        have c6 : ¬ ((IntKind.wrap .i64 (ah + 1)) : Int) < bl := of_decide_eq_false c6e
        clear c6e
        refine aN ?_
        refine sk_ret ?_
        exact ⟨[.bool false], by kernel_rfl, fs_to (fs_clo rfl) (congrArg Value.bool (by simp [*])), Nat.le_of_ble_eq_true (by kernel_rfl)⟩
    · have c4e : (decide ((ah : Int) < 9223372036854775806)) = false := Eq.trans (by kernel_rfl) h3
      clear h3
      have c4 : ¬ (ah : Int) < 9223372036854775806 := of_decide_eq_false c4e
      clear c4e
      refine aN ?_
      refine sk_ret ?_
      exact ⟨[.bool false], by kernel_rfl, fs_to (fs_clo rfl) (congrArg Value.bool (by simp [*])), Nat.le_of_ble_eq_true (by kernel_rfl)⟩
noncomputable def con_apart : Con Try.prog 0 := Con.pure (α := Int × Int × Int × Int × Int × Int) 25 (fun z9 => [.agg #[.int .i64 z9.1, .int .i64 z9.2.1, .int .i64 z9.2.2.1], .agg #[.int .i64 z9.2.2.2.1, .int .i64 z9.2.2.2.2.1, .int .i64 z9.2.2.2.2.2]]) (fun z9 => .bool (decide (¬ z9.1 = z9.2.2.2.1 ∨ z9.2.2.1 < 9223372036854775806 ∧ IntKind.wrap .i64 (z9.2.2.1 + 1) < z9.2.2.2.2.1))) (fun z9 => True) (by
  rintro ⟨a0, a1, a2, a3, a4, a5⟩ ⟨b0, b1, b2, b3, b4, b5⟩ h
  simp only [List.cons.injEq, and_true, Int.natCast_inj, UInt8.toNat_inj, Value.int.injEq, Value.bool.injEq, Value.string.injEq, Value.agg.injEq, Array.mk.injEq, true_and] at h
  first | exact h | (simp only [Prod.ext_iff, h, and_self, and_true, true_and]; done) | simp_all [Prod.ext_iff]) (fun _ => rfl) (fun _ => rfl) 400 (by
  rintro ⟨a0, a1, a2, a3, a4, a5⟩ _
  exact apart_sc a0 a1 a2 a3 a4 a5 )
theorem con_apart_at (at_ : Int) (al : Int) (ah : Int) (bt : Int) (bl : Int) (bh : Int)  (s : St) : con_apart.rel [.agg #[.int .i64 at_, .int .i64 al, .int .i64 ah], .agg #[.int .i64 bt, .int .i64 bl, .int .i64 bh]] s (.bool (decide (¬ at_ = bt ∨ ah < 9223372036854775806 ∧ IntKind.wrap .i64 (ah + 1) < bl))) s := con_pure (at_, al, ah, bt, bl, bh) trivial s
theorem within_fn : Try.cfg.fn 41 = some Try.f41 := by kernel_rfl
set_option maxHeartbeats 4000000 in
set_option maxRecDepth 100000 in
theorem within_sc (at_ : Int) (ak : Int) (t : Int) (l : Int) (h : Int)  : SC Try.prog 0 41 [.agg #[.int .i64 at_, .int .i64 ak], .agg #[.int .i64 t, .int .i64 l, .int .i64 h]] (St.empty 0) fun v s' => v = .bool (decide (at_ = t ∧ ak ≥ l ∧ ak ≤ h)) ∧ s'.n ≤ 400 := by
  have hS := sound_run Try.cfgOk 300
  refine sc_ice0 (N := 400) (v2 := .bool (decide (at_ = t ∧ ak ≥ l ∧ ak ≤ h))) (Q := fun v s' => FS 0 s' v (.bool (decide (at_ = t ∧ ak ≥ l ∧ ak ≤ h))) ∧ s'.n ≤ 400) ?_ (fun _ _ h => h)
  refine sc_body Try.cfgOk within_fn rfl ?_
  refine sk_seq ?_
  refine kK Try.cfgOk hS ?_
  refine sk_seq ?_
  refine sk_regionL Try.cfgOk hS ?_
  refine aK 4 ?_
  refine aT (fun h1 => ?_) (fun h1 => ?_)
  · have c2e : ((at_ : Int) == t) = true := Eq.trans (by kernel_rfl) h1
    clear h1
    have c2 : (at_ : Int) = t := eq_of_beq c2e
    clear c2e
    refine aK 5 ?_
    refine aT (fun h3 => ?_) (fun h3 => ?_)
    · have c4e : (decide ((ak : Int) ≥ l)) = true := Eq.trans (by kernel_rfl) h3
      clear h3
      have c4 : (ak : Int) ≥ l := of_decide_eq_true c4e
      clear c4e
      refine aK 6 ?_
      refine aT (fun h5 => ?_) (fun h5 => ?_)
      · have c6e : (decide ((ak : Int) ≤ h)) = true := Eq.trans (by kernel_rfl) h5
        clear h5
        have c6 : (ak : Int) ≤ h := of_decide_eq_true c6e
        clear c6e
        refine aN ?_
        refine sk_ret ?_
        exact ⟨[.bool true], by kernel_rfl, fs_to (fs_clo rfl) (congrArg Value.bool (by simp [*])), Nat.le_of_ble_eq_true (by kernel_rfl)⟩
      · have c6e : (decide ((ak : Int) ≤ h)) = false := Eq.trans (by kernel_rfl) h5
        clear h5
        have c6 : ¬ (ak : Int) ≤ h := of_decide_eq_false c6e
        clear c6e
        refine aN ?_
        refine sk_ret ?_
        exact ⟨[.bool false], by kernel_rfl, fs_to (fs_clo rfl) (congrArg Value.bool (by simp [*])), Nat.le_of_ble_eq_true (by kernel_rfl)⟩
    · have c4e : (decide ((ak : Int) ≥ l)) = false := Eq.trans (by kernel_rfl) h3
      clear h3
      have c4 : ¬ (ak : Int) ≥ l := of_decide_eq_false c4e
      clear c4e
      refine aN ?_
      refine sk_ret ?_
      exact ⟨[.bool false], by kernel_rfl, fs_to (fs_clo rfl) (congrArg Value.bool (by simp [*])), Nat.le_of_ble_eq_true (by kernel_rfl)⟩
  · have c2e : ((at_ : Int) == t) = false := Eq.trans (by kernel_rfl) h1
    clear h1
    have c2 : ¬ (at_ : Int) = t := ne_of_beq_false c2e
    clear c2e
    refine aN ?_
    refine sk_ret ?_
    exact ⟨[.bool false], by kernel_rfl, fs_to (fs_clo rfl) (congrArg Value.bool (by simp [*])), Nat.le_of_ble_eq_true (by kernel_rfl)⟩
noncomputable def con_within : Con Try.prog 0 := Con.pure (α := Int × Int × Int × Int × Int) 41 (fun z9 => [.agg #[.int .i64 z9.1, .int .i64 z9.2.1], .agg #[.int .i64 z9.2.2.1, .int .i64 z9.2.2.2.1, .int .i64 z9.2.2.2.2]]) (fun z9 => .bool (decide (z9.1 = z9.2.2.1 ∧ z9.2.1 ≥ z9.2.2.2.1 ∧ z9.2.1 ≤ z9.2.2.2.2))) (fun z9 => True) (by
  rintro ⟨a0, a1, a2, a3, a4⟩ ⟨b0, b1, b2, b3, b4⟩ h
  simp only [List.cons.injEq, and_true, Int.natCast_inj, UInt8.toNat_inj, Value.int.injEq, Value.bool.injEq, Value.string.injEq, Value.agg.injEq, Array.mk.injEq, true_and] at h
  first | exact h | (simp only [Prod.ext_iff, h, and_self, and_true, true_and]; done) | simp_all [Prod.ext_iff]) (fun _ => rfl) (fun _ => rfl) 400 (by
  rintro ⟨a0, a1, a2, a3, a4⟩ _
  exact within_sc a0 a1 a2 a3 a4 )
theorem con_within_at (at_ : Int) (ak : Int) (t : Int) (l : Int) (h : Int)  (s : St) : con_within.rel [.agg #[.int .i64 at_, .int .i64 ak], .agg #[.int .i64 t, .int .i64 l, .int .i64 h]] s (.bool (decide (at_ = t ∧ ak ≥ l ∧ ak ≤ h))) s := con_pure (at_, ak, t, l, h) trivial s
abbrev hasK (l : List Key) (kt kk : Int) : Prop := ∃ x : Key, x ∈ l ∧ (x.1 = kt ∧ x.2 = kk)
abbrev inP (l : List Span) (kt kk : Int) : Prop := ∃ x : Span, x ∈ l ∧ (kt = x.1 ∧ kk ≥ x.2.1 ∧ kk ≤ x.2.2)
abbrev readsP (rs : List Key) (ss : List Span) (kt kk : Int) : Prop := hasK rs kt kk ∨ inP ss kt kk
theorem indexK_fn : Try.cfg.fn 46 = some Try.f46 := by kernel_rfl
set_option maxHeartbeats 4000000 in
set_option maxRecDepth 100000 in
theorem indexK_sc (l : List Key) (kt : Int) (kk : Int) (h0 : l.length ≤ 1000000) : SC Try.prog 0 46 [inlL kcells 2 l, .agg #[.int .i64 kt, .int .i64 kk]] (St.empty 0) fun v s' => v = .int .i64 (fidx (fun x : Key => x.1 = kt ∧ x.2 = kk) l) ∧ s'.n ≤ 400 := by
  have hS := sound_run Try.cfgOk 300
  refine sc_ice0 (N := 400) (v2 := .int .i64 (fidx (fun x : Key => x.1 = kt ∧ x.2 = kk) l)) (Q := fun v s' => FS 0 s' v (.int .i64 (fidx (fun x : Key => x.1 = kt ∧ x.2 = kk) l)) ∧ s'.n ≤ 400) ?_ (fun _ _ h => h)
  refine sc_body Try.cfgOk indexK_fn rfl ?_
  refine sk_seq ?_
  refine kK Try.cfgOk hS ?_
  refine sk_seq (sk_seq ?_)
  refine sk_regionL Try.cfgOk hS ?_
  refine aK 1 ?_
  refine aM (lenB Try.cfg (St.empty 0) 32 (inlL kcells 2 l)) (.int .i64 ((l.length : Nat) : Int)) (len_inl tokC (by kernel_rfl)) ?_
  refine aN ?_
  refine sk_block ?_
  refine sk_live 19 ((fun a : Nat => [(0, inlL kcells 2 l), (3, .pointer (some ⟨0, 0, none⟩)), (7, .int .i64 ((l.length : Nat) : Int)), (8, .int .i64 ((a : Nat) : Int))]) 0) (by kernel_rfl) ⟨by kernel_rfl, by kernel_rfl, by kernel_rfl, by kernel_rfl, trivial⟩ fun m1 => ?_
  refine sk_st ((fun a : Nat => ((St.empty 0).new (.cells [.int .i64 kt, .int .i64 kk]))) 0) (by kernel_rfl) ?_
  refine (sk_while (k := 1) (N := 400) (live := (fun a : Nat => [(0, inlL kcells 2 l), (3, .pointer (some ⟨0, 0, none⟩)), (7, .int .i64 ((l.length : Nat) : Int)), (8, .int .i64 ((a : Nat) : Int))])) (M := (fun a : Nat => ((St.empty 0).new (.cells [.int .i64 kt, .int .i64 kk])))) (fun a : Nat => (a ≤ l.length) ∧ (NoHit (fun x : Key => x.1 = kt ∧ x.2 = kk) l a)) (fun a : Nat => l.length - a) (fun (a : Nat) (o : Out) (lv : List (Nat × Value)) (M : St) => (o = .exit 0 ∧ (¬ a < l.length) ∧ lv = [(0, inlL kcells 2 l), (3, .pointer (some ⟨0, 0, none⟩)), (7, .int .i64 ((l.length : Nat) : Int)), (8, .int .i64 ((a : Nat) : Int))] ∧ M = ((St.empty 0).new (.cells [.int .i64 kt, .int .i64 kk]))) ∨ (o = .ret ∧ (∃ x : Key, l[a]? = some x ∧ (x.1 = kt ∧ x.2 = kk)) ∧ lv = [(4, .int .i64 ((a : Nat) : Int))] ∧ M = ((St.empty 0).new (.cells [.int .i64 kt, .int .i64 kk])))) (Nat.zero_le _) (fun a ha => ?_) (fun a ha => ?_) (fun a m ha => ?_) (fun a m ha => ?_) 0 m1 ?_).up ?_
  · exact ⟨by kernel_rfl, ((wf_empty 0).new _), (selfs (all_cons (o := .cells [.int .i64 kt, .int .i64 kk]) (by kernel_rfl) (OSub.cells (.cons (sub_clo rfl) (.cons (sub_clo rfl) .nil))) (all_none)))⟩
  · exact ⟨sub_clo rfl, .ptr ⟨by decide, rfl⟩, sub_clo rfl, sub_clo rfl, trivial⟩
  · exact ⟨by kernel_rfl, by kernel_rfl, by kernel_rfl, by kernel_rfl, trivial⟩
  · obtain ⟨i, ea⟩ : ∃ z, z = a := ⟨_, rfl⟩
    subst ea
    obtain ⟨i0, i1⟩ := ha
    refine sk_seq ?_
    refine sk_regionL Try.cfgOk hS ?_
    refine aT (fun h2 => ?_) (fun h2 => ?_)
    · have c3e : (decide ((((i : Nat) : Int) : Int) < ((l.length : Nat) : Int))) = true := Eq.trans (by kernel_rfl) h2
      clear h2
      have c3 : (((i : Nat) : Int) : Int) < ((l.length : Nat) : Int) := of_decide_eq_true c3e
      clear c3e
      refine al_nil ?_
      refine sk_seq ?_
      refine kT ?_
      refine sk_skip (sk_seq (sk_block (sk_seq ?_)))
      refine kK Try.cfgOk hS ?_
      refine sk_seq ?_
      refine sk_drawL Try.cfgOk hS ?_
      refine dK 3 ?_
      refine dM (indexAddrV Try.cfg 32 (inlL kcells 2 l) (.int .i64 ((i : Nat) : Int))) (elt (flatL kcells l) (i * 2)) (idx_inlL tokC (by kernel_rfl) (by first | omega | simp)) ?_
      have hx4l : i < l.length := by omega
      refine Exists.elim (get_ex hx4l) fun x4 hx4 => ?_
      clear hx4l
      refine dM (loadV Try.cfg (St.empty 0) 43 (elt (flatL kcells l) (i * 2))) (.agg #[.int .i64 x4.1, .int .i64 x4.2]) (load_el tokC (by kernel_rfl) kcells_len hx4) ?_
      refine dT (fun h5 => ?_) (fun h5 => ?_)
      · have c6e : (((kt == x4.1) && ((kk == x4.2) && true))) = true := Eq.trans (by kernel_rfl) h5
        clear h5
        have c6 : kt = x4.1 ∧ kk = x4.2 := ⟨eq_of_beq (and_l c6e), eq_of_beq (and_l (and_r c6e))⟩
        clear c6e
        refine ald_nil ?_
        refine kT ?_
        refine sk_seq ?_
        refine kK Try.cfgOk hS ?_
        refine sk_ret ?_
        refine .inr ⟨_, _, (fun h => by cases h), .inr ⟨rfl, ?_, rfl, rfl⟩, ⟨by kernel_rfl, ⟨by kernel_rfl, trivial⟩, ⟨sub_clo rfl, trivial⟩, Nat.le_of_ble_eq_true (by kernel_rfl), ⟨by kernel_rfl, ((wf_empty 0).new _), (selfs (all_cons (o := .cells [.int .i64 kt, .int .i64 kk]) (by kernel_rfl) (OSub.cells (.cons (sub_clo rfl) (.cons (sub_clo rfl) .nil))) (all_none)))⟩, mem_all (by kernel_rfl)⟩⟩
        · first | exact ⟨_, by assumption, by first | assumption | omega | exact Or.inl (by assumption) | exact Or.inr (by assumption) | exact fun h => h.elim (by assumption) (by assumption) | (simp_all; done)⟩ | exact ⟨_, by assumption, by first | assumption | omega | exact Or.inl (by assumption) | exact Or.inr (by assumption) | exact fun h => h.elim (by assumption) (by assumption) | (simp_all; done), rfl⟩
      · have c6e : (((kt == x4.1) && ((kk == x4.2) && true))) = false := Eq.trans (by kernel_rfl) h5
        clear h5
        have c6 : ¬ (kt = x4.1 ∧ kk = x4.2) := fun q => Bool.noConfusion ((c6e).symm.trans (and_i (beq_iff_eq.2 q.1) (and_i (beq_iff_eq.2 q.2) (rfl))))
        clear c6e
        refine ald_nil ?_
        refine kF ?_
        refine sk_skip ?_
        refine sk_regionL Try.cfgOk hS ?_
        refine aE (v := .int .i64 (IntKind.wrap .i64 (((i : Nat) : Int) + 1))) (.int .i64 ((i + 1 : Nat) : Int)) (congrArg (Value.int .i64) (wrap_to (by omega) (by omega))) ?_
        refine aN ?_
        refine .inl ⟨i + 1, rfl, ⟨?_, ?_⟩, ?_, ⟨by kernel_rfl, ⟨by kernel_rfl, by kernel_rfl, by kernel_rfl, by kernel_rfl, trivial⟩, ⟨sub_clo rfl, .ptr ⟨by decide, rfl⟩, sub_clo rfl, sub_clo rfl, trivial⟩, Nat.le_of_ble_eq_true (by kernel_rfl), ⟨by kernel_rfl, ((wf_empty 0).new _), (selfs (all_cons (o := .cells [.int .i64 kt, .int .i64 kk]) (by kernel_rfl) (OSub.cells (.cons (sub_clo rfl) (.cons (sub_clo rfl) .nil))) (all_none)))⟩, mem_all (by kernel_rfl)⟩⟩
        · (try dsimp only); omega
        · (try dsimp only); exact NoHit.succ (p := (fun x : Key => x.1 = kt ∧ x.2 = kk)) (by assumption) (by assumption) (by first | assumption | omega | exact fun h => h.elim (by assumption) (by assumption) | (simp_all; done))
        · omega
    · have c3e : (decide ((((i : Nat) : Int) : Int) < ((l.length : Nat) : Int))) = false := Eq.trans (by kernel_rfl) h2
      clear h2
      have c3 : ¬ (((i : Nat) : Int) : Int) < ((l.length : Nat) : Int) := of_decide_eq_false c3e
      clear c3e
      refine al_nil ?_
      refine sk_seq ?_
      refine kF ?_
      refine sk_exit ?_
      dsimp only
      refine .inr ⟨_, _, (fun h => by cases h), .inl ⟨rfl, ?_, rfl, rfl⟩, ⟨by kernel_rfl, ⟨by kernel_rfl, by kernel_rfl, by kernel_rfl, by kernel_rfl, trivial⟩, ⟨sub_clo rfl, .ptr ⟨by decide, rfl⟩, sub_clo rfl, sub_clo rfl, trivial⟩, Nat.le_of_ble_eq_true (by kernel_rfl), ⟨by kernel_rfl, ((wf_empty 0).new _), (selfs (all_cons (o := .cells [.int .i64 kt, .int .i64 kk]) (by kernel_rfl) (OSub.cells (.cons (sub_clo rfl) (.cons (sub_clo rfl) .nil))) (all_none)))⟩, mem_all (by kernel_rfl)⟩⟩
      · omega
  · exact ⟨by ((try dsimp only); first | done | (omega)), by ((try dsimp only); first | done | (exact NoHit.zero))⟩
  rintro o e1 s1 ⟨a, lv1, M1, m1, ha, (⟨rfl, hx, rfl, rfl⟩ | ⟨rfl, hx, rfl, rfl⟩), rfl, rfl⟩
  ·
    obtain ⟨i, ea⟩ : ∃ z, z = a := ⟨_, rfl⟩
    subst ea
    obtain ⟨i0, i1⟩ := ha
    dsimp only
    try rw [if_pos rfl]
    refine sk_seq ?_
    refine kK Try.cfgOk hS ?_
    refine sk_ret ?_
    exact ⟨[.int .i64 (-1)], by kernel_rfl, fs_to (fs_clo rfl) (congrArg (Value.int .i64) (by first | (obtain ⟨x, h1, h2⟩ := hx; exact (fidx_hit (by assumption) h1 h2).symm) | exact (fidx_none (NoHit.none (by assumption) hx)).symm)), Nat.le_of_ble_eq_true (by kernel_rfl)⟩
  ·
    obtain ⟨i, ea⟩ : ∃ z, z = a := ⟨_, rfl⟩
    subst ea
    obtain ⟨i0, i1⟩ := ha
    dsimp only
    exact ⟨[.int .i64 ((i : Nat) : Int)], by kernel_rfl, fs_to (fs_clo rfl) (congrArg (Value.int .i64) (by first | (obtain ⟨x, h1, h2⟩ := hx; exact (fidx_hit (by assumption) h1 h2).symm) | exact (fidx_none (NoHit.none (by assumption) hx)).symm)), Nat.le_of_ble_eq_true (by kernel_rfl)⟩
noncomputable def con_indexK : Con Try.prog 0 := Con.pure (α := (List Key) × Int × Int) 46 (fun z9 => [inlL kcells 2 z9.1, .agg #[.int .i64 z9.2.1, .int .i64 z9.2.2]]) (fun z9 => .int .i64 (fidx (fun x : Key => x.1 = z9.2.1 ∧ x.2 = z9.2.2) z9.1)) (fun z9 => (z9.1.length ≤ 1000000)) (by
  rintro ⟨a0, a1, a2⟩ ⟨b0, b1, b2⟩ h
  simp only [List.cons.injEq, and_true, Int.natCast_inj, UInt8.toNat_inj, Value.int.injEq, Value.bool.injEq, Value.string.injEq, Value.agg.injEq, Array.mk.injEq, true_and, kcells_iff] at h
  first | exact h | (simp only [Prod.ext_iff, h, and_self, and_true, true_and]; done) | simp_all [Prod.ext_iff]) (fun _ => rfl) (fun _ => rfl) 400 (by
  rintro ⟨a0, a1, a2⟩ p0
  exact indexK_sc a0 a1 a2 p0)
theorem con_indexK_at (l : List Key) (kt : Int) (kk : Int) (h0 : l.length ≤ 1000000) (s : St) : con_indexK.rel [inlL kcells 2 l, .agg #[.int .i64 kt, .int .i64 kk]] s (.int .i64 (fidx (fun x : Key => x.1 = kt ∧ x.2 = kk) l)) s := con_pure (l, kt, kk) h0 s
theorem containsK_fn : Try.cfg.fn 38 = some Try.f38 := by kernel_rfl
set_option maxHeartbeats 4000000 in
set_option maxRecDepth 100000 in
theorem containsK_sc (l : List Key) (kt : Int) (kk : Int) (h0 : l.length ≤ 1000000) : SC Try.prog 0 38 [inlL kcells 2 l, .agg #[.int .i64 kt, .int .i64 kk]] (St.empty 0) fun v s' => v = .bool (decide (hasK l kt kk)) ∧ s'.n ≤ 400 := by
  obtain ⟨rc, hS, hC⟩ := rc_con (sound_run Try.cfgOk 300) [con_indexK] (by kernel_rfl)
  have hC46 := hC con_indexK (.head _)
  refine sc_ice0 (N := 400) (v2 := .bool (decide (hasK l kt kk))) (Q := fun v s' => FS 0 s' v (.bool (decide (hasK l kt kk))) ∧ s'.n ≤ 400) ?_ (fun _ _ h => h)
  refine sc_body Try.cfgOk containsK_fn rfl ?_
  refine sk_seq ?_
  refine kK Try.cfgOk hS ?_
  refine sk_seq ?_
  refine sk_regionL Try.cfgOk hS ?_
  refine aK 2 ?_
  refine aC 46 [inlL kcells 2 l, .agg #[.int .i64 kt, .int .i64 kk]] (.int .i64 (fidx (fun x : Key => x.1 = kt ∧ x.2 = kk) l)) _ rfl (hC46 _ _ _ _ (con_indexK_at l kt kk (by first | omega | (simp; done) | (simp; omega)) _)) ?_
  refine aT (fun h1 => ?_) (fun h1 => ?_)
  · have c2e : (decide (((fidx (fun x : Key => x.1 = kt ∧ x.2 = kk) l) : Int) ≥ 0)) = true := Eq.trans (by kernel_rfl) h1
    clear h1
    have c2 : ((fidx (fun x : Key => x.1 = kt ∧ x.2 = kk) l) : Int) ≥ 0 := of_decide_eq_true c2e
    clear c2e
    refine aN ?_
    refine sk_ret ?_
    exact ⟨[.bool true], by kernel_rfl, fs_to (fs_clo rfl) (congrArg Value.bool (by first | rfl | (simp only [fidx_ge]) | (exact (decide_eq_true (fidx_ge.1 (by assumption))).symm) | (exact (decide_eq_false (fun h => absurd (fidx_ge.2 h) (by assumption))).symm))), Nat.le_of_ble_eq_true (by kernel_rfl)⟩
  · have c2e : (decide (((fidx (fun x : Key => x.1 = kt ∧ x.2 = kk) l) : Int) ≥ 0)) = false := Eq.trans (by kernel_rfl) h1
    clear h1
    have c2 : ¬ ((fidx (fun x : Key => x.1 = kt ∧ x.2 = kk) l) : Int) ≥ 0 := of_decide_eq_false c2e
    clear c2e
    refine aN ?_
    refine sk_ret ?_
    exact ⟨[.bool false], by kernel_rfl, fs_to (fs_clo rfl) (congrArg Value.bool (by first | rfl | (simp only [fidx_ge]) | (exact (decide_eq_true (fidx_ge.1 (by assumption))).symm) | (exact (decide_eq_false (fun h => absurd (fidx_ge.2 h) (by assumption))).symm))), Nat.le_of_ble_eq_true (by kernel_rfl)⟩
noncomputable def con_containsK : Con Try.prog 0 := Con.pure (α := (List Key) × Int × Int) 38 (fun z9 => [inlL kcells 2 z9.1, .agg #[.int .i64 z9.2.1, .int .i64 z9.2.2]]) (fun z9 => .bool (decide (hasK z9.1 z9.2.1 z9.2.2))) (fun z9 => (z9.1.length ≤ 1000000)) (by
  rintro ⟨a0, a1, a2⟩ ⟨b0, b1, b2⟩ h
  simp only [List.cons.injEq, and_true, Int.natCast_inj, UInt8.toNat_inj, Value.int.injEq, Value.bool.injEq, Value.string.injEq, Value.agg.injEq, Array.mk.injEq, true_and, kcells_iff] at h
  first | exact h | (simp only [Prod.ext_iff, h, and_self, and_true, true_and]; done) | simp_all [Prod.ext_iff]) (fun _ => rfl) (fun _ => rfl) 400 (by
  rintro ⟨a0, a1, a2⟩ p0
  exact containsK_sc a0 a1 a2 p0)
theorem con_containsK_at (l : List Key) (kt : Int) (kk : Int) (h0 : l.length ≤ 1000000) (s : St) : con_containsK.rel [inlL kcells 2 l, .agg #[.int .i64 kt, .int .i64 kk]] s (.bool (decide (hasK l kt kk))) s := con_pure (l, kt, kk) h0 s
theorem writesP_fn : Try.cfg.fn 29 = some Try.f29 := by kernel_rfl
set_option maxHeartbeats 4000000 in
set_option maxRecDepth 100000 in
theorem writesP_sc (rs : List Key) (ss : List Span) (ws : List Key) (kt : Int) (kk : Int) (h0 : ws.length ≤ 1000000) : SC Try.prog 0 29 [.agg #[inlL kcells 2 rs, inlL scells 3 ss, inlL kcells 2 ws], .agg #[.int .i64 kt, .int .i64 kk]] (St.empty 0) fun v s' => v = .bool (decide (hasK ws kt kk)) ∧ s'.n ≤ 400 := by
  obtain ⟨rc, hS, hC⟩ := rc_con (sound_run Try.cfgOk 300) [con_containsK] (by kernel_rfl)
  have hC38 := hC con_containsK (.head _)
  refine sc_ice0 (N := 400) (v2 := .bool (decide (hasK ws kt kk))) (Q := fun v s' => FS 0 s' v (.bool (decide (hasK ws kt kk))) ∧ s'.n ≤ 400) ?_ (fun _ _ h => h)
  refine sc_body Try.cfgOk writesP_fn rfl ?_
  refine sk_seq ?_
  refine kK Try.cfgOk hS ?_
  refine sk_seq ?_
  refine sk_regionL Try.cfgOk hS ?_
  refine aK 3 ?_
  refine aB 38 [inlL kcells 2 ws, .agg #[.int .i64 kt, .int .i64 kk]] (decide (hasK ws kt kk)) _ rfl (hC38 _ _ _ _ (con_containsK_at ws kt kk (by first | omega | (simp; done) | (simp; omega)) _)) (fun h1 => ?_) (fun h1 => ?_)
  · have c2 : hasK ws kt kk := of_decide_eq_true h1
    clear h1
    refine aN ?_
    refine sk_ret ?_
    exact ⟨[.bool true], by kernel_rfl, fs_to (fs_clo rfl) (congrArg Value.bool (by simp [*])), Nat.le_of_ble_eq_true (by kernel_rfl)⟩
  · have c2 : ¬ (hasK ws kt kk) := of_decide_eq_false h1
    clear h1
    refine aN ?_
    refine sk_ret ?_
    exact ⟨[.bool false], by kernel_rfl, fs_to (fs_clo rfl) (congrArg Value.bool (by simp [*])), Nat.le_of_ble_eq_true (by kernel_rfl)⟩
noncomputable def con_writesP : Con Try.prog 0 := Con.pure (α := (List Key) × (List Span) × (List Key) × Int × Int) 29 (fun z9 => [.agg #[inlL kcells 2 z9.1, inlL scells 3 z9.2.1, inlL kcells 2 z9.2.2.1], .agg #[.int .i64 z9.2.2.2.1, .int .i64 z9.2.2.2.2]]) (fun z9 => .bool (decide (hasK z9.2.2.1 z9.2.2.2.1 z9.2.2.2.2))) (fun z9 => (z9.2.2.1.length ≤ 1000000)) (by
  rintro ⟨a0, a1, a2, a3, a4⟩ ⟨b0, b1, b2, b3, b4⟩ h
  simp only [List.cons.injEq, and_true, Int.natCast_inj, UInt8.toNat_inj, Value.int.injEq, Value.bool.injEq, Value.string.injEq, Value.agg.injEq, Array.mk.injEq, true_and, kcells_iff, scells_iff] at h
  first | exact h | (simp only [Prod.ext_iff, h, and_self, and_true, true_and]; done) | simp_all [Prod.ext_iff]) (fun _ => rfl) (fun _ => rfl) 400 (by
  rintro ⟨a0, a1, a2, a3, a4⟩ p0
  exact writesP_sc a0 a1 a2 a3 a4 p0)
theorem con_writesP_at (rs : List Key) (ss : List Span) (ws : List Key) (kt : Int) (kk : Int) (h0 : ws.length ≤ 1000000) (s : St) : con_writesP.rel [.agg #[inlL kcells 2 rs, inlL scells 3 ss, inlL kcells 2 ws], .agg #[.int .i64 kt, .int .i64 kk]] s (.bool (decide (hasK ws kt kk))) s := con_pure (rs, ss, ws, kt, kk) h0 s
theorem reads1_fn : Try.cfg.fn 40 = some Try.f40 := by kernel_rfl
set_option maxHeartbeats 4000000 in
set_option maxRecDepth 100000 in
theorem reads1_sc (t : Int) (l : Int) (h : Int) (kt : Int) (kk : Int)  : SC Try.prog 0 40 [.agg #[.int .i64 t, .int .i64 l, .int .i64 h], .pointer (some ⟨0, 0, none⟩)] ((St.empty 0).new (.cells [.int .i64 kt, .int .i64 kk])) fun v s' => v = .bool (decide (kt = t ∧ kk ≥ l ∧ kk ≤ h)) ∧ s'.n ≤ 400 ∧ ∀ a, a < 1 → s'.get a = some (objL [.cells [.int .i64 kt, .int .i64 kk]] a) := by
  obtain ⟨rc, hS, hC⟩ := rc_con (sound_run Try.cfgOk 300) [con_within] (by kernel_rfl)
  have hC41 := hC con_within (.head _)
  refine sc_body Try.cfgOk reads1_fn rfl ?_
  refine sk_seq ?_
  refine kK Try.cfgOk hS ?_
  refine sk_seq ?_
  refine sk_regionL Try.cfgOk hS ?_
  refine aK 2 ?_
  refine aB 41 [.agg #[.int .i64 kt, .int .i64 kk], .agg #[.int .i64 t, .int .i64 l, .int .i64 h]] (decide (kt = t ∧ kk ≥ l ∧ kk ≤ h)) _ rfl (hC41 _ _ _ _ (con_within_at kt kk t l h  _)) (fun h1 => ?_) (fun h1 => ?_)
  · have c2 : kt = t ∧ kk ≥ l ∧ kk ≤ h := of_decide_eq_true h1
    clear h1
    refine aN ?_
    refine sk_ret ?_
    exact ⟨[.bool true], by kernel_rfl, congrArg Value.bool (by simp [*]), Nat.le_of_ble_eq_true (by kernel_rfl), all1 (by kernel_rfl)⟩
  · have c2 : ¬ (kt = t ∧ kk ≥ l ∧ kk ≤ h) := of_decide_eq_false h1
    clear h1
    refine aN ?_
    refine sk_ret ?_
    exact ⟨[.bool false], by kernel_rfl, congrArg Value.bool (by simp [*]), Nat.le_of_ble_eq_true (by kernel_rfl), all1 (by kernel_rfl)⟩
noncomputable def sm_reads1 : Small Try.prog 0 40 (Int × Int × Int × Int × Int) where
  k := 1
  A := fun z9 ρ => [.agg #[.int .i64 z9.1, .int .i64 z9.2.1, .int .i64 z9.2.2.1], .pointer (some ⟨(ρ 0), 0, none⟩)]
  M := fun z9 ρ => objL [.cells [.int .i64 z9.2.2.2.1, .int .i64 z9.2.2.2.2]]
  M1 := fun z9 ρ => objL [.cells [.int .i64 z9.2.2.2.1, .int .i64 z9.2.2.2.2]]
  V := fun z9 ρ => .bool (decide (z9.2.2.2.1 = z9.1 ∧ z9.2.2.2.2 ≥ z9.2.1 ∧ z9.2.2.2.2 ≤ z9.2.2.1))
  Pre := fun z9 => True
  ch := []
  N := 400
  s0 := fun z9 => ((St.empty 0).new (.cells [.int .i64 z9.2.2.2.1, .int .i64 z9.2.2.2.2]))
  hch := by decide
  hsame := fun x ρ => all1 (fun _ => rfl)
  hG := rfl
  hn := fun x => rfl
  hwf := fun x => ((wf_empty 0).new _)
  hget := fun x => all1 (by kernel_rfl)
  noloop := fun x ρ => all1 (fun h => h.elim)
  inA := fun x ρ R hR => .cons (.agg (.cons (sub_clo rfl) (.cons (sub_clo rfl) (.cons (sub_clo rfl) .nil)))) (.cons (.ptr (hR 0 _ (by decide))) .nil)
  inM := fun x ρ R hR => all1 (OSub.cells (.cons (sub_clo rfl) (.cons (sub_clo rfl) .nil)))
  outM := fun x ρ R hR => all1 (OSub.cells (.cons (sub_clo rfl) (.cons (sub_clo rfl) .nil)))
  outV := fun x ρ R hR => sub_clo rfl
  dom := by
    intro x ρ a ha
    cases ha
  sc := by
    rintro ⟨a0, a1, a2, a3, a4⟩ _
    exact reads1_sc a0 a1 a2 a3 a4 
  det := by
    rintro ⟨a0, a1, a2, a3, a4⟩ ρ ⟨b0, b1, b2, b3, b4⟩ σ s h hm hm'
    simp only [List.cons.injEq, and_true, Int.natCast_inj, UInt8.toNat_inj, Value.int.injEq, Value.bool.injEq, Value.string.injEq, Value.agg.injEq, Array.mk.injEq, true_and, Value.pointer.injEq, Option.some.injEq, Addr.mk.injEq, Value.func.injEq, AObj.cells.injEq, AObj.arr.injEq, slL_iff] at h
    have q0 : ρ 0 = σ 0 := by simp_all
    have e0 := (hm 0 (by decide)).symm.trans ((congrArg s.get q0).trans (hm' 0 (by decide)))
    simp only [objL, List.getD_cons_zero, List.getD_cons_succ, List.cons.injEq, and_true, Int.natCast_inj, UInt8.toNat_inj, Value.int.injEq, Value.bool.injEq, Value.string.injEq, Value.agg.injEq, Array.mk.injEq, true_and, Value.pointer.injEq, Option.some.injEq, Addr.mk.injEq, Value.func.injEq, AObj.cells.injEq, AObj.arr.injEq, slL_iff] at e0
    have q : ∀ a, a < 1 → ρ a = σ a := all1 q0
    clear hm hm'
    exact ⟨by first | rfl | (simp_all [Prod.ext_iff]; done) | exact e0, q⟩
  par := by
    intro x ρ σ h
    have h0 := h 0 (by decide)
    exact ⟨by first | rfl | simp only [h0], by first | exact fun _ _ => rfl | (intro a ha; simp only [h0])⟩
noncomputable def con_reads1 : Con Try.prog 0 := sm_reads1.con
theorem con_reads1_at (t : Int) (l : Int) (h : Int) (kt : Int) (kk : Int) (i0 : Nat)  (s : St) (hn : nodupB [i0] = true) (m0 : s.get i0 = some (.cells [.int .i64 kt, .int .i64 kk])) : con_reads1.rel [.agg #[.int .i64 t, .int .i64 l, .int .i64 h], .pointer (some ⟨i0, 0, none⟩)] s (.bool (decide (kt = t ∧ kk ≥ l ∧ kk ≤ h))) s :=
  sm_reads1.at_ (t, l, h, kt, kk) [i0] s _ trivial rfl hn rfl (all1 m0) rfl rfl
theorem indexS_fn : Try.cfg.fn 47 = some Try.f47 := by kernel_rfl
set_option maxHeartbeats 4000000 in
set_option maxRecDepth 100000 in
theorem indexS_sc (l : List Span) (kt : Int) (kk : Int) (h0 : l.length ≤ 1000000) : SC Try.prog 0 47 [inlL scells 3 l, .func (.func 40) #[] #[.pointer (some ⟨0, 0, none⟩)]] ((St.empty 0).new (.cells [.int .i64 kt, .int .i64 kk])) fun v s' => v = .int .i64 (fidx (fun x : Span => kt = x.1 ∧ kk ≥ x.2.1 ∧ kk ≤ x.2.2) l) ∧ s'.n ≤ 400 ∧ ∀ a, a < 1 → s'.get a = some (objL [.cells [.int .i64 kt, .int .i64 kk]] a) := by
  obtain ⟨rc, hS, hC⟩ := rc_con (sound_run Try.cfgOk 300) [con_reads1] (by kernel_rfl)
  have hC40 := hC con_reads1 (.head _)
  refine sc_body Try.cfgOk indexS_fn rfl ?_
  refine sk_seq ?_
  refine kK Try.cfgOk hS ?_
  refine sk_seq (sk_seq ?_)
  refine sk_regionL Try.cfgOk hS ?_
  refine aK 1 ?_
  refine aM (lenB Try.cfg (St.empty 0) 33 (inlL scells 3 l)) (.int .i64 ((l.length : Nat) : Int)) (len_inl tokC (by kernel_rfl)) ?_
  refine aN ?_
  refine sk_block ?_
  refine sk_live 19 ((fun a : Nat => [(0, inlL scells 3 l), (1, .func (.func 40) #[] #[.pointer (some ⟨0, 0, none⟩)]), (7, .int .i64 ((l.length : Nat) : Int)), (8, .int .i64 ((a : Nat) : Int))]) 0) (by kernel_rfl) ⟨by kernel_rfl, by kernel_rfl, by kernel_rfl, by kernel_rfl, trivial⟩ fun m1 => ?_
  refine sk_st ((fun a : Nat => ((St.empty 0).new (.cells [.int .i64 kt, .int .i64 kk]))) 0) (by kernel_rfl) ?_
  refine (sk_while (k := 1) (N := 400) (live := (fun a : Nat => [(0, inlL scells 3 l), (1, .func (.func 40) #[] #[.pointer (some ⟨0, 0, none⟩)]), (7, .int .i64 ((l.length : Nat) : Int)), (8, .int .i64 ((a : Nat) : Int))])) (M := (fun a : Nat => ((St.empty 0).new (.cells [.int .i64 kt, .int .i64 kk])))) (fun a : Nat => (a ≤ l.length) ∧ (NoHit (fun x : Span => kt = x.1 ∧ kk ≥ x.2.1 ∧ kk ≤ x.2.2) l a)) (fun a : Nat => l.length - a) (fun (a : Nat) (o : Out) (lv : List (Nat × Value)) (M : St) => (o = .exit 0 ∧ (¬ a < l.length) ∧ lv = [(0, inlL scells 3 l), (1, .func (.func 40) #[] #[.pointer (some ⟨0, 0, none⟩)]), (7, .int .i64 ((l.length : Nat) : Int)), (8, .int .i64 ((a : Nat) : Int))] ∧ M = ((St.empty 0).new (.cells [.int .i64 kt, .int .i64 kk]))) ∨ (o = .ret ∧ (∃ x : Span, l[a]? = some x ∧ (kt = x.1 ∧ kk ≥ x.2.1 ∧ kk ≤ x.2.2)) ∧ lv = [(4, .int .i64 ((a : Nat) : Int))] ∧ M = ((St.empty 0).new (.cells [.int .i64 kt, .int .i64 kk])))) (Nat.zero_le _) (fun a ha => ?_) (fun a ha => ?_) (fun a m ha => ?_) (fun a m ha => ?_) 0 m1 ?_).up ?_
  · exact ⟨by kernel_rfl, ((wf_empty 0).new _), (selfs (all_cons (o := .cells [.int .i64 kt, .int .i64 kk]) (by kernel_rfl) (OSub.cells (.cons (sub_clo rfl) (.cons (sub_clo rfl) .nil))) (all_none)))⟩
  · exact ⟨sub_clo rfl, .func (.same _ (by intro l h; cases h)) .nil (.cons (.ptr ⟨by decide, rfl⟩) .nil), sub_clo rfl, sub_clo rfl, trivial⟩
  · exact ⟨by kernel_rfl, by kernel_rfl, by kernel_rfl, by kernel_rfl, trivial⟩
  · obtain ⟨i, ea⟩ : ∃ z, z = a := ⟨_, rfl⟩
    subst ea
    obtain ⟨i0, i1⟩ := ha
    refine sk_seq ?_
    refine sk_regionL Try.cfgOk hS ?_
    refine aT (fun h2 => ?_) (fun h2 => ?_)
    · have c3e : (decide ((((i : Nat) : Int) : Int) < ((l.length : Nat) : Int))) = true := Eq.trans (by kernel_rfl) h2
      clear h2
      have c3 : (((i : Nat) : Int) : Int) < ((l.length : Nat) : Int) := of_decide_eq_true c3e
      clear c3e
      refine al_nil ?_
      refine sk_seq ?_
      refine kT ?_
      refine sk_skip (sk_seq (sk_block (sk_seq ?_)))
      refine kK Try.cfgOk hS ?_
      refine sk_seq ?_
      refine sk_regionL Try.cfgOk hS ?_
      refine aK 3 ?_
      refine aM (indexAddrV Try.cfg 33 (inlL scells 3 l) (.int .i64 ((i : Nat) : Int))) (elt (flatL scells l) (i * 3)) (idx_inlL tokC (by kernel_rfl) (by first | omega | simp)) ?_
      have hx4l : i < l.length := by omega
      refine Exists.elim (get_ex hx4l) fun x4 hx4 => ?_
      clear hx4l
      refine aM (loadV Try.cfg (St.empty 0) 66 (elt (flatL scells l) (i * 3))) (.agg #[.int .i64 x4.1, .int .i64 x4.2.1, .int .i64 x4.2.2]) (load_el tokC (by kernel_rfl) scells_len hx4) ?_
      refine aB 40 [.agg #[.int .i64 x4.1, .int .i64 x4.2.1, .int .i64 x4.2.2], .pointer (some ⟨0, 0, none⟩)] (decide (kt = x4.1 ∧ kk ≥ x4.2.1 ∧ kk ≤ x4.2.2)) _ rfl (hC40 _ _ _ _ (con_reads1_at x4.1 x4.2.1 x4.2.2 kt kk 0  _ (by kernel_rfl) (by kernel_rfl) )) (fun h5 => ?_) (fun h5 => ?_)
      · have c6 : kt = x4.1 ∧ kk ≥ x4.2.1 ∧ kk ≤ x4.2.2 := of_decide_eq_true h5
        clear h5
        refine al_nil ?_
        refine kT ?_
        refine sk_seq ?_
        refine kK Try.cfgOk hS ?_
        refine sk_ret ?_
        refine .inr ⟨_, _, (fun h => by cases h), .inr ⟨rfl, ?_, rfl, rfl⟩, ⟨by kernel_rfl, ⟨by kernel_rfl, trivial⟩, ⟨sub_clo rfl, trivial⟩, Nat.le_of_ble_eq_true (by kernel_rfl), ⟨by kernel_rfl, ((wf_empty 0).new _), (selfs (all_cons (o := .cells [.int .i64 kt, .int .i64 kk]) (by kernel_rfl) (OSub.cells (.cons (sub_clo rfl) (.cons (sub_clo rfl) .nil))) (all_none)))⟩, mem_all (by kernel_rfl)⟩⟩
        · first | exact ⟨_, by assumption, by first | assumption | omega | exact Or.inl (by assumption) | exact Or.inr (by assumption) | exact fun h => h.elim (by assumption) (by assumption) | (simp_all; done)⟩ | exact ⟨_, by assumption, by first | assumption | omega | exact Or.inl (by assumption) | exact Or.inr (by assumption) | exact fun h => h.elim (by assumption) (by assumption) | (simp_all; done), rfl⟩
      · have c6 : ¬ (kt = x4.1 ∧ kk ≥ x4.2.1 ∧ kk ≤ x4.2.2) := of_decide_eq_false h5
        clear h5
        refine al_nil ?_
        refine kF ?_
        refine sk_skip ?_
        refine sk_regionL Try.cfgOk hS ?_
        refine aE (v := .int .i64 (IntKind.wrap .i64 (((i : Nat) : Int) + 1))) (.int .i64 ((i + 1 : Nat) : Int)) (congrArg (Value.int .i64) (wrap_to (by omega) (by omega))) ?_
        refine aN ?_
        refine .inl ⟨i + 1, rfl, ⟨?_, ?_⟩, ?_, ⟨by kernel_rfl, ⟨by kernel_rfl, by kernel_rfl, by kernel_rfl, by kernel_rfl, trivial⟩, ⟨sub_clo rfl, .func (.same _ (by intro l h; cases h)) .nil (.cons (.ptr ⟨by decide, rfl⟩) .nil), sub_clo rfl, sub_clo rfl, trivial⟩, Nat.le_of_ble_eq_true (by kernel_rfl), ⟨by kernel_rfl, ((wf_empty 0).new _), (selfs (all_cons (o := .cells [.int .i64 kt, .int .i64 kk]) (by kernel_rfl) (OSub.cells (.cons (sub_clo rfl) (.cons (sub_clo rfl) .nil))) (all_none)))⟩, mem_all (by kernel_rfl)⟩⟩
        · (try dsimp only); omega
        · (try dsimp only); exact NoHit.succ (p := (fun x : Span => kt = x.1 ∧ kk ≥ x.2.1 ∧ kk ≤ x.2.2)) (by assumption) (by assumption) (by first | assumption | omega | exact fun h => h.elim (by assumption) (by assumption) | (simp_all; done))
        · omega
    · have c3e : (decide ((((i : Nat) : Int) : Int) < ((l.length : Nat) : Int))) = false := Eq.trans (by kernel_rfl) h2
      clear h2
      have c3 : ¬ (((i : Nat) : Int) : Int) < ((l.length : Nat) : Int) := of_decide_eq_false c3e
      clear c3e
      refine al_nil ?_
      refine sk_seq ?_
      refine kF ?_
      refine sk_exit ?_
      dsimp only
      refine .inr ⟨_, _, (fun h => by cases h), .inl ⟨rfl, ?_, rfl, rfl⟩, ⟨by kernel_rfl, ⟨by kernel_rfl, by kernel_rfl, by kernel_rfl, by kernel_rfl, trivial⟩, ⟨sub_clo rfl, .func (.same _ (by intro l h; cases h)) .nil (.cons (.ptr ⟨by decide, rfl⟩) .nil), sub_clo rfl, sub_clo rfl, trivial⟩, Nat.le_of_ble_eq_true (by kernel_rfl), ⟨by kernel_rfl, ((wf_empty 0).new _), (selfs (all_cons (o := .cells [.int .i64 kt, .int .i64 kk]) (by kernel_rfl) (OSub.cells (.cons (sub_clo rfl) (.cons (sub_clo rfl) .nil))) (all_none)))⟩, mem_all (by kernel_rfl)⟩⟩
      · omega
  · exact ⟨by ((try dsimp only); first | done | (omega)), by ((try dsimp only); first | done | (exact NoHit.zero))⟩
  rintro o e1 s1 ⟨a, lv1, M1, m1, ha, (⟨rfl, hx, rfl, rfl⟩ | ⟨rfl, hx, rfl, rfl⟩), rfl, rfl⟩
  ·
    obtain ⟨i, ea⟩ : ∃ z, z = a := ⟨_, rfl⟩
    subst ea
    obtain ⟨i0, i1⟩ := ha
    dsimp only
    try rw [if_pos rfl]
    refine sk_seq ?_
    refine kK Try.cfgOk hS ?_
    refine sk_ret ?_
    exact ⟨[.int .i64 (-1)], by kernel_rfl, congrArg (Value.int .i64) (by first | (obtain ⟨x, h1, h2⟩ := hx; exact (fidx_hit (by assumption) h1 h2).symm) | exact (fidx_none (NoHit.none (by assumption) hx)).symm), Nat.le_of_ble_eq_true (by kernel_rfl), all1 (by kernel_rfl)⟩
  ·
    obtain ⟨i, ea⟩ : ∃ z, z = a := ⟨_, rfl⟩
    subst ea
    obtain ⟨i0, i1⟩ := ha
    dsimp only
    exact ⟨[.int .i64 ((i : Nat) : Int)], by kernel_rfl, congrArg (Value.int .i64) (by first | (obtain ⟨x, h1, h2⟩ := hx; exact (fidx_hit (by assumption) h1 h2).symm) | exact (fidx_none (NoHit.none (by assumption) hx)).symm), Nat.le_of_ble_eq_true (by kernel_rfl), all1 (by kernel_rfl)⟩
noncomputable def sm_indexS : Small Try.prog 0 47 ((List Span) × Int × Int) where
  k := 1
  A := fun z9 ρ => [inlL scells 3 z9.1, .func (.func 40) #[] #[.pointer (some ⟨(ρ 0), 0, none⟩)]]
  M := fun z9 ρ => objL [.cells [.int .i64 z9.2.1, .int .i64 z9.2.2]]
  M1 := fun z9 ρ => objL [.cells [.int .i64 z9.2.1, .int .i64 z9.2.2]]
  V := fun z9 ρ => .int .i64 (fidx (fun x : Span => z9.2.1 = x.1 ∧ z9.2.2 ≥ x.2.1 ∧ z9.2.2 ≤ x.2.2) z9.1)
  Pre := fun z9 => (z9.1.length ≤ 1000000)
  ch := []
  N := 400
  s0 := fun z9 => ((St.empty 0).new (.cells [.int .i64 z9.2.1, .int .i64 z9.2.2]))
  hch := by decide
  hsame := fun x ρ => all1 (fun _ => rfl)
  hG := rfl
  hn := fun x => rfl
  hwf := fun x => ((wf_empty 0).new _)
  hget := fun x => all1 (by kernel_rfl)
  noloop := fun x ρ => all1 (fun h => h.elim)
  inA := fun x ρ R hR => .cons (sub_clo rfl) (.cons (.func (.same _ (by intro l h; cases h)) .nil (.cons (.ptr (hR 0 _ (by decide))) .nil)) .nil)
  inM := fun x ρ R hR => all1 (OSub.cells (.cons (sub_clo rfl) (.cons (sub_clo rfl) .nil)))
  outM := fun x ρ R hR => all1 (OSub.cells (.cons (sub_clo rfl) (.cons (sub_clo rfl) .nil)))
  outV := fun x ρ R hR => sub_clo rfl
  dom := by
    intro x ρ a ha
    cases ha
  sc := by
    rintro ⟨a0, a1, a2⟩ p0
    exact indexS_sc a0 a1 a2 p0
  det := by
    rintro ⟨a0, a1, a2⟩ ρ ⟨b0, b1, b2⟩ σ s h hm hm'
    simp only [List.cons.injEq, and_true, Int.natCast_inj, UInt8.toNat_inj, Value.int.injEq, Value.bool.injEq, Value.string.injEq, Value.agg.injEq, Array.mk.injEq, true_and, Value.pointer.injEq, Option.some.injEq, Addr.mk.injEq, Value.func.injEq, AObj.cells.injEq, AObj.arr.injEq, slL_iff, scells_iff] at h
    have q0 : ρ 0 = σ 0 := by simp_all
    have e0 := (hm 0 (by decide)).symm.trans ((congrArg s.get q0).trans (hm' 0 (by decide)))
    simp only [objL, List.getD_cons_zero, List.getD_cons_succ, List.cons.injEq, and_true, Int.natCast_inj, UInt8.toNat_inj, Value.int.injEq, Value.bool.injEq, Value.string.injEq, Value.agg.injEq, Array.mk.injEq, true_and, Value.pointer.injEq, Option.some.injEq, Addr.mk.injEq, Value.func.injEq, AObj.cells.injEq, AObj.arr.injEq, slL_iff, scells_iff] at e0
    have q : ∀ a, a < 1 → ρ a = σ a := all1 q0
    clear hm hm'
    exact ⟨by first | rfl | (simp_all [Prod.ext_iff]; done) | exact e0, q⟩
  par := by
    intro x ρ σ h
    have h0 := h 0 (by decide)
    exact ⟨by first | rfl | simp only [h0], by first | exact fun _ _ => rfl | (intro a ha; simp only [h0])⟩
noncomputable def con_indexS : Con Try.prog 0 := sm_indexS.con
theorem con_indexS_at (l : List Span) (kt : Int) (kk : Int) (i0 : Nat) (h0 : l.length ≤ 1000000) (s : St) (hn : nodupB [i0] = true) (m0 : s.get i0 = some (.cells [.int .i64 kt, .int .i64 kk])) : con_indexS.rel [inlL scells 3 l, .func (.func 40) #[] #[.pointer (some ⟨i0, 0, none⟩)]] s (.int .i64 (fidx (fun x : Span => kt = x.1 ∧ kk ≥ x.2.1 ∧ kk ≤ x.2.2) l)) s :=
  sm_indexS.at_ (l, kt, kk) [i0] s _ h0 rfl hn rfl (all1 m0) rfl rfl
theorem containsS_fn : Try.cfg.fn 39 = some Try.f39 := by kernel_rfl
set_option maxHeartbeats 4000000 in
set_option maxRecDepth 100000 in
theorem containsS_sc (l : List Span) (kt : Int) (kk : Int) (h0 : l.length ≤ 1000000) : SC Try.prog 0 39 [inlL scells 3 l, .func (.func 40) #[] #[.pointer (some ⟨0, 0, none⟩)]] ((St.empty 0).new (.cells [.int .i64 kt, .int .i64 kk])) fun v s' => v = .bool (decide (inP l kt kk)) ∧ s'.n ≤ 400 ∧ ∀ a, a < 1 → s'.get a = some (objL [.cells [.int .i64 kt, .int .i64 kk]] a) := by
  obtain ⟨rc, hS, hC⟩ := rc_con (sound_run Try.cfgOk 300) [con_indexS] (by kernel_rfl)
  have hC47 := hC con_indexS (.head _)
  refine sc_body Try.cfgOk containsS_fn rfl ?_
  refine sk_seq ?_
  refine kK Try.cfgOk hS ?_
  refine sk_seq ?_
  refine sk_regionL Try.cfgOk hS ?_
  refine aK 2 ?_
  refine aC 47 [inlL scells 3 l, .func (.func 40) #[] #[.pointer (some ⟨0, 0, none⟩)]] (.int .i64 (fidx (fun x : Span => kt = x.1 ∧ kk ≥ x.2.1 ∧ kk ≤ x.2.2) l)) _ rfl (hC47 _ _ _ _ (con_indexS_at l kt kk 0 (by first | omega | (simp; done) | (simp; omega)) _ (by kernel_rfl) (by kernel_rfl) )) ?_
  refine aT (fun h1 => ?_) (fun h1 => ?_)
  · have c2e : (decide (((fidx (fun x : Span => kt = x.1 ∧ kk ≥ x.2.1 ∧ kk ≤ x.2.2) l) : Int) ≥ 0)) = true := Eq.trans (by kernel_rfl) h1
    clear h1
    have c2 : ((fidx (fun x : Span => kt = x.1 ∧ kk ≥ x.2.1 ∧ kk ≤ x.2.2) l) : Int) ≥ 0 := of_decide_eq_true c2e
    clear c2e
    refine aN ?_
    refine sk_ret ?_
    exact ⟨[.bool true], by kernel_rfl, congrArg Value.bool (by first | rfl | (simp only [fidx_ge]) | (exact (decide_eq_true (fidx_ge.1 (by assumption))).symm) | (exact (decide_eq_false (fun h => absurd (fidx_ge.2 h) (by assumption))).symm)), Nat.le_of_ble_eq_true (by kernel_rfl), all1 (by kernel_rfl)⟩
  · have c2e : (decide (((fidx (fun x : Span => kt = x.1 ∧ kk ≥ x.2.1 ∧ kk ≤ x.2.2) l) : Int) ≥ 0)) = false := Eq.trans (by kernel_rfl) h1
    clear h1
    have c2 : ¬ ((fidx (fun x : Span => kt = x.1 ∧ kk ≥ x.2.1 ∧ kk ≤ x.2.2) l) : Int) ≥ 0 := of_decide_eq_false c2e
    clear c2e
    refine aN ?_
    refine sk_ret ?_
    exact ⟨[.bool false], by kernel_rfl, congrArg Value.bool (by first | rfl | (simp only [fidx_ge]) | (exact (decide_eq_true (fidx_ge.1 (by assumption))).symm) | (exact (decide_eq_false (fun h => absurd (fidx_ge.2 h) (by assumption))).symm)), Nat.le_of_ble_eq_true (by kernel_rfl), all1 (by kernel_rfl)⟩
noncomputable def sm_containsS : Small Try.prog 0 39 ((List Span) × Int × Int) where
  k := 1
  A := fun z9 ρ => [inlL scells 3 z9.1, .func (.func 40) #[] #[.pointer (some ⟨(ρ 0), 0, none⟩)]]
  M := fun z9 ρ => objL [.cells [.int .i64 z9.2.1, .int .i64 z9.2.2]]
  M1 := fun z9 ρ => objL [.cells [.int .i64 z9.2.1, .int .i64 z9.2.2]]
  V := fun z9 ρ => .bool (decide (inP z9.1 z9.2.1 z9.2.2))
  Pre := fun z9 => (z9.1.length ≤ 1000000)
  ch := []
  N := 400
  s0 := fun z9 => ((St.empty 0).new (.cells [.int .i64 z9.2.1, .int .i64 z9.2.2]))
  hch := by decide
  hsame := fun x ρ => all1 (fun _ => rfl)
  hG := rfl
  hn := fun x => rfl
  hwf := fun x => ((wf_empty 0).new _)
  hget := fun x => all1 (by kernel_rfl)
  noloop := fun x ρ => all1 (fun h => h.elim)
  inA := fun x ρ R hR => .cons (sub_clo rfl) (.cons (.func (.same _ (by intro l h; cases h)) .nil (.cons (.ptr (hR 0 _ (by decide))) .nil)) .nil)
  inM := fun x ρ R hR => all1 (OSub.cells (.cons (sub_clo rfl) (.cons (sub_clo rfl) .nil)))
  outM := fun x ρ R hR => all1 (OSub.cells (.cons (sub_clo rfl) (.cons (sub_clo rfl) .nil)))
  outV := fun x ρ R hR => sub_clo rfl
  dom := by
    intro x ρ a ha
    cases ha
  sc := by
    rintro ⟨a0, a1, a2⟩ p0
    exact containsS_sc a0 a1 a2 p0
  det := by
    rintro ⟨a0, a1, a2⟩ ρ ⟨b0, b1, b2⟩ σ s h hm hm'
    simp only [List.cons.injEq, and_true, Int.natCast_inj, UInt8.toNat_inj, Value.int.injEq, Value.bool.injEq, Value.string.injEq, Value.agg.injEq, Array.mk.injEq, true_and, Value.pointer.injEq, Option.some.injEq, Addr.mk.injEq, Value.func.injEq, AObj.cells.injEq, AObj.arr.injEq, slL_iff, scells_iff] at h
    have q0 : ρ 0 = σ 0 := by simp_all
    have e0 := (hm 0 (by decide)).symm.trans ((congrArg s.get q0).trans (hm' 0 (by decide)))
    simp only [objL, List.getD_cons_zero, List.getD_cons_succ, List.cons.injEq, and_true, Int.natCast_inj, UInt8.toNat_inj, Value.int.injEq, Value.bool.injEq, Value.string.injEq, Value.agg.injEq, Array.mk.injEq, true_and, Value.pointer.injEq, Option.some.injEq, Addr.mk.injEq, Value.func.injEq, AObj.cells.injEq, AObj.arr.injEq, slL_iff, scells_iff] at e0
    have q : ∀ a, a < 1 → ρ a = σ a := all1 q0
    clear hm hm'
    exact ⟨by first | rfl | (simp_all [Prod.ext_iff]; done) | exact e0, q⟩
  par := by
    intro x ρ σ h
    have h0 := h 0 (by decide)
    exact ⟨by first | rfl | simp only [h0], by first | exact fun _ _ => rfl | (intro a ha; simp only [h0])⟩
noncomputable def con_containsS : Con Try.prog 0 := sm_containsS.con
theorem con_containsS_at (l : List Span) (kt : Int) (kk : Int) (i0 : Nat) (h0 : l.length ≤ 1000000) (s : St) (hn : nodupB [i0] = true) (m0 : s.get i0 = some (.cells [.int .i64 kt, .int .i64 kk])) : con_containsS.rel [inlL scells 3 l, .func (.func 40) #[] #[.pointer (some ⟨i0, 0, none⟩)]] s (.bool (decide (inP l kt kk))) s :=
  sm_containsS.at_ (l, kt, kk) [i0] s _ h0 rfl hn rfl (all1 m0) rfl rfl
theorem readsF_fn : Try.cfg.fn 28 = some Try.f28 := by kernel_rfl
set_option maxHeartbeats 4000000 in
set_option maxRecDepth 100000 in
theorem readsF_sc (rs : List Key) (ss : List Span) (ws : List Key) (kt : Int) (kk : Int) (h0 : rs.length ≤ 1000000) (h1 : ss.length ≤ 1000000) : SC Try.prog 0 28 [.agg #[inlL kcells 2 rs, inlL scells 3 ss, inlL kcells 2 ws], .agg #[.int .i64 kt, .int .i64 kk]] (St.empty 0) fun v s' => v = .bool (decide (readsP rs ss kt kk)) ∧ s'.n ≤ 400 := by
  obtain ⟨rc, hS, hC⟩ := rc_con (sound_run Try.cfgOk 300) [con_containsK, con_containsS] (by kernel_rfl)
  have hC38 := hC con_containsK (.head _)
  have hC39 := hC con_containsS (.tail _ (.head _))
  refine sc_ice0 (N := 400) (v2 := .bool (decide (readsP rs ss kt kk))) (Q := fun v s' => FS 0 s' v (.bool (decide (readsP rs ss kt kk))) ∧ s'.n ≤ 400) ?_ (fun _ _ h => h)
  refine sc_body Try.cfgOk readsF_fn rfl ?_
  refine sk_seq ?_
  refine kK Try.cfgOk hS ?_
  refine sk_seq ?_
  refine sk_regionL Try.cfgOk hS ?_
  refine aK 3 ?_
  refine aB 38 [inlL kcells 2 rs, .agg #[.int .i64 kt, .int .i64 kk]] (decide (hasK rs kt kk)) _ rfl (hC38 _ _ _ _ (con_containsK_at rs kt kk (by first | omega | (simp; done) | (simp; omega)) _)) (fun h1 => ?_) (fun h1 => ?_)
  · have c2 : hasK rs kt kk := of_decide_eq_true h1
    clear h1
    refine aN ?_
    refine sk_ret ?_
    exact ⟨[.bool true], by kernel_rfl, fs_to (fs_clo rfl) (congrArg Value.bool (by simp [*])), Nat.le_of_ble_eq_true (by kernel_rfl)⟩
  · have c2 : ¬ (hasK rs kt kk) := of_decide_eq_false h1
    clear h1
    refine aK 4 ?_
    refine aB 39 [inlL scells 3 ss, .func (.func 40) #[] #[.pointer (some ⟨1, 0, none⟩)]] (decide (inP ss kt kk)) _ rfl (hC39 _ _ _ _ (con_containsS_at ss kt kk 1 (by first | omega | (simp; done) | (simp; omega)) _ (by kernel_rfl) (by kernel_rfl) )) (fun h3 => ?_) (fun h3 => ?_)
    · have c4 : inP ss kt kk := of_decide_eq_true h3
      clear h3
      refine aN ?_
      refine sk_ret ?_
      exact ⟨[.bool true], by kernel_rfl, fs_to (fs_clo rfl) (congrArg Value.bool (by simp [*])), Nat.le_of_ble_eq_true (by kernel_rfl)⟩
    · have c4 : ¬ (inP ss kt kk) := of_decide_eq_false h3
      clear h3
      refine aN ?_
      refine sk_ret ?_
      exact ⟨[.bool false], by kernel_rfl, fs_to (fs_clo rfl) (congrArg Value.bool (by simp [*])), Nat.le_of_ble_eq_true (by kernel_rfl)⟩
noncomputable def con_readsF : Con Try.prog 0 := Con.pure (α := (List Key) × (List Span) × (List Key) × Int × Int) 28 (fun z9 => [.agg #[inlL kcells 2 z9.1, inlL scells 3 z9.2.1, inlL kcells 2 z9.2.2.1], .agg #[.int .i64 z9.2.2.2.1, .int .i64 z9.2.2.2.2]]) (fun z9 => .bool (decide (readsP z9.1 z9.2.1 z9.2.2.2.1 z9.2.2.2.2))) (fun z9 => (z9.1.length ≤ 1000000) ∧ (z9.2.1.length ≤ 1000000)) (by
  rintro ⟨a0, a1, a2, a3, a4⟩ ⟨b0, b1, b2, b3, b4⟩ h
  simp only [List.cons.injEq, and_true, Int.natCast_inj, UInt8.toNat_inj, Value.int.injEq, Value.bool.injEq, Value.string.injEq, Value.agg.injEq, Array.mk.injEq, true_and, kcells_iff, scells_iff] at h
  first | exact h | (simp only [Prod.ext_iff, h, and_self, and_true, true_and]; done) | simp_all [Prod.ext_iff]) (fun _ => rfl) (fun _ => rfl) 400 (by
  rintro ⟨a0, a1, a2, a3, a4⟩ ⟨p0, p1⟩
  exact readsF_sc a0 a1 a2 a3 a4 p0 p1)
theorem con_readsF_at (rs : List Key) (ss : List Span) (ws : List Key) (kt : Int) (kk : Int) (h0 : rs.length ≤ 1000000) (h1 : ss.length ≤ 1000000) (s : St) : con_readsF.rel [.agg #[inlL kcells 2 rs, inlL scells 3 ss, inlL kcells 2 ws], .agg #[.int .i64 kt, .int .i64 kk]] s (.bool (decide (readsP rs ss kt kk))) s := con_pure (rs, ss, ws, kt, kk) ⟨h0, h1⟩ s
end Go.Proofs.Ytfpkfcdeoiofiaa