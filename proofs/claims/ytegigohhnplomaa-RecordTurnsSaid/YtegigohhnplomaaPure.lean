/- Functions of a few numbers. -/
import Derived.Test.YtegigohhnplomaaBase
import Derived.Test.YtegigohhnplomaaKit
set_option linter.unusedVariables false
set_option linter.unusedSimpArgs false
set_option linter.unnecessarySimpa false
set_option maxHeartbeats 4000000
set_option maxRecDepth 100000
namespace Go.Proofs.Ytegigohhnplomaa
open Go.Ai
def cmpI (a b : Int) : Int := if a < b then -1 else if a > b then 1 else 0
def lessK (a b : Key) : Prop := a.1 < b.1 ∨ a.1 = b.1 ∧ a.2 < b.2
instance (a b : Key) : Decidable (lessK a b) := inferInstanceAs (Decidable (_ ∨ _))
theorem isNaN_fn : Try.cfg.fn 79 = some Try.f79 := Z1
theorem isNaN_sc (a : Int)  : SC Try.prog 0 79 [.int .i64 a] (St.empty 0) fun v s' => v = .bool false ∧ s'.n ≤ 400 := by
 have hS := Z24 Try.cfgOk 300;refine sc_ice0 (N := 400) (v2 := .bool false) (Q := fun v s' => FS 0 s' v (.bool false) ∧ s'.n ≤ 400) ?_ (fun _ _ h => h);refine Z2d Try.cfgOk isNaN_fn rfl ?_;refine Z1u ?_;refine kK Try.cfgOk hS ?_;refine Z1u ?_;refine Z1t Try.cfgOk hS ?_;refine aK 2 ?_;refine aT (fun h1 => ?_) (fun h1 => ?_)
 ·have c2e : ((a : Int) != a) = true := Eq.trans Z1 h1;clear h1;have c2 : ¬ (a : Int) = a := bne_iff_ne.1 c2e;clear c2e;exact absurd rfl c2
 ·have c2e : ((a : Int) != a) = false := Eq.trans Z1 h1;clear h1;have c2 : (a : Int) = a := bne_eq_false_iff_eq.1 c2e;clear c2e;refine aN ?_;refine Z1z ?_;exact ⟨[.bool false], Z1, .same (sub_clo rfl), Zle⟩
noncomputable def con_isNaN : Con Try.prog 0 := Con.pure (α := Int) 79 (fun z9 => [.int .i64 z9]) (fun z9 => .bool false) (fun z9 => True) (by
 intro x y h
 simp only [injA] at h
 first | exact h | (simp only [Prod.ext_iff, h, and_self, and_true, true_and]; done) | simp_all [Prod.ext_iff]) (fun _ => rfl) (fun _ => rfl) 400 (by
 rintro x _
 exact isNaN_sc x )
theorem con_isNaN_at (a : Int)  (s : St) : con_isNaN.rel [.int .i64 a] s (.bool false) s := con_pure a trivial s
theorem compare_fn : Try.cfg.fn 77 = some Try.f77 := Z1
theorem compare_sc (a : Int) (b : Int)  : SC Try.prog 0 77 [.int .i64 a, .int .i64 b] (St.empty 0) fun v s' => v = .int .i64 (cmpI a b) ∧ s'.n ≤ 400 := by
 obtain ⟨rc, hS, hC⟩ := rc_con (Z24 Try.cfgOk 300) [con_isNaN] Z1;have hC79 := hC con_isNaN (.head _);refine sc_ice0 (N := 400) (v2 := .int .i64 (cmpI a b)) (Q := fun v s' => FS 0 s' v (.int .i64 (cmpI a b)) ∧ s'.n ≤ 400) ?_ (fun _ _ h => h);refine Z2d Try.cfgOk compare_fn rfl ?_;refine Z1u ?_;refine kK Try.cfgOk hS ?_;refine Z1u ?_;refine Z1t Try.cfgOk hS ?_;refine aK 1 ?_;refine aC 79 [.int .i64 a] (.bool false) _ rfl (hC79 _ _ _ _ (con_isNaN_at a  _)) ?_;refine aN ?_;refine Z1u ?_;refine Z1t Try.cfgOk hS ?_;refine aK 1 ?_;refine aC 79 [.int .i64 b] (.bool false) _ rfl (hC79 _ _ _ _ (con_isNaN_at b  _)) ?_;refine aN ?_;refine Z1u (Z1u ?_);refine kK Try.cfgOk hS ?_;refine kF ?_;refine Z26 (Z1u (Z1u ?_));refine kK Try.cfgOk hS ?_;refine kF ?_;refine Z26 (Z1u (Z1u ?_));refine Z1t Try.cfgOk hS ?_;refine aK 2 ?_;refine aT (fun h1 => ?_) (fun h1 => ?_)
 ·have c2e : (decide ((a : Int) < b)) = true := Eq.trans Z1 h1;clear h1;have c2 : (a : Int) < b := of_decide_eq_true c2e;clear c2e;refine Z29 ?_;refine kT ?_;refine Z1u ?_;refine kK Try.cfgOk hS ?_;refine Z1z ?_;exact ⟨[.int .i64 (-1)], Z1, fs_to (Z23 rfl) (congrArg (Value.int .i64) Z18), Zle⟩
 ·have c2e : (decide ((a : Int) < b)) = false := Eq.trans Z1 h1;clear h1;have c2 : ¬ (a : Int) < b := of_decide_eq_false c2e;clear c2e;refine Z29 ?_;refine kF ?_;refine Z26 (Z1u (Z1u ?_));refine Z1t Try.cfgOk hS ?_;refine aK 2 ?_;refine aT (fun h3 => ?_) (fun h3 => ?_)
  ·have c4e : (decide ((a : Int) > b)) = true := Eq.trans Z1 h3;clear h3;have c4 : (a : Int) > b := of_decide_eq_true c4e;clear c4e;refine Z29 ?_;refine kT ?_;refine Z1u ?_;refine kK Try.cfgOk hS ?_;refine Z1z ?_;exact ⟨[.int .i64 1], Z1, fs_to (Z23 rfl) (congrArg (Value.int .i64) Z18), Zle⟩
  ·have c4e : (decide ((a : Int) > b)) = false := Eq.trans Z1 h3;clear h3;have c4 : ¬ (a : Int) > b := of_decide_eq_false c4e;clear c4e;refine Z29 ?_;refine kF ?_;refine Z26 (Z1u ?_);refine kK Try.cfgOk hS ?_;refine Z1z ?_;exact ⟨[.int .i64 0], Z1, fs_to (Z23 rfl) (congrArg (Value.int .i64) Z18), Zle⟩
noncomputable def con_compare : Con Try.prog 0 := Con.pure (α := Int × Int) 77 (fun z9 => [.int .i64 z9.1, .int .i64 z9.2]) (fun z9 => .int .i64 (cmpI z9.1 z9.2)) (fun z9 => True) (by
 rintro ⟨a0, a1⟩ ⟨b0, b1⟩ h
 simp only [injA] at h
 first | exact h | (simp only [Prod.ext_iff, h, and_self, and_true, true_and]; done) | simp_all [Prod.ext_iff]) (fun _ => rfl) (fun _ => rfl) 400 (by
 rintro ⟨a0, a1⟩ _
 exact compare_sc a0 a1 )
theorem con_compare_at (a : Int) (b : Int)  (s : St) : con_compare.rel [.int .i64 a, .int .i64 b] s (.int .i64 (cmpI a b)) s := con_pure (a, b) trivial s
theorem table_fn : Try.cfg.fn 55 = some Try.f55 := Z1
theorem table_sc (n : Int)  : SC Try.prog 0 55 [.int .i64 n] (St.empty 0) fun v s' => v = .bool (decide (0 ≤ n ∧ n < 4)) ∧ s'.n ≤ 400 := by
 have hS := Z24 Try.cfgOk 300;refine sc_ice0 (N := 400) (v2 := .bool (decide (0 ≤ n ∧ n < 4))) (Q := fun v s' => FS 0 s' v (.bool (decide (0 ≤ n ∧ n < 4))) ∧ s'.n ≤ 400) ?_ (fun _ _ h => h);refine Z2d Try.cfgOk table_fn rfl ?_;refine Z1u ?_;refine kK Try.cfgOk hS ?_;refine Z1u ?_;refine Z1t Try.cfgOk hS ?_;refine aK 1 ?_;refine aT (fun h1 => ?_) (fun h1 => ?_)
 ·have c2e : (decide ((n : Int) ≥ 0)) = true := Eq.trans Z1 h1;clear h1;have c2 : (n : Int) ≥ 0 := of_decide_eq_true c2e;clear c2e;refine aK 2 ?_;refine aT (fun h3 => ?_) (fun h3 => ?_)
  ·have c4e : (decide ((n : Int) < 4)) = true := Eq.trans Z1 h3;clear h3;have c4 : (n : Int) < 4 := of_decide_eq_true c4e;clear c4e;refine aN ?_;refine Z1z ?_;exact ⟨[.bool true], Z1, fs_to (Z23 rfl) (congrArg Value.bool (by simp <;> omega)), Zle⟩
  ·have c4e : (decide ((n : Int) < 4)) = false := Eq.trans Z1 h3;clear h3;have c4 : ¬ (n : Int) < 4 := of_decide_eq_false c4e;clear c4e;refine aN ?_;refine Z1z ?_;exact ⟨[.bool false], Z1, fs_to (Z23 rfl) (congrArg Value.bool (by simp <;> omega)), Zle⟩
 ·have c2e : (decide ((n : Int) ≥ 0)) = false := Eq.trans Z1 h1;clear h1;have c2 : ¬ (n : Int) ≥ 0 := of_decide_eq_false c2e;clear c2e;refine aN ?_;refine Z1z ?_;exact ⟨[.bool false], Z1, fs_to (Z23 rfl) (congrArg Value.bool (by simp <;> omega)), Zle⟩
noncomputable def con_table : Con Try.prog 0 := Con.pure (α := Int) 55 (fun z9 => [.int .i64 z9]) (fun z9 => .bool (decide (0 ≤ z9 ∧ z9 < 4))) (fun z9 => True) (by
 intro x y h
 simp only [injA] at h
 first | exact h | (simp only [Prod.ext_iff, h, and_self, and_true, true_and]; done) | simp_all [Prod.ext_iff]) (fun _ => rfl) (fun _ => rfl) 400 (by
 rintro x _
 exact table_sc x )
theorem con_table_at (n : Int)  (s : St) : con_table.rel [.int .i64 n] s (.bool (decide (0 ≤ n ∧ n < 4))) s := con_pure n trivial s
theorem apart_fn : Try.cfg.fn 57 = some Try.f57 := Z1
theorem apart_sc (at_ : Int) (al : Int) (ah : Int) (bt : Int) (bl : Int) (bh : Int)  : SC Try.prog 0 57 [.agg #[.int .i64 at_, .int .i64 al, .int .i64 ah], .agg #[.int .i64 bt, .int .i64 bl, .int .i64 bh]] (St.empty 0) fun v s' => v = .bool (decide (¬ at_ = bt ∨ ah < 9223372036854775806 ∧ IntKind.wrap .i64 (ah + 1) < bl)) ∧ s'.n ≤ 400 := by
 have hS := Z24 Try.cfgOk 300;refine sc_ice0 (N := 400) (v2 := .bool (decide (¬ at_ = bt ∨ ah < 9223372036854775806 ∧ IntKind.wrap .i64 (ah + 1) < bl))) (Q := fun v s' => FS 0 s' v (.bool (decide (¬ at_ = bt ∨ ah < 9223372036854775806 ∧ IntKind.wrap .i64 (ah + 1) < bl))) ∧ s'.n ≤ 400) ?_ (fun _ _ h => h);refine Z2d Try.cfgOk apart_fn rfl ?_;refine Z1u ?_;refine kK Try.cfgOk hS ?_;refine Z1u ?_;refine Z1t Try.cfgOk hS ?_;refine aK 4 ?_;refine aT (fun h1 => ?_) (fun h1 => ?_)
 ·have c2e : ((at_ : Int) != bt) = true := Eq.trans Z1 h1;clear h1;have c2 : ¬ (at_ : Int) = bt := bne_iff_ne.1 c2e;clear c2e;refine aN ?_;refine Z1z ?_;exact ⟨[.bool true], Z1, fs_to (Z23 rfl) (congrArg Value.bool Z1r), Zle⟩
 ·have c2e : ((at_ : Int) != bt) = false := Eq.trans Z1 h1;clear h1;have c2 : (at_ : Int) = bt := bne_eq_false_iff_eq.1 c2e;clear c2e;refine aK 3 ?_;refine aT (fun h3 => ?_) (fun h3 => ?_)
  ·have c4e : (decide ((ah : Int) < 9223372036854775806)) = true := Eq.trans Z1 h3;clear h3;have c4 : (ah : Int) < 9223372036854775806 := of_decide_eq_true c4e;clear c4e;refine aK 6 ?_;refine aT (fun h5 => ?_) (fun h5 => ?_)
   ·have c6e : (decide (((IntKind.wrap .i64 (ah + 1)) : Int) < bl)) = true := Eq.trans Z1 h5;clear h5;have c6 : ((IntKind.wrap .i64 (ah + 1)) : Int) < bl := of_decide_eq_true c6e;clear c6e;refine aN ?_;refine Z1z ?_;exact ⟨[.bool true], Z1, fs_to (Z23 rfl) (congrArg Value.bool Z1r), Zle⟩
   ·have c6e : (decide (((IntKind.wrap .i64 (ah + 1)) : Int) < bl)) = false := Eq.trans Z1 h5;clear h5;have c6 : ¬ ((IntKind.wrap .i64 (ah + 1)) : Int) < bl := of_decide_eq_false c6e;clear c6e;refine aN ?_;refine Z1z ?_;exact ⟨[.bool false], Z1, fs_to (Z23 rfl) (congrArg Value.bool Z1r), Zle⟩
  ·have c4e : (decide ((ah : Int) < 9223372036854775806)) = false := Eq.trans Z1 h3;clear h3;have c4 : ¬ (ah : Int) < 9223372036854775806 := of_decide_eq_false c4e;clear c4e;refine aN ?_;refine Z1z ?_;exact ⟨[.bool false], Z1, fs_to (Z23 rfl) (congrArg Value.bool Z1r), Zle⟩
noncomputable def con_apart : Con Try.prog 0 := Con.pure (α := Int × Int × Int × Int × Int × Int) 57 (fun z9 => [.agg #[.int .i64 z9.1, .int .i64 z9.2.1, .int .i64 z9.2.2.1], .agg #[.int .i64 z9.2.2.2.1, .int .i64 z9.2.2.2.2.1, .int .i64 z9.2.2.2.2.2]]) (fun z9 => .bool (decide (¬ z9.1 = z9.2.2.2.1 ∨ z9.2.2.1 < 9223372036854775806 ∧ IntKind.wrap .i64 (z9.2.2.1 + 1) < z9.2.2.2.2.1))) (fun z9 => True) (by
 rintro ⟨a0, a1, a2, a3, a4, a5⟩ ⟨b0, b1, b2, b3, b4, b5⟩ h
 simp only [injA] at h
 first | exact h | (simp only [Prod.ext_iff, h, and_self, and_true, true_and]; done) | simp_all [Prod.ext_iff]) (fun _ => rfl) (fun _ => rfl) 400 (by
 rintro ⟨a0, a1, a2, a3, a4, a5⟩ _
 exact apart_sc a0 a1 a2 a3 a4 a5 )
theorem con_apart_at (at_ : Int) (al : Int) (ah : Int) (bt : Int) (bl : Int) (bh : Int)  (s : St) : con_apart.rel [.agg #[.int .i64 at_, .int .i64 al, .int .i64 ah], .agg #[.int .i64 bt, .int .i64 bl, .int .i64 bh]] s (.bool (decide (¬ at_ = bt ∨ ah < 9223372036854775806 ∧ IntKind.wrap .i64 (ah + 1) < bl))) s := con_pure (at_, al, ah, bt, bl, bh) trivial s
end Go.Proofs.Ytegigohhnplomaa