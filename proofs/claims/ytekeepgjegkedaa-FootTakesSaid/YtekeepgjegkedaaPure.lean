/- Functions of a few numbers. -/
import Derived.Test.YtekeepgjegkedaaBase
import Derived.Test.YtekeepgjegkedaaKit
set_option linter.unusedVariables false
set_option linter.unusedSimpArgs false
set_option linter.unnecessarySimpa false
set_option maxHeartbeats 4000000
set_option maxRecDepth 100000
namespace Go.Proofs.Ytekeepgjegkedaa
open Go.Ai
def cmpI (a b : Int) : Int := if a < b then -1 else if a > b then 1 else 0
def lessK (a b : Key) : Prop := a.1 < b.1 ∨ a.1 = b.1 ∧ a.2 < b.2
instance (a b : Key) : Decidable (lessK a b) := inferInstanceAs (Decidable (_ ∨ _))
theorem isNaN_fn : Try.cfg.fn 87 = some Try.f87 := Z0
theorem isNaN_sc (a : Int)  : SC Try.prog 0 87 [.int .i64 a] (St.empty 0) fun v s' => v = .bool false ∧ s'.n ≤ 400 := by
 have hS := Z20 Try.cfgOk 300;refine sc_ice0 (N := 400) (v2 := .bool false) (Q := fun v s' => FS 0 s' v (.bool false) ∧ s'.n ≤ 400) ?_ (fun _ _ h => h);refine sc_body Try.cfgOk isNaN_fn rfl ?_;refine Z1q ?_;refine kK Try.cfgOk hS ?_;refine Z1q ?_;refine Z1p Try.cfgOk hS ?_;refine aK 2 ?_;refine aT (fun h1 => ?_) (fun h1 => ?_)
 ·have c2e : ((a : Int) != a) = true := Eq.trans Z0 h1;clear h1;have c2 : ¬ (a : Int) = a := bne_iff_ne.1 c2e;clear c2e;exact absurd rfl c2
 ·have c2e : ((a : Int) != a) = false := Eq.trans Z0 h1;clear h1;have c2 : (a : Int) = a := bne_eq_false_iff_eq.1 c2e;clear c2e;refine aN ?_;refine Z1v ?_;exact ⟨[.bool false], Z0, .same (sub_clo rfl), Zle⟩
noncomputable def con_isNaN : Con Try.prog 0 := Con.pure (α := Int) 87 (fun z9 => [.int .i64 z9]) (fun z9 => .bool false) (fun z9 => True) (by
 intro x y h
 simp only [injA] at h
 first | exact h | (simp only [Prod.ext_iff, h, and_self, and_true, true_and]; done) | simp_all [Prod.ext_iff]) (fun _ => rfl) (fun _ => rfl) 400 (by
 rintro x _
 exact isNaN_sc x )
theorem con_isNaN_at (a : Int)  (s : St) : con_isNaN.rel [.int .i64 a] s (.bool false) s := con_pure a trivial s
theorem compare_fn : Try.cfg.fn 73 = some Try.f73 := Z0
theorem compare_sc (a : Int) (b : Int)  : SC Try.prog 0 73 [.int .i64 a, .int .i64 b] (St.empty 0) fun v s' => v = .int .i64 (cmpI a b) ∧ s'.n ≤ 400 := by
 obtain ⟨rc, hS, hC⟩ := rc_con (Z20 Try.cfgOk 300) [con_isNaN] Z0;have hC87 := hC con_isNaN (.head _);refine sc_ice0 (N := 400) (v2 := .int .i64 (cmpI a b)) (Q := fun v s' => FS 0 s' v (.int .i64 (cmpI a b)) ∧ s'.n ≤ 400) ?_ (fun _ _ h => h);refine sc_body Try.cfgOk compare_fn rfl ?_;refine Z1q ?_;refine kK Try.cfgOk hS ?_;refine Z1q ?_;refine Z1p Try.cfgOk hS ?_;refine aK 1 ?_;refine aC 87 [.int .i64 a] (.bool false) _ rfl (hC87 _ _ _ _ (con_isNaN_at a  _)) ?_;refine aN ?_;refine Z1q ?_;refine Z1p Try.cfgOk hS ?_;refine aK 1 ?_;refine aC 87 [.int .i64 b] (.bool false) _ rfl (hC87 _ _ _ _ (con_isNaN_at b  _)) ?_;refine aN ?_;refine Z1q (Z1q ?_);refine kK Try.cfgOk hS ?_;refine kF ?_;refine Z21 (Z1q (Z1q ?_));refine kK Try.cfgOk hS ?_;refine kF ?_;refine Z21 (Z1q (Z1q ?_));refine Z1p Try.cfgOk hS ?_;refine aK 2 ?_;refine aT (fun h1 => ?_) (fun h1 => ?_)
 ·have c2e : (decide ((a : Int) < b)) = true := Eq.trans Z0 h1;clear h1;have c2 : (a : Int) < b := of_decide_eq_true c2e;clear c2e;refine Z24 ?_;refine kT ?_;refine Z1q ?_;refine kK Try.cfgOk hS ?_;refine Z1v ?_;exact ⟨[.int .i64 (-1)], Z0, fs_to (fs_clo rfl) (congrArg (Value.int .i64) Z0z), Zle⟩
 ·have c2e : (decide ((a : Int) < b)) = false := Eq.trans Z0 h1;clear h1;have c2 : ¬ (a : Int) < b := of_decide_eq_false c2e;clear c2e;refine Z24 ?_;refine kF ?_;refine Z21 (Z1q (Z1q ?_));refine Z1p Try.cfgOk hS ?_;refine aK 2 ?_;refine aT (fun h3 => ?_) (fun h3 => ?_)
  ·have c4e : (decide ((a : Int) > b)) = true := Eq.trans Z0 h3;clear h3;have c4 : (a : Int) > b := of_decide_eq_true c4e;clear c4e;refine Z24 ?_;refine kT ?_;refine Z1q ?_;refine kK Try.cfgOk hS ?_;refine Z1v ?_;exact ⟨[.int .i64 1], Z0, fs_to (fs_clo rfl) (congrArg (Value.int .i64) Z0z), Zle⟩
  ·have c4e : (decide ((a : Int) > b)) = false := Eq.trans Z0 h3;clear h3;have c4 : ¬ (a : Int) > b := of_decide_eq_false c4e;clear c4e;refine Z24 ?_;refine kF ?_;refine Z21 (Z1q ?_);refine kK Try.cfgOk hS ?_;refine Z1v ?_;exact ⟨[.int .i64 0], Z0, fs_to (fs_clo rfl) (congrArg (Value.int .i64) Z0z), Zle⟩
noncomputable def con_compare : Con Try.prog 0 := Con.pure (α := Int × Int) 73 (fun z9 => [.int .i64 z9.1, .int .i64 z9.2]) (fun z9 => .int .i64 (cmpI z9.1 z9.2)) (fun z9 => True) (by
 rintro ⟨a0, a1⟩ ⟨b0, b1⟩ h
 simp only [injA] at h
 first | exact h | (simp only [Prod.ext_iff, h, and_self, and_true, true_and]; done) | simp_all [Prod.ext_iff]) (fun _ => rfl) (fun _ => rfl) 400 (by
 rintro ⟨a0, a1⟩ _
 exact compare_sc a0 a1 )
theorem con_compare_at (a : Int) (b : Int)  (s : St) : con_compare.rel [.int .i64 a, .int .i64 b] s (.int .i64 (cmpI a b)) s := con_pure (a, b) trivial s
theorem table_fn : Try.cfg.fn 34 = some Try.f34 := Z0
theorem table_sc (n : Int)  : SC Try.prog 0 34 [.int .i64 n] (St.empty 0) fun v s' => v = .bool (decide (0 ≤ n ∧ n < 4)) ∧ s'.n ≤ 400 := by
 have hS := Z20 Try.cfgOk 300;refine sc_ice0 (N := 400) (v2 := .bool (decide (0 ≤ n ∧ n < 4))) (Q := fun v s' => FS 0 s' v (.bool (decide (0 ≤ n ∧ n < 4))) ∧ s'.n ≤ 400) ?_ (fun _ _ h => h);refine sc_body Try.cfgOk table_fn rfl ?_;refine Z1q ?_;refine kK Try.cfgOk hS ?_;refine Z1q ?_;refine Z1p Try.cfgOk hS ?_;refine aK 1 ?_;refine aT (fun h1 => ?_) (fun h1 => ?_)
 ·have c2e : (decide ((n : Int) ≥ 0)) = true := Eq.trans Z0 h1;clear h1;have c2 : (n : Int) ≥ 0 := of_decide_eq_true c2e;clear c2e;refine aK 2 ?_;refine aT (fun h3 => ?_) (fun h3 => ?_)
  ·have c4e : (decide ((n : Int) < 4)) = true := Eq.trans Z0 h3;clear h3;have c4 : (n : Int) < 4 := of_decide_eq_true c4e;clear c4e;refine aN ?_;refine Z1v ?_;exact ⟨[.bool true], Z0, fs_to (fs_clo rfl) (congrArg Value.bool (by simp <;> omega)), Zle⟩
  ·have c4e : (decide ((n : Int) < 4)) = false := Eq.trans Z0 h3;clear h3;have c4 : ¬ (n : Int) < 4 := of_decide_eq_false c4e;clear c4e;refine aN ?_;refine Z1v ?_;exact ⟨[.bool false], Z0, fs_to (fs_clo rfl) (congrArg Value.bool (by simp <;> omega)), Zle⟩
 ·have c2e : (decide ((n : Int) ≥ 0)) = false := Eq.trans Z0 h1;clear h1;have c2 : ¬ (n : Int) ≥ 0 := of_decide_eq_false c2e;clear c2e;refine aN ?_;refine Z1v ?_;exact ⟨[.bool false], Z0, fs_to (fs_clo rfl) (congrArg Value.bool (by simp <;> omega)), Zle⟩
noncomputable def con_table : Con Try.prog 0 := Con.pure (α := Int) 34 (fun z9 => [.int .i64 z9]) (fun z9 => .bool (decide (0 ≤ z9 ∧ z9 < 4))) (fun z9 => True) (by
 intro x y h
 simp only [injA] at h
 first | exact h | (simp only [Prod.ext_iff, h, and_self, and_true, true_and]; done) | simp_all [Prod.ext_iff]) (fun _ => rfl) (fun _ => rfl) 400 (by
 rintro x _
 exact table_sc x )
theorem con_table_at (n : Int)  (s : St) : con_table.rel [.int .i64 n] s (.bool (decide (0 ≤ n ∧ n < 4))) s := con_pure n trivial s
theorem between_fn : Try.cfg.fn 47 = some Try.f47 := Z0
theorem between_sc (a : Int) (b : Int)  : SC Try.prog 0 47 [.int .i64 a, .int .i64 b] (St.empty 0) fun v s' => v = .bool (decide (a < b ∧ ¬ IntKind.wrap .i64 (a + 1) = b)) ∧ s'.n ≤ 400 := by
 have hS := Z20 Try.cfgOk 300;refine sc_ice0 (N := 400) (v2 := .bool (decide (a < b ∧ ¬ IntKind.wrap .i64 (a + 1) = b))) (Q := fun v s' => FS 0 s' v (.bool (decide (a < b ∧ ¬ IntKind.wrap .i64 (a + 1) = b))) ∧ s'.n ≤ 400) ?_ (fun _ _ h => h);refine sc_body Try.cfgOk between_fn rfl ?_;refine Z1q ?_;refine kK Try.cfgOk hS ?_;refine Z1q ?_;refine Z1p Try.cfgOk hS ?_;refine aK 2 ?_;refine aT (fun h1 => ?_) (fun h1 => ?_)
 ·have c2e : (decide ((a : Int) < b)) = true := Eq.trans Z0 h1;clear h1;have c2 : (a : Int) < b := of_decide_eq_true c2e;clear c2e;refine aK 4 ?_;refine aT (fun h3 => ?_) (fun h3 => ?_)
  ·have c4e : (((IntKind.wrap .i64 (a + 1)) : Int) != b) = true := Eq.trans Z0 h3;clear h3;have c4 : ¬ ((IntKind.wrap .i64 (a + 1)) : Int) = b := bne_iff_ne.1 c4e;clear c4e;refine aN ?_;refine Z1v ?_;exact ⟨[.bool true], Z0, fs_to (fs_clo rfl) (congrArg Value.bool Z1a), Zle⟩
  ·have c4e : (((IntKind.wrap .i64 (a + 1)) : Int) != b) = false := Eq.trans Z0 h3;clear h3;have c4 : ((IntKind.wrap .i64 (a + 1)) : Int) = b := bne_eq_false_iff_eq.1 c4e;clear c4e;refine aN ?_;refine Z1v ?_;exact ⟨[.bool false], Z0, fs_to (fs_clo rfl) (congrArg Value.bool Z1a), Zle⟩
 ·have c2e : (decide ((a : Int) < b)) = false := Eq.trans Z0 h1;clear h1;have c2 : ¬ (a : Int) < b := of_decide_eq_false c2e;clear c2e;refine aN ?_;refine Z1v ?_;exact ⟨[.bool false], Z0, fs_to (fs_clo rfl) (congrArg Value.bool Z1a), Zle⟩
noncomputable def con_between : Con Try.prog 0 := Con.pure (α := Int × Int) 47 (fun z9 => [.int .i64 z9.1, .int .i64 z9.2]) (fun z9 => .bool (decide (z9.1 < z9.2 ∧ ¬ IntKind.wrap .i64 (z9.1 + 1) = z9.2))) (fun z9 => True) (by
 rintro ⟨a0, a1⟩ ⟨b0, b1⟩ h
 simp only [injA] at h
 first | exact h | (simp only [Prod.ext_iff, h, and_self, and_true, true_and]; done) | simp_all [Prod.ext_iff]) (fun _ => rfl) (fun _ => rfl) 400 (by
 rintro ⟨a0, a1⟩ _
 exact between_sc a0 a1 )
theorem con_between_at (a : Int) (b : Int)  (s : St) : con_between.rel [.int .i64 a, .int .i64 b] s (.bool (decide (a < b ∧ ¬ IntKind.wrap .i64 (a + 1) = b))) s := con_pure (a, b) trivial s
theorem apart_fn : Try.cfg.fn 36 = some Try.f36 := Z0
theorem apart_sc (at_ : Int) (al : Int) (ah : Int) (bt : Int) (bl : Int) (bh : Int)  : SC Try.prog 0 36 [.agg #[.int .i64 at_, .int .i64 al, .int .i64 ah], .agg #[.int .i64 bt, .int .i64 bl, .int .i64 bh]] (St.empty 0) fun v s' => v = .bool (decide (¬ at_ = bt ∨ ah < 9223372036854775806 ∧ IntKind.wrap .i64 (ah + 1) < bl)) ∧ s'.n ≤ 400 := by
 have hS := Z20 Try.cfgOk 300;refine sc_ice0 (N := 400) (v2 := .bool (decide (¬ at_ = bt ∨ ah < 9223372036854775806 ∧ IntKind.wrap .i64 (ah + 1) < bl))) (Q := fun v s' => FS 0 s' v (.bool (decide (¬ at_ = bt ∨ ah < 9223372036854775806 ∧ IntKind.wrap .i64 (ah + 1) < bl))) ∧ s'.n ≤ 400) ?_ (fun _ _ h => h);refine sc_body Try.cfgOk apart_fn rfl ?_;refine Z1q ?_;refine kK Try.cfgOk hS ?_;refine Z1q ?_;refine Z1p Try.cfgOk hS ?_;refine aK 4 ?_;refine aT (fun h1 => ?_) (fun h1 => ?_)
 ·have c2e : ((at_ : Int) != bt) = true := Eq.trans Z0 h1;clear h1;have c2 : ¬ (at_ : Int) = bt := bne_iff_ne.1 c2e;clear c2e;refine aN ?_;refine Z1v ?_;exact ⟨[.bool true], Z0, fs_to (fs_clo rfl) (congrArg Value.bool Z1a), Zle⟩
 ·have c2e : ((at_ : Int) != bt) = false := Eq.trans Z0 h1;clear h1;have c2 : (at_ : Int) = bt := bne_eq_false_iff_eq.1 c2e;clear c2e;refine aK 3 ?_;refine aT (fun h3 => ?_) (fun h3 => ?_)
  ·have c4e : (decide ((ah : Int) < 9223372036854775806)) = true := Eq.trans Z0 h3;clear h3;have c4 : (ah : Int) < 9223372036854775806 := of_decide_eq_true c4e;clear c4e;refine aK 6 ?_;refine aT (fun h5 => ?_) (fun h5 => ?_)
   ·have c6e : (decide (((IntKind.wrap .i64 (ah + 1)) : Int) < bl)) = true := Eq.trans Z0 h5;clear h5;have c6 : ((IntKind.wrap .i64 (ah + 1)) : Int) < bl := of_decide_eq_true c6e;clear c6e;refine aN ?_;refine Z1v ?_;exact ⟨[.bool true], Z0, fs_to (fs_clo rfl) (congrArg Value.bool Z1a), Zle⟩
   ·have c6e : (decide (((IntKind.wrap .i64 (ah + 1)) : Int) < bl)) = false := Eq.trans Z0 h5;clear h5;have c6 : ¬ ((IntKind.wrap .i64 (ah + 1)) : Int) < bl := of_decide_eq_false c6e;clear c6e;refine aN ?_;refine Z1v ?_;exact ⟨[.bool false], Z0, fs_to (fs_clo rfl) (congrArg Value.bool Z1a), Zle⟩
  ·have c4e : (decide ((ah : Int) < 9223372036854775806)) = false := Eq.trans Z0 h3;clear h3;have c4 : ¬ (ah : Int) < 9223372036854775806 := of_decide_eq_false c4e;clear c4e;refine aN ?_;refine Z1v ?_;exact ⟨[.bool false], Z0, fs_to (fs_clo rfl) (congrArg Value.bool Z1a), Zle⟩
noncomputable def con_apart : Con Try.prog 0 := Con.pure (α := Int × Int × Int × Int × Int × Int) 36 (fun z9 => [.agg #[.int .i64 z9.1, .int .i64 z9.2.1, .int .i64 z9.2.2.1], .agg #[.int .i64 z9.2.2.2.1, .int .i64 z9.2.2.2.2.1, .int .i64 z9.2.2.2.2.2]]) (fun z9 => .bool (decide (¬ z9.1 = z9.2.2.2.1 ∨ z9.2.2.1 < 9223372036854775806 ∧ IntKind.wrap .i64 (z9.2.2.1 + 1) < z9.2.2.2.2.1))) (fun z9 => True) (by
 rintro ⟨a0, a1, a2, a3, a4, a5⟩ ⟨b0, b1, b2, b3, b4, b5⟩ h
 simp only [injA] at h
 first | exact h | (simp only [Prod.ext_iff, h, and_self, and_true, true_and]; done) | simp_all [Prod.ext_iff]) (fun _ => rfl) (fun _ => rfl) 400 (by
 rintro ⟨a0, a1, a2, a3, a4, a5⟩ _
 exact apart_sc a0 a1 a2 a3 a4 a5 )
theorem con_apart_at (at_ : Int) (al : Int) (ah : Int) (bt : Int) (bl : Int) (bh : Int)  (s : St) : con_apart.rel [.agg #[.int .i64 at_, .int .i64 al, .int .i64 ah], .agg #[.int .i64 bt, .int .i64 bl, .int .i64 bh]] s (.bool (decide (¬ at_ = bt ∨ ah < 9223372036854775806 ∧ IntKind.wrap .i64 (ah + 1) < bl))) s := con_pure (at_, al, ah, bt, bl, bh) trivial s
theorem lessR_fn : Try.cfg.fn 23 = some Try.f23 := Z0
theorem lessR_sc (at_ : Int) (ak : Int) (bt : Int) (bk : Int)  : SC Try.prog 0 23 [.agg #[.int .i64 at_, .int .i64 ak], .agg #[.int .i64 bt, .int .i64 bk]] (St.empty 0) fun v s' => v = .bool (decide (at_ < bt ∨ at_ = bt ∧ ak < bk)) ∧ s'.n ≤ 400 := by
 have hS := Z20 Try.cfgOk 300;refine sc_ice0 (N := 400) (v2 := .bool (decide (at_ < bt ∨ at_ = bt ∧ ak < bk))) (Q := fun v s' => FS 0 s' v (.bool (decide (at_ < bt ∨ at_ = bt ∧ ak < bk))) ∧ s'.n ≤ 400) ?_ (fun _ _ h => h);refine sc_body Try.cfgOk lessR_fn rfl ?_;refine Z1q ?_;refine kK Try.cfgOk hS ?_;refine Z1q ?_;refine Z1p Try.cfgOk hS ?_;refine aK 4 ?_;refine aT (fun h1 => ?_) (fun h1 => ?_)
 ·have c2e : (decide ((at_ : Int) < bt)) = true := Eq.trans Z0 h1;clear h1;have c2 : (at_ : Int) < bt := of_decide_eq_true c2e;clear c2e;refine aN ?_;refine Z1v ?_;exact ⟨[.bool true], Z0, fs_to (fs_clo rfl) (congrArg Value.bool Z0o), Zle⟩
 ·have c2e : (decide ((at_ : Int) < bt)) = false := Eq.trans Z0 h1;clear h1;have c2 : ¬ (at_ : Int) < bt := of_decide_eq_false c2e;clear c2e;refine aK 5 ?_;refine aT (fun h3 => ?_) (fun h3 => ?_)
  ·have c4e : ((at_ : Int) == bt) = true := Eq.trans Z0 h3;clear h3;have c4 : (at_ : Int) = bt := eq_of_beq c4e;clear c4e;refine aK 5 ?_;refine aT (fun h5 => ?_) (fun h5 => ?_)
   ·have c6e : (decide ((ak : Int) < bk)) = true := Eq.trans Z0 h5;clear h5;have c6 : (ak : Int) < bk := of_decide_eq_true c6e;clear c6e;refine aN ?_;refine Z1v ?_;exact ⟨[.bool true], Z0, fs_to (fs_clo rfl) (congrArg Value.bool Z0o), Zle⟩
   ·have c6e : (decide ((ak : Int) < bk)) = false := Eq.trans Z0 h5;clear h5;have c6 : ¬ (ak : Int) < bk := of_decide_eq_false c6e;clear c6e;refine aN ?_;refine Z1v ?_;exact ⟨[.bool false], Z0, fs_to (fs_clo rfl) (congrArg Value.bool Z0o), Zle⟩
  ·have c4e : ((at_ : Int) == bt) = false := Eq.trans Z0 h3;clear h3;have c4 : ¬ (at_ : Int) = bt := ne_of_beq_false c4e;clear c4e;refine aN ?_;refine Z1v ?_;exact ⟨[.bool false], Z0, fs_to (fs_clo rfl) (congrArg Value.bool Z0o), Zle⟩
noncomputable def con_lessR : Con Try.prog 0 := Con.pure (α := Int × Int × Int × Int) 23 (fun z9 => [.agg #[.int .i64 z9.1, .int .i64 z9.2.1], .agg #[.int .i64 z9.2.2.1, .int .i64 z9.2.2.2]]) (fun z9 => .bool (decide (z9.1 < z9.2.2.1 ∨ z9.1 = z9.2.2.1 ∧ z9.2.1 < z9.2.2.2))) (fun z9 => True) (by
 rintro ⟨a0, a1, a2, a3⟩ ⟨b0, b1, b2, b3⟩ h
 simp only [injA] at h
 first | exact h | (simp only [Prod.ext_iff, h, and_self, and_true, true_and]; done) | simp_all [Prod.ext_iff]) (fun _ => rfl) (fun _ => rfl) 400 (by
 rintro ⟨a0, a1, a2, a3⟩ _
 exact lessR_sc a0 a1 a2 a3 )
theorem con_lessR_at (at_ : Int) (ak : Int) (bt : Int) (bk : Int)  (s : St) : con_lessR.rel [.agg #[.int .i64 at_, .int .i64 ak], .agg #[.int .i64 bt, .int .i64 bk]] s (.bool (decide (at_ < bt ∨ at_ = bt ∧ ak < bk))) s := con_pure (at_, ak, bt, bk) trivial s
end Go.Proofs.Ytekeepgjegkedaa