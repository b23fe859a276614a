/- Feet. -/
import Derived.Test.YtekeepgjegkedaaPure
import Derived.Test.YtekeepgjegkedaaKit
set_option linter.unusedVariables false
set_option linter.unusedSimpArgs false
set_option linter.unnecessarySimpa false
set_option maxHeartbeats 4000000
set_option maxRecDepth 100000
namespace Go.Proofs.Ytekeepgjegkedaa
open Go.Ai
theorem orI_fn : Try.cfg.fn 72 = some Try.f72 := Z0
theorem orI_sc (l : List Int) (h0 : l.length ≤ 1000000) : SC Try.prog 0 72 [slL 0 1 l.length] ((St.empty 0).new (rowL icells l)) fun v s' => v = .int .i64 (orL l) ∧ s'.n ≤ 400 ∧ ∀ a, a < 1 → s'.get a = some (objL [rowL icells l] a) := by
 have hS := Z20 Try.cfgOk 300;refine sc_body Try.cfgOk orI_fn rfl ?_;refine Z1q ?_;refine kK Try.cfgOk hS ?_;refine Z1q ?_;refine kK Try.cfgOk hS ?_;refine Z1q (Z1q ?_);refine kK Try.cfgOk hS ?_;refine Z27 ?_;refine sk_live 18 ((fun a : Nat => [(3, .int .i64 0), (6, slL 0 1 l.length), (7, .int .i64 ((l.length : Nat) : Int)), (8, .int .i64 ((a : Nat) : Int))]) 0) Z0 ⟨Z0, Z0, Z0, Z0, trivial⟩ fun m1 => ?_
 refine sk_st ((fun a : Nat => ((St.empty 0).new (rowL icells l))) 0) Z0 ?_;refine (sk_while (k := 1) (N := 400) (live := (fun a : Nat => [(3, .int .i64 0), (6, slL 0 1 l.length), (7, .int .i64 ((l.length : Nat) : Int)), (8, .int .i64 ((a : Nat) : Int))])) (M := (fun a : Nat => ((St.empty 0).new (rowL icells l)))) (fun a : Nat => (a ≤ l.length) ∧ (NoHit (fun x : Int => x ≠ 0) l a)) (fun a : Nat => l.length - a) (fun (a : Nat) (o : Out) (lv : List (Nat × Value)) (M : St) => (o = .exit 0 ∧ (¬ a < l.length) ∧ lv = [(3, .int .i64 0), (6, slL 0 1 l.length), (7, .int .i64 ((l.length : Nat) : Int)), (8, .int .i64 ((a : Nat) : Int))] ∧ M = ((St.empty 0).new (rowL icells l))) ∨ (o = .ret ∧ ∃ v : Int, (l[a]? = some v ∧ v ≠ 0) ∧ lv = [(2, .int .i64 v)] ∧ M = ((St.empty 0).new (rowL icells l)))) (Nat.zero_le _) (fun a ha => ?_) (fun a ha => ?_) (fun a m ha => ?_) (fun a m ha => ?_) 0 m1 ?_).up ?_
 ·exact ⟨Z0, ((Z1r 0).new _), (selfs (all_cons (o := rowL icells l) Z0 (OSub.arr (subs_clo (Z1t icells_clo))) (Z1u)))⟩
 ·exact ⟨sub_clo rfl, .slice ⟨Z9, rfl⟩, sub_clo rfl, sub_clo rfl, trivial⟩
 ·exact ⟨Z0, Z0, Z0, Z0, trivial⟩
 ·obtain ⟨i, ea⟩ : ∃ z, z = a := ⟨_, rfl⟩;subst ea;obtain ⟨i0, i1⟩ := ha;refine Z1q ?_;refine Z1p Try.cfgOk hS ?_;refine aT (fun h2 => ?_) (fun h2 => ?_)
  ·have c3e : (decide ((((i : Nat) : Int) : Int) < ((l.length : Nat) : Int))) = true := Eq.trans Z0 h2;clear h2;have c3 : (((i : Nat) : Int) : Int) < ((l.length : Nat) : Int) := of_decide_eq_true c3e;clear c3e;refine Z24 ?_;refine Z1q ?_;refine kT ?_;refine Z21 (Z1q (Z27 (Z1q ?_)));refine Z1p Try.cfgOk hS ?_;refine aM (Z23 Try.cfg 115 (slL 0 1 l.length) (.int .i64 ((i : Nat) : Int))) (.pointer (some ⟨0, i * 1, some (l.length * 1)⟩)) (idx_rowL Z0 Z5) ?_;have hx4l : i < l.length := by omega
   refine Exists.elim (get_ex hx4l) fun x4 hx4 => ?_
   clear hx4l;refine aM (loadV Try.cfg ((St.empty 0).new (rowL icells l)) 3 (.pointer (some ⟨0, i * 1, some (l.length * 1)⟩))) (.int .i64 x4) (load_rowL1 (o := 0) (l := l) Z0 icells_len Z0 hx4 rfl) ?_;refine aN ?_;refine Z1q ?_;refine Z1p Try.cfgOk hS ?_;refine aK 2 ?_;refine aT (fun h5 => ?_) (fun h5 => ?_)
   ·have c6e : ((x4 : Int) != 0) = true := Eq.trans Z0 h5;clear h5;have c6 : ¬ (x4 : Int) = 0 := bne_iff_ne.1 c6e;clear c6e;refine Z24 ?_;refine kT ?_;refine Z1q ?_;refine kK Try.cfgOk hS ?_;refine Z1v ?_;refine .inr ⟨_, _, (fun h => Zo), .inr ⟨rfl, x4, ?_, rfl, rfl⟩, ⟨Z0, ⟨Z0, trivial⟩, ⟨sub_clo rfl, trivial⟩, Zle, ⟨Z0, ((Z1r 0).new _), (selfs (all_cons (o := rowL icells l) Z0 (OSub.arr (subs_clo (Z1t icells_clo))) (Z1u)))⟩, Z1w Z0⟩⟩
    ·exact ⟨Z4, by first | assumption | omega⟩
   ·have c6e : ((x4 : Int) != 0) = false := Eq.trans Z0 h5;clear h5;have c6 : (x4 : Int) = 0 := bne_eq_false_iff_eq.1 c6e;clear c6e;refine Z24 ?_;refine kF ?_;refine Z21 ?_;refine Z1p Try.cfgOk hS ?_;refine aE (v := .int .i64 (IntKind.wrap .i64 (((i : Nat) : Int) + 1))) (.int .i64 ((i + 1 : Nat) : Int)) (congrArg (Value.int .i64) (wrap_to Z5 Z5)) ?_;refine aN ?_;refine .inl ⟨i + 1, rfl, ⟨?_, ?_⟩, ?_, ⟨Z0, ⟨Z0, Z0, Z0, Z0, trivial⟩, ⟨sub_clo rfl, .slice ⟨Z9, rfl⟩, sub_clo rfl, sub_clo rfl, trivial⟩, Zle, ⟨Z0, ((Z1r 0).new _), (selfs (all_cons (o := rowL icells l) Z0 (OSub.arr (subs_clo (Z1t icells_clo))) (Z1u)))⟩, Z1w Z0⟩⟩
    ·(try dsimp only); omega
    ·(try dsimp only); exact NoHit.succ (p := (fun x : Int => x ≠ 0)) Z4 Z4 (by first | assumption | omega | exact fun h => h.elim Z4 Z4 | (simp_all; done))
    ·omega
  ·have c3e : (decide ((((i : Nat) : Int) : Int) < ((l.length : Nat) : Int))) = false := Eq.trans Z0 h2;clear h2;have c3 : ¬ (((i : Nat) : Int) : Int) < ((l.length : Nat) : Int) := of_decide_eq_false c3e;clear c3e;refine Z24 ?_;refine Z1q ?_;refine kF ?_;refine sk_exit ?_;dsimp only;refine .inr ⟨_, _, (fun h => Zo), .inl ⟨rfl, ?_, rfl, rfl⟩, ⟨Z0, ⟨Z0, Z0, Z0, Z0, trivial⟩, ⟨sub_clo rfl, .slice ⟨Z9, rfl⟩, sub_clo rfl, sub_clo rfl, trivial⟩, Zle, ⟨Z0, ((Z1r 0).new _), (selfs (all_cons (o := rowL icells l) Z0 (OSub.arr (subs_clo (Z1t icells_clo))) (Z1u)))⟩, Z1w Z0⟩⟩
   ·omega
 ·exact ⟨Zi, by ((try dsimp only); first | done | (exact NoHit.zero))⟩
 rintro o e1 s1 ⟨a, lv1, M1, m1, ha, (⟨rfl, hx, rfl, rfl⟩ | ⟨rfl, v, hx, rfl, rfl⟩), rfl, rfl⟩
 ·
  obtain ⟨i, ea⟩ : ∃ z, z = a := ⟨_, rfl⟩;subst ea;obtain ⟨i0, i1⟩ := ha;dsimp only;try rw [if_pos rfl]
  refine Z1q ?_;refine kK Try.cfgOk hS ?_;refine Z1v ?_;exact ⟨[.int .i64 0], Z0, congrArg (Value.int .i64) Z0g, Zle, all1 Z0⟩
 ·
  obtain ⟨i, ea⟩ : ∃ z, z = a := ⟨_, rfl⟩;subst ea;obtain ⟨i0, i1⟩ := ha;dsimp only;exact ⟨[.int .i64 v], Z0, congrArg (Value.int .i64) Z0g, Zle, all1 Z0⟩
noncomputable def sm_orI : Small Try.prog 0 72 ((List Int)) where
 k := 1
 A := fun z9 ρ => [slL (ρ 0) 1 z9.length]
 M := fun z9 ρ => objL [rowL icells z9]
 M1 := fun z9 ρ => objL [rowL icells z9]
 V := fun z9 ρ => .int .i64 (orL z9)
 Pre := fun z9 => (z9.length ≤ 1000000)
 ch := []
 N := 400
 s0 := fun z9 => ((St.empty 0).new (rowL icells z9))
 hch := by decide
 hsame := fun x ρ => all1 (fun _ => rfl)
 hG := rfl
 hn := fun x => rfl
 hwf := fun x => ((Z1r 0).new _)
 hget := fun x => all1 (by kernel_rfl)
 noloop := fun x ρ => all1 (fun h => h.elim)
 inA := fun x ρ R hR => .cons (.slice (hR 0 _ (by decide))) .nil
 inM := fun x ρ R hR => all1 (OSub.arr (subs_clo (Z1t icells_clo)))
 outM := fun x ρ R hR => all1 (OSub.arr (subs_clo (Z1t icells_clo)))
 outV := fun x ρ R hR => sub_clo rfl
 dom := by
  intro x ρ a ha
  cases ha
 sc := by
  rintro x p0
  exact orI_sc x p0
 det := by
  rintro x ρ y σ s h hm hm'
  simp only [injA, injB, icells_row] at h
  have q0 : ρ 0 = σ 0 := by simp_all
  have e0 := (hm 0 (by decide)).symm.trans ((congrArg s.get q0).trans (hm' 0 (by decide)))
  simp only [objL, List.getD_cons_zero, List.getD_cons_succ, injA, injB, icells_row] at e0
  have q : ∀ a, a < 1 → ρ a = σ a := all1 q0
  clear hm hm'
  exact ⟨by first | rfl | (simp_all [Prod.ext_iff]; done) | exact e0, q⟩
 par := by
  intro x ρ σ h
  have h0 := h 0 (by decide)
  exact ⟨by first | rfl | simp only [h0], by first | exact fun _ _ => rfl | (intro a ha; simp only [h0])⟩
noncomputable def con_orI : Con Try.prog 0 := sm_orI.con
theorem con_orI_at (l : List Int) (i0 : Nat) (h0 : l.length ≤ 1000000) (s : St) (hn : nodupB [i0] = true) (m0 : s.get i0 = some (rowL icells l)) : con_orI.rel [slL i0 1 l.length] s (.int .i64 (orL l)) s :=
 sm_orI.at_ l [i0] s _ h0 rfl hn rfl (all1 m0) rfl rfl
theorem byKey_fn : Try.cfg.fn 49 = some Try.f49 := Z0
theorem byKey_sc (at_ : Int) (ak : Int) (bt : Int) (bk : Int)  : SC Try.prog 0 49 [.agg #[.int .i64 at_, .int .i64 ak], .agg #[.int .i64 bt, .int .i64 bk]] (St.empty 0) fun v s' => v = .int .i64 (orL [cmpI at_ bt, cmpI ak bk]) ∧ s'.n ≤ 400 := by
 obtain ⟨rc, hS, hC⟩ := rc_con (Z20 Try.cfgOk 300) [con_compare, con_orI] Z0;have hC73 := hC con_compare (.head _);have hC72 := hC con_orI (.tail _ (.head _));refine sc_ice0 (N := 400) (v2 := .int .i64 (orL [cmpI at_ bt, cmpI ak bk])) (Q := fun v s' => FS 0 s' v (.int .i64 (orL [cmpI at_ bt, cmpI ak bk])) ∧ s'.n ≤ 400) ?_ (fun _ _ h => h);refine sc_body Try.cfgOk byKey_fn rfl ?_;refine Z1q ?_;refine kK Try.cfgOk hS ?_;refine Z1q ?_;refine sk_drawL Try.cfgOk hS ?_;refine dK 4 ?_;refine dC 73 [.int .i64 at_, .int .i64 bt] (.int .i64 (cmpI at_ bt)) _ rfl (hC73 _ _ _ _ (con_compare_at at_ bt  _)) ?_;refine dK 1 ?_;refine ald_readK (d := (0, St.empty 0, St.empty 0)) Z0 Z0 Z0 Z0 (below_len (k := 1) Z0 (all1 (.inr (read_again Z0 (Eq.trans (b := .int .i64 ak) Z0 Z0))))) ?_;refine dK 1 ?_;refine ald_readK (d := (0, St.empty 0, St.empty 0)) Z0 Z0 Z0 Z0 (below_len (k := 1) Z0 (all1 (.inr (read_again Z0 (Eq.trans (b := .int .i64 bk) Z0 Z0))))) ?_;refine dC 73 [.int .i64 ak, .int .i64 bk] (.int .i64 (cmpI ak bk)) _ rfl (hC73 _ _ _ _ (con_compare_at ak bk  _)) ?_;refine dK 1 ?_;refine dC 72 [.slice (some ⟨2, 0, some 2⟩) 2 1] (.int .i64 (orL ([(cmpI at_ bt), (cmpI ak bk)]))) _ rfl (hC72 _ _ _ _ (con_orI_at ([(cmpI at_ bt), (cmpI ak bk)]) 2 Zk _ Z0 Z0 )) ?_;refine dK 1 ?_;refine ald_nil ?_;refine Z1v ?_;exact ⟨[.int .i64 (orL ([(cmpI at_ bt), (cmpI ak bk)]))], Z0, fs_to (fs_clo rfl) (congrArg (Value.int .i64) Z1a), Zle⟩
noncomputable def con_byKey : Con Try.prog 0 := Con.pure (α := Int × Int × Int × Int) 49 (fun z9 => [.agg #[.int .i64 z9.1, .int .i64 z9.2.1], .agg #[.int .i64 z9.2.2.1, .int .i64 z9.2.2.2]]) (fun z9 => .int .i64 (orL [cmpI z9.1 z9.2.2.1, cmpI z9.2.1 z9.2.2.2])) (fun z9 => True) (by
 rintro ⟨a0, a1, a2, a3⟩ ⟨b0, b1, b2, b3⟩ h
 simp only [injA] at h
 first | exact h | (simp only [Prod.ext_iff, h, and_self, and_true, true_and]; done) | simp_all [Prod.ext_iff]) (fun _ => rfl) (fun _ => rfl) 400 (by
 rintro ⟨a0, a1, a2, a3⟩ _
 exact byKey_sc a0 a1 a2 a3 )
theorem con_byKey_at (at_ : Int) (ak : Int) (bt : Int) (bk : Int)  (s : St) : con_byKey.rel [.agg #[.int .i64 at_, .int .i64 ak], .agg #[.int .i64 bt, .int .i64 bk]] s (.int .i64 (orL [cmpI at_ bt, cmpI ak bk])) s := con_pure (at_, ak, bt, bk) trivial s
theorem bySpan_fn : Try.cfg.fn 35 = some Try.f35 := Z0
theorem bySpan_sc (at_ : Int) (al : Int) (ah : Int) (bt : Int) (bl : Int) (bh : Int)  : SC Try.prog 0 35 [.agg #[.int .i64 at_, .int .i64 al, .int .i64 ah], .agg #[.int .i64 bt, .int .i64 bl, .int .i64 bh]] (St.empty 0) fun v s' => v = .int .i64 (orL [cmpI at_ bt, cmpI al bl, cmpI ah bh]) ∧ s'.n ≤ 400 := by
 obtain ⟨rc, hS, hC⟩ := rc_con (Z20 Try.cfgOk 300) [con_compare, con_orI] Z0;have hC73 := hC con_compare (.head _);have hC72 := hC con_orI (.tail _ (.head _));refine sc_ice0 (N := 400) (v2 := .int .i64 (orL [cmpI at_ bt, cmpI al bl, cmpI ah bh])) (Q := fun v s' => FS 0 s' v (.int .i64 (orL [cmpI at_ bt, cmpI al bl, cmpI ah bh])) ∧ s'.n ≤ 400) ?_ (fun _ _ h => h);refine sc_body Try.cfgOk bySpan_fn rfl ?_;refine Z1q ?_;refine kK Try.cfgOk hS ?_;refine Z1q ?_;refine sk_drawL Try.cfgOk hS ?_;refine dK 4 ?_;refine dC 73 [.int .i64 at_, .int .i64 bt] (.int .i64 (cmpI at_ bt)) _ rfl (hC73 _ _ _ _ (con_compare_at at_ bt  _)) ?_;refine dK 1 ?_;refine ald_readK (d := (0, St.empty 0, St.empty 0)) Z0 Z0 Z0 Z0 (below_len (k := 1) Z0 (all1 (.inr (read_again Z0 (Eq.trans (b := .int .i64 al) Z0 Z0))))) ?_;refine dK 1 ?_;refine ald_readK (d := (0, St.empty 0, St.empty 0)) Z0 Z0 Z0 Z0 (below_len (k := 1) Z0 (all1 (.inr (read_again Z0 (Eq.trans (b := .int .i64 bl) Z0 Z0))))) ?_;refine dC 73 [.int .i64 al, .int .i64 bl] (.int .i64 (cmpI al bl)) _ rfl (hC73 _ _ _ _ (con_compare_at al bl  _)) ?_;refine dK 1 ?_;refine ald_readK (d := (0, St.empty 0, St.empty 0)) Z0 Z0 Z0 Z0 (below_len (k := 2) Z0 (all2 (.inr (read_again Z0 (Eq.trans (b := .int .i64 ah) Z0 Z0))) (.inr (read_again Z0 (Eq.trans (b := .int .i64 ah) Z0 Z0))))) ?_;refine dK 1 ?_;refine ald_readK (d := (0, St.empty 0, St.empty 0)) Z0 Z0 Z0 Z0 (below_len (k := 2) Z0 (all2 (.inr (read_again Z0 (Eq.trans (b := .int .i64 bh) Z0 Z0))) (.inr (read_again Z0 (Eq.trans (b := .int .i64 bh) Z0 Z0))))) ?_;refine dC 73 [.int .i64 ah, .int .i64 bh] (.int .i64 (cmpI ah bh)) _ rfl (hC73 _ _ _ _ (con_compare_at ah bh  _)) ?_;refine dK 1 ?_;refine dC 72 [.slice (some ⟨2, 0, some 3⟩) 3 1] (.int .i64 (orL ([(cmpI at_ bt), (cmpI al bl), (cmpI ah bh)]))) _ rfl (hC72 _ _ _ _ (con_orI_at ([(cmpI at_ bt), (cmpI al bl), (cmpI ah bh)]) 2 Zk _ Z0 Z0 )) ?_;refine dK 1 ?_;refine ald_nil ?_;refine Z1v ?_;exact ⟨[.int .i64 (orL ([(cmpI at_ bt), (cmpI al bl), (cmpI ah bh)]))], Z0, fs_to (fs_clo rfl) (congrArg (Value.int .i64) Z1a), Zle⟩
noncomputable def con_bySpan : Con Try.prog 0 := Con.pure (α := Int × Int × Int × Int × Int × Int) 35 (fun z9 => [.agg #[.int .i64 z9.1, .int .i64 z9.2.1, .int .i64 z9.2.2.1], .agg #[.int .i64 z9.2.2.2.1, .int .i64 z9.2.2.2.2.1, .int .i64 z9.2.2.2.2.2]]) (fun z9 => .int .i64 (orL [cmpI z9.1 z9.2.2.2.1, cmpI z9.2.1 z9.2.2.2.2.1, cmpI z9.2.2.1 z9.2.2.2.2.2])) (fun z9 => True) (by
 rintro ⟨a0, a1, a2, a3, a4, a5⟩ ⟨b0, b1, b2, b3, b4, b5⟩ h
 simp only [injA] at h
 first | exact h | (simp only [Prod.ext_iff, h, and_self, and_true, true_and]; done) | simp_all [Prod.ext_iff]) (fun _ => rfl) (fun _ => rfl) 400 (by
 rintro ⟨a0, a1, a2, a3, a4, a5⟩ _
 exact bySpan_sc a0 a1 a2 a3 a4 a5 )
theorem con_bySpan_at (at_ : Int) (al : Int) (ah : Int) (bt : Int) (bl : Int) (bh : Int)  (s : St) : con_bySpan.rel [.agg #[.int .i64 at_, .int .i64 al, .int .i64 ah], .agg #[.int .i64 bt, .int .i64 bl, .int .i64 bh]] s (.int .i64 (orL [cmpI at_ bt, cmpI al bl, cmpI ah bh])) s := con_pure (at_, al, ah, bt, bl, bh) trivial s
theorem cmp_or2 {a b c d : Int} : orL [cmpI a c, cmpI b d] < 0 ↔ a < c ∨ a = c ∧ b < d := by
 simp only [orL, cmpI, List.find?_cons, List.find?_nil];repeat' split
 all_goals simp_all
 all_goals omega
theorem lessP_fn : Try.cfg.fn 22 = some Try.f22 := Z0
theorem lessP_sc (at_ : Int) (ak : Int) (bt : Int) (bk : Int)  : SC Try.prog 0 22 [.agg #[.int .i64 at_, .int .i64 ak], .agg #[.int .i64 bt, .int .i64 bk]] (St.empty 0) fun v s' => v = .bool (decide (at_ < bt ∨ at_ = bt ∧ ak < bk)) ∧ s'.n ≤ 400 := by
 obtain ⟨rc, hS, hC⟩ := rc_con (Z20 Try.cfgOk 300) [con_byKey] Z0;have hC49 := hC con_byKey (.head _);refine sc_ice0 (N := 400) (v2 := .bool (decide (at_ < bt ∨ at_ = bt ∧ ak < bk))) (Q := fun v s' => FS 0 s' v (.bool (decide (at_ < bt ∨ at_ = bt ∧ ak < bk))) ∧ s'.n ≤ 400) ?_ (fun _ _ h => h);refine sc_body Try.cfgOk lessP_fn rfl ?_;refine Z1q ?_;refine kK Try.cfgOk hS ?_;refine Z1q ?_;refine Z1p Try.cfgOk hS ?_;refine aK 2 ?_;refine aC 49 [.agg #[.int .i64 at_, .int .i64 ak], .agg #[.int .i64 bt, .int .i64 bk]] (.int .i64 (orL [cmpI at_ bt, cmpI ak bk])) _ rfl (hC49 _ _ _ _ (con_byKey_at at_ ak bt bk  _)) ?_;refine aT (fun h1 => ?_) (fun h1 => ?_)
 ·have c2e : (decide (((orL [cmpI at_ bt, cmpI ak bk]) : Int) < 0)) = true := Eq.trans Z0 h1;clear h1;have c2 : ((orL [cmpI at_ bt, cmpI ak bk]) : Int) < 0 := of_decide_eq_true c2e;clear c2e;refine aN ?_;refine Z1v ?_;exact ⟨[.bool true], Z0, fs_to (fs_clo rfl) (congrArg Value.bool Z02), Zle⟩
 ·have c2e : (decide (((orL [cmpI at_ bt, cmpI ak bk]) : Int) < 0)) = false := Eq.trans Z0 h1;clear h1;have c2 : ¬ ((orL [cmpI at_ bt, cmpI ak bk]) : Int) < 0 := of_decide_eq_false c2e;clear c2e;refine aN ?_;refine Z1v ?_;exact ⟨[.bool false], Z0, fs_to (fs_clo rfl) (congrArg Value.bool Z02), Zle⟩
noncomputable def con_lessP : Con Try.prog 0 := Con.pure (α := Int × Int × Int × Int) 22 (fun z9 => [.agg #[.int .i64 z9.1, .int .i64 z9.2.1], .agg #[.int .i64 z9.2.2.1, .int .i64 z9.2.2.2]]) (fun z9 => .bool (decide (z9.1 < z9.2.2.1 ∨ z9.1 = z9.2.2.1 ∧ z9.2.1 < z9.2.2.2))) (fun z9 => True) (by
 rintro ⟨a0, a1, a2, a3⟩ ⟨b0, b1, b2, b3⟩ h
 simp only [injA] at h
 first | exact h | (simp only [Prod.ext_iff, h, and_self, and_true, true_and]; done) | simp_all [Prod.ext_iff]) (fun _ => rfl) (fun _ => rfl) 400 (by
 rintro ⟨a0, a1, a2, a3⟩ _
 exact lessP_sc a0 a1 a2 a3 )
theorem con_lessP_at (at_ : Int) (ak : Int) (bt : Int) (bk : Int)  (s : St) : con_lessP.rel [.agg #[.int .i64 at_, .int .i64 ak], .agg #[.int .i64 bt, .int .i64 bk]] s (.bool (decide (at_ < bt ∨ at_ = bt ∧ ak < bk))) s := con_pure (at_, ak, bt, bk) trivial s
end Go.Proofs.Ytekeepgjegkedaa