/- Keys are read. -/
import Derived.Test.YtekeepgjegkedaaRead
import Derived.Test.YtekeepgjegkedaaReader
import Derived.Test.YtekeepgjegkedaaKit
set_option linter.unusedVariables false
set_option linter.unusedSimpArgs false
set_option linter.unnecessarySimpa false
set_option maxHeartbeats 4000000
set_option maxRecDepth 100000
namespace Go.Proofs.Ytekeepgjegkedaa
open Go.Ai
def errForm : Value := .iface 53 (.int .i64 2)
def endV (b : List UInt8) (bad : Bool) : Value := if bad = true ∨ b ≠ [] then errForm else .nilIface
theorem endV_clo (b : List UInt8) (bad : Bool) : clo (endV b bad) = true := by unfold endV; split <;> rfl
theorem endV_t {b : List UInt8} {bad : Bool} (h : bad = true ∨ b ≠ []) : endV b bad = errForm := if_pos h
theorem endV_f {b : List UInt8} {bad : Bool} (h : ¬ (bad = true ∨ b ≠ [])) : endV b bad = .nilIface := if_neg h
theorem rend_fn : Try.cfg.fn 59 = some Try.f59 := Z0
theorem rend_sc (b : List UInt8) (bad : Bool)  : SC Try.prog 0 59 [.pointer (some ⟨0, 0, none⟩)] ((St.empty 0).new (.cells [inlL Z1n 1 b, .bool bad])) fun v s' => v = endV b bad ∧ s'.n ≤ 400 ∧ ∀ a, a < 1 → s'.get a = some (objL [.cells [inlL Z1n 1 b, .bool bad]] a) := by
 have hS := Z20 Try.cfgOk 300;cases bad
 ·
  refine sc_body Try.cfgOk rend_fn rfl ?_;refine Z1q ?_;refine kK Try.cfgOk hS ?_;refine Z1q (Z1q ?_);refine Z1p Try.cfgOk hS ?_;refine aK 13 ?_;refine aM (lenB Try.cfg (St.empty 0) 42 (inlL Z1n 1 b)) (.int .i64 ((b.length : Nat) : Int)) (len_inl tokC Z0) ?_;refine aT (fun h1 => ?_) (fun h1 => ?_)
  ·have c2e : (decide ((((b.length : Nat) : Int) : Int) > 0)) = true := Eq.trans Z0 h1;clear h1;have c2 : (((b.length : Nat) : Int) : Int) > 0 := of_decide_eq_true c2e;clear c2e;refine aN ?_;refine kT ?_;refine Z1q ?_;refine kK Try.cfgOk hS ?_;refine Z1v ?_;exact ⟨[.iface 53 (.int .i64 2)], Z0, (show (.iface 53 (.int .i64 2) : Value) = endV b false by first | exact (endV_t (.inl rfl)).symm | exact (endV_t (.inr (fun e => by subst e; simp at *))).symm | exact (endV_f (fun e => e.elim (fun q => by cases q) (fun q => q (List.eq_nil_of_length_eq_zero Z5)))).symm), Zle, all1 Z0⟩
  ·have c2e : (decide ((((b.length : Nat) : Int) : Int) > 0)) = false := Eq.trans Z0 h1;clear h1;have c2 : ¬ (((b.length : Nat) : Int) : Int) > 0 := of_decide_eq_false c2e;clear c2e;refine aN ?_;refine kF ?_;refine Z21 (Z1q ?_);refine kK Try.cfgOk hS ?_;refine Z1v ?_;exact ⟨[.nilIface], Z0, (show (.nilIface : Value) = endV b false by first | exact (endV_t (.inl rfl)).symm | exact (endV_t (.inr (fun e => by subst e; simp at *))).symm | exact (endV_f (fun e => e.elim (fun q => by cases q) (fun q => q (List.eq_nil_of_length_eq_zero Z5)))).symm), Zle, all1 Z0⟩
 ·
  refine sc_body Try.cfgOk rend_fn rfl ?_;refine Z1q ?_;refine kK Try.cfgOk hS ?_;refine Z1q (Z1q ?_);refine kK Try.cfgOk hS ?_;refine kT ?_;refine Z1q ?_;refine kK Try.cfgOk hS ?_;refine Z1v ?_;exact ⟨[.iface 53 (.int .i64 2)], Z0, (show (.iface 53 (.int .i64 2) : Value) = endV b true by first | exact (endV_t (.inl rfl)).symm | exact (endV_t (.inr (fun e => by subst e; simp at *))).symm | exact (endV_f (fun e => e.elim (fun q => by cases q) (fun q => q (List.eq_nil_of_length_eq_zero Z5)))).symm), Zle, all1 Z0⟩
noncomputable def sm_rend : Small Try.prog 0 59 ((List UInt8) × Bool) where
 k := 1
 A := fun z9 ρ => [.pointer (some ⟨(ρ 0), 0, none⟩)]
 M := fun z9 ρ => objL [.cells [inlL Z1n 1 z9.1, .bool z9.2]]
 M1 := fun z9 ρ => objL [.cells [inlL Z1n 1 z9.1, .bool z9.2]]
 V := fun z9 ρ => endV z9.1 z9.2
 Pre := fun z9 => True
 ch := []
 N := 400
 s0 := fun z9 => ((St.empty 0).new (.cells [inlL Z1n 1 z9.1, .bool z9.2]))
 hch := by decide
 hsame := fun x ρ => all1 (fun _ => rfl)
 hG := rfl
 hn := fun x => rfl
 hwf := fun x => ((Z1r 0).new _)
 hget := fun x => all1 (by kernel_rfl)
 noloop := fun x ρ => all1 (fun h => h.elim)
 inA := fun x ρ R hR => .cons (.ptr (hR 0 _ (by decide))) .nil
 inM := fun x ρ R hR => all1 (OSub.cells (.cons (sub_clo rfl) (.cons (sub_clo rfl) .nil)))
 outM := fun x ρ R hR => all1 (OSub.cells (.cons (sub_clo rfl) (.cons (sub_clo rfl) .nil)))
 outV := fun x ρ R hR => sub_clo (endV_clo x.1 x.2)
 dom := by
  intro x ρ a ha
  cases ha
 sc := by
  rintro ⟨a0, a1⟩ _
  exact rend_sc a0 a1
 det := by
  rintro ⟨a0, a1⟩ ρ ⟨b0, b1⟩ σ s h hm hm'
  simp only [injA, injB, Z26] at h
  have q0 : ρ 0 = σ 0 := by simp_all
  have e0 := (hm 0 (by decide)).symm.trans ((congrArg s.get q0).trans (hm' 0 (by decide)))
  simp only [objL, List.getD_cons_zero, List.getD_cons_succ, injA, injB, Z26] at e0
  have q : ∀ a, a < 1 → ρ a = σ a := all1 q0
  clear hm hm'
  exact ⟨by first | rfl | (simp_all [Prod.ext_iff]; done) | exact e0, q⟩
 par := by
  intro x ρ σ h
  have h0 := h 0 (by decide)
  exact ⟨by first | rfl | simp only [h0], by first | exact fun _ _ => rfl | (intro a ha; simp only [h0])⟩
noncomputable def con_rend : Con Try.prog 0 := sm_rend.con
theorem con_rend_at (b : List UInt8) (bad : Bool) (i0 : Nat)  (s : St) (hn : nodupB [i0] = true) (m0 : s.get i0 = some (.cells [inlL Z1n 1 b, .bool bad])) : con_rend.rel [.pointer (some ⟨i0, 0, none⟩)] s (endV b bad) s :=
 sm_rend.at_ (b, bad) [i0] s _ trivial rfl hn rfl (all1 m0) rfl rfl
theorem sequal_fn : Try.cfg.fn 60 = some Try.f60 := Z0
theorem sequal_sc (la : List UInt8) (lb : List UInt8) (h0 : la.length ≤ 2 * 1000000000) (h1 : lb.length ≤ 2 * 1000000000) : SC Try.prog 0 60 [inlL Z1n 1 la, inlL Z1n 1 lb] (St.empty 0) fun v s' => v = .bool (decide (la = lb)) ∧ s'.n ≤ 400 := by
 have hS := Z20 Try.cfgOk 300;refine sc_ice0 (N := 400) (v2 := .bool (decide (la = lb))) (Q := fun v s' => FS 0 s' v (.bool (decide (la = lb))) ∧ s'.n ≤ 400) ?_ (fun _ _ h => h);refine sc_body Try.cfgOk sequal_fn rfl ?_;refine Z1q ?_;refine kK Try.cfgOk hS ?_;refine Z1q (Z1q ?_);refine Z1p Try.cfgOk hS ?_;refine aK 1 ?_;refine aM (lenB Try.cfg (St.empty 0) 42 (inlL Z1n 1 la)) (.int .i64 ((la.length : Nat) : Int)) (len_inl tokC Z0) ?_;refine aK 1 ?_;refine aM (lenB Try.cfg (St.empty 0) 42 (inlL Z1n 1 lb)) (.int .i64 ((lb.length : Nat) : Int)) (len_inl tokC Z0) ?_;refine aT (fun h1 => ?_) (fun h1 => ?_)
 ·have c2e : ((((la.length : Nat) : Int) : Int) != ((lb.length : Nat) : Int)) = true := Eq.trans Z0 h1;clear h1;have c2 : ¬ (((la.length : Nat) : Int) : Int) = ((lb.length : Nat) : Int) := bne_iff_ne.1 c2e;clear c2e;refine Z24 ?_;refine kT ?_;refine Z1q ?_;refine kK Try.cfgOk hS ?_;refine Z1v ?_;exact ⟨[.bool false], Z0, fs_to (fs_clo rfl) (congrArg Value.bool Zf), Zle⟩
 ·have c2e : ((((la.length : Nat) : Int) : Int) != ((lb.length : Nat) : Int)) = false := Eq.trans Z0 h1;clear h1;have c2 : (((la.length : Nat) : Int) : Int) = ((lb.length : Nat) : Int) := bne_eq_false_iff_eq.1 c2e;clear c2e;refine Z24 ?_;refine kF ?_;refine Z21 (Z1q (Z1q ?_));refine Z1p Try.cfgOk hS ?_;refine aK 1 ?_;refine aM (lenB Try.cfg (St.empty 0) 42 (inlL Z1n 1 la)) (.int .i64 ((la.length : Nat) : Int)) (len_inl tokC Z0) ?_;refine aN ?_;refine Z27 ?_;refine sk_live 26 ((fun a : Nat => [(0, inlL Z1n 1 la), (1, inlL Z1n 1 lb), (12, .int .i64 ((la.length : Nat) : Int)), (13, .int .i64 ((a : Nat) : Int))]) 0) Z0 ⟨Z0, Z0, Z0, Z0, trivial⟩ fun m3 => ?_
  refine sk_st ((fun a : Nat => (St.empty 0)) 0) Z0 ?_;refine (sk_while (k := 0) (N := 400) (live := (fun a : Nat => [(0, inlL Z1n 1 la), (1, inlL Z1n 1 lb), (12, .int .i64 ((la.length : Nat) : Int)), (13, .int .i64 ((a : Nat) : Int))])) (M := (fun a : Nat => (St.empty 0))) (fun a : Nat => (a ≤ la.length) ∧ (la.take a = lb.take a)) (fun a : Nat => la.length - a) (fun (a : Nat) (o : Out) (lv : List (Nat × Value)) (M : St) => (o = .exit 0 ∧ (¬ a < la.length) ∧ lv = [(0, inlL Z1n 1 la), (1, inlL Z1n 1 lb), (12, .int .i64 ((la.length : Nat) : Int)), (13, .int .i64 ((a : Nat) : Int))] ∧ M = (St.empty 0)) ∨ (o = .ret ∧ (¬ la = lb) ∧ lv = [(4, .bool false)] ∧ M = (St.empty 0))) (Nat.zero_le _) (fun a ha => ?_) (fun a ha => ?_) (fun a m ha => ?_) (fun a m ha => ?_) 0 m3 ?_).up ?_
  ·exact ⟨Z0, (Z1r 0), (fun i hi => absurd hi (Nat.not_lt_zero i))⟩
  ·exact ⟨sub_clo rfl, sub_clo rfl, sub_clo rfl, sub_clo rfl, trivial⟩
  ·exact ⟨Z0, Z0, Z0, Z0, trivial⟩
  ·obtain ⟨i, ea⟩ : ∃ z, z = a := ⟨_, rfl⟩;subst ea;obtain ⟨i0, i1⟩ := ha;refine Z1q ?_;refine Z1p Try.cfgOk hS ?_;refine aT (fun h4 => ?_) (fun h4 => ?_)
   ·have c5e : (decide ((((i : Nat) : Int) : Int) < ((la.length : Nat) : Int))) = true := Eq.trans Z0 h4;clear h4;have c5 : (((i : Nat) : Int) : Int) < ((la.length : Nat) : Int) := of_decide_eq_true c5e;clear c5e;refine Z24 ?_;refine Z1q ?_;refine kT ?_;refine Z21 (Z1q (Z27 (Z1q ?_)));refine kK Try.cfgOk hS ?_;refine Z1q ?_;refine sk_drawL Try.cfgOk hS ?_;refine dK 2 ?_;refine dM (Z23 Try.cfg 42 (inlL Z1n 1 la) (.int .i64 ((i : Nat) : Int))) (elt (flatL Z1n la) (i * 1)) (idx_inlL tokC Z0 Zu) ?_;have hx6l : i < la.length := by omega
    refine Exists.elim (get_ex hx6l) fun x6 hx6 => ?_
    clear hx6l;refine dM (loadV Try.cfg (St.empty 0) 5 (elt (flatL Z1n la) (i * 1))) (.int .u8 ((x6.toNat : Nat) : Int)) (load_el1 (o := 0) tokC Z0 Z1z hx6 rfl) ?_;refine dK 2 ?_;refine dM (Z23 Try.cfg 42 (inlL Z1n 1 lb) (.int .i64 ((i : Nat) : Int))) (elt (flatL Z1n lb) (i * 1)) (idx_inlL tokC Z0 Zu) ?_;have hx7l : i < lb.length := Z5
    refine Exists.elim (get_ex hx7l) fun x7 hx7 => ?_
    clear hx7l;refine dM (loadV Try.cfg (St.empty 0) 5 (elt (flatL Z1n lb) (i * 1))) (.int .u8 ((x7.toNat : Nat) : Int)) (load_el1 (o := 0) tokC Z0 Z1z hx7 rfl) ?_;refine dT (fun h8 => ?_) (fun h8 => ?_)
    ·have c9e : ((((x6.toNat : Nat) : Int) : Int) != ((x7.toNat : Nat) : Int)) = true := Eq.trans Z0 h8;clear h8;have c9 : ¬ (((x6.toNat : Nat) : Int) : Int) = ((x7.toNat : Nat) : Int) := bne_iff_ne.1 c9e;clear c9e;refine ald_nil ?_;refine kT ?_;refine Z1q ?_;refine kK Try.cfgOk hS ?_;refine Z1v ?_;refine .inr ⟨_, _, (fun h => Zo), .inr ⟨rfl, ?_, rfl, rfl⟩, ⟨Z0, ⟨Z0, trivial⟩, ⟨sub_clo rfl, trivial⟩, Zle, ⟨Z0, (Z1r 0), (fun i hi => absurd hi (Nat.not_lt_zero i))⟩, Z1w Z0⟩⟩
     ·exact ne_at Z4 Z4 (fun e => Z0w)
    ·have c9e : ((((x6.toNat : Nat) : Int) : Int) != ((x7.toNat : Nat) : Int)) = false := Eq.trans Z0 h8;clear h8;have c9 : (((x6.toNat : Nat) : Int) : Int) = ((x7.toNat : Nat) : Int) := bne_eq_false_iff_eq.1 c9e;clear c9e;refine ald_nil ?_;refine kF ?_;refine Z21 ?_;refine Z1p Try.cfgOk hS ?_;refine aE (v := .int .i64 (IntKind.wrap .i64 (((i : Nat) : Int) + 1))) (.int .i64 ((i + 1 : Nat) : Int)) (congrArg (Value.int .i64) (wrap_to Z5 Z5)) ?_;refine aN ?_;refine .inl ⟨i + 1, rfl, ⟨?_, ?_⟩, ?_, ⟨Z0, ⟨Z0, Z0, Z0, Z0, trivial⟩, ⟨sub_clo rfl, sub_clo rfl, sub_clo rfl, sub_clo rfl, trivial⟩, Zle, ⟨Z0, (Z1r 0), (fun i hi => absurd hi (Nat.not_lt_zero i))⟩, Z1w Z0⟩⟩
     ·(try dsimp only); omega
     ·(try dsimp only); exact take_eq_succ Z4 Z4 Z4 (UInt8.toNat_inj.1 Z5)
     ·omega
   ·have c5e : (decide ((((i : Nat) : Int) : Int) < ((la.length : Nat) : Int))) = false := Eq.trans Z0 h4;clear h4;have c5 : ¬ (((i : Nat) : Int) : Int) < ((la.length : Nat) : Int) := of_decide_eq_false c5e;clear c5e;refine Z24 ?_;refine Z1q ?_;refine kF ?_;refine sk_exit ?_;dsimp only;refine .inr ⟨_, _, (fun h => Zo), .inl ⟨rfl, ?_, rfl, rfl⟩, ⟨Z0, ⟨Z0, Z0, Z0, Z0, trivial⟩, ⟨sub_clo rfl, sub_clo rfl, sub_clo rfl, sub_clo rfl, trivial⟩, Zle, ⟨Z0, (Z1r 0), (fun i hi => absurd hi (Nat.not_lt_zero i))⟩, Z1w Z0⟩⟩
    ·omega
  ·exact ⟨Zi, Zy⟩
  rintro o e1 s1 ⟨a, lv1, M1, m3, ha, (⟨rfl, hx, rfl, rfl⟩ | ⟨rfl, hx, rfl, rfl⟩), rfl, rfl⟩
  ·
   obtain ⟨i, ea⟩ : ∃ z, z = a := ⟨_, rfl⟩;subst ea;obtain ⟨i0, i1⟩ := ha;dsimp only;try rw [if_pos rfl]
   refine Z1q ?_;refine kK Try.cfgOk hS ?_;refine Z1v ?_;exact ⟨[.bool true], Z0, fs_to (fs_clo rfl) (congrArg Value.bool Zf), Zle⟩
  ·
   obtain ⟨i, ea⟩ : ∃ z, z = a := ⟨_, rfl⟩;subst ea;obtain ⟨i0, i1⟩ := ha;dsimp only;exact ⟨[.bool false], Z0, fs_to (fs_clo rfl) (congrArg Value.bool Zf), Zle⟩
noncomputable def con_sequal : Con Try.prog 0 := Con.pure (α := (List UInt8) × (List UInt8)) 60 (fun z9 => [inlL Z1n 1 z9.1, inlL Z1n 1 z9.2]) (fun z9 => .bool (decide (z9.1 = z9.2))) (fun z9 => (z9.1.length ≤ 2 * 1000000000) ∧ (z9.2.length ≤ 2 * 1000000000)) (by
 rintro ⟨a0, a1⟩ ⟨b0, b1⟩ h
 simp only [injA, Z26] at h
 first | exact h | (simp only [Prod.ext_iff, h, and_self, and_true, true_and]; done) | simp_all [Prod.ext_iff]) (fun _ => rfl) (fun _ => rfl) 400 (by
 rintro ⟨a0, a1⟩ ⟨p0, p1⟩
 exact sequal_sc a0 a1 p0 p1)
theorem con_sequal_at (la : List UInt8) (lb : List UInt8) (h0 : la.length ≤ 2 * 1000000000) (h1 : lb.length ≤ 2 * 1000000000) (s : St) : con_sequal.rel [inlL Z1n 1 la, inlL Z1n 1 lb] s (.bool (decide (la = lb))) s := con_pure (la, lb) ⟨h0, h1⟩ s
theorem takeKeys_fn : Try.cfg.fn 55 = some Try.f55 := Z0
theorem takeKeys_sc (b : List UInt8) (bad : Bool) (h0 : b.length ≤ 1000000000) (h1 : RdI b bad) : SC Try.prog 0 55 [.pointer (some ⟨0, 0, none⟩)] ((St.empty 0).new (.cells [inlL Z1n 1 b, .bool bad])) fun v s' => v = inlL Z1o 2 ((tkeys b bad).1) ∧ s'.n ≤ 400 ∧ ∀ a, a < 1 → s'.get a = some (objL [.cells [inlL Z1n 1 ((tkeys b bad).2.1), .bool ((tkeys b bad).2.2)]] a) := by
 obtain ⟨rc, hS, hC⟩ := rc_con (Z20 Try.cfgOk 300) [con_fsmall, con_rleft, con_rdnum] Z0;have hC56 := hC con_fsmall (.head _);have hC57 := hC con_rleft (.tail _ (.head _));have hC58 := hC con_rdnum (.tail _ (.tail _ (.head _)));refine sc_iceK (k := 1) (N := 400) (v2 := inlL Z1o 2 ((tkeys b bad).1)) (Ms := objL [.cells [inlL Z1n 1 ((tkeys b bad).2.1), .bool ((tkeys b bad).2.2)]]) rfl ?_ (all1 (OSub.cells (.cons (sub_clo rfl) (.cons (sub_clo rfl) .nil))));refine sc_body Try.cfgOk takeKeys_fn rfl ?_;refine Z1q ?_;refine kK Try.cfgOk hS ?_;refine Z1q ?_;refine kK Try.cfgOk hS ?_;refine Z1q (Z1q ?_);refine Z1p Try.cfgOk hS ?_;refine aK 1 ?_;refine aC 56 [.pointer (some ⟨0, 0, none⟩)] (.int .i64 ((min (rdV b bad) 4294967295 : Nat) : Int)) _ rfl (hC56 _ _ _ _ (con_fsmall_at b bad 0 Z05 _ Z0 Z0 )) ?_;refine aN ?_;refine Z27 ?_;refine sk_live 25 [(0, .pointer (some ⟨0, 0, none⟩)), (3, .slice none 0 0), (4, .int .i64 ((min (rdV b bad) 4294967295 : Nat) : Int))] Z0 ⟨Z0, Z0, Z0, trivial⟩ fun m1 => ?_
 refine sk_st ((St.empty 0).new (.cells [inlL Z1n 1 (rdR b bad), .bool (rdB b bad)])) Z0 ?_;refine virt_at (n := 25) (t := 3) (sz := 2) [(0, .pointer (some ⟨0, 0, none⟩)), (3, slL 1 2 0), (4, .int .i64 ((min (rdV b bad) 4294967295 : Nat) : Int))] Z9 ((Z1r 0).new _) Z0 Z0 Z0 fun m1v => ?_
 refine sk_live 25 ((fun a : (List Key) × (List UInt8) × Bool => [(0, .pointer (some ⟨0, 0, none⟩)), (3, slL 1 2 a.1.length), (4, .int .i64 ((min (rdV b bad) 4294967295 : Nat) : Int))]) (([] : List Key), (rdR b bad), (rdB b bad))) Z0 ⟨Z0, Z0, Z0, trivial⟩ fun m2 => ?_
 refine sk_st ((fun a : (List Key) × (List UInt8) × Bool => (((St.empty 0).new (.cells [inlL Z1n 1 a.2.1, .bool a.2.2])).new (rowL Z1o a.1))) (([] : List Key), (rdR b bad), (rdB b bad))) Z0 ?_;refine (sk_while (k := 2) (N := 400) (live := (fun a : (List Key) × (List UInt8) × Bool => [(0, .pointer (some ⟨0, 0, none⟩)), (3, slL 1 2 a.1.length), (4, .int .i64 ((min (rdV b bad) 4294967295 : Nat) : Int))])) (M := (fun a : (List Key) × (List UInt8) × Bool => (((St.empty 0).new (.cells [inlL Z1n 1 a.2.1, .bool a.2.2])).new (rowL Z1o a.1)))) (fun a : (List Key) × (List UInt8) × Bool => ((a.1 ++ (tks (min (rdV b bad) 4294967295 - a.1.length) a.2.1 a.2.2).1, (tks (min (rdV b bad) 4294967295 - a.1.length) a.2.1 a.2.2).2) = tkeys b bad) ∧ (a.1.length + a.2.1.length ≤ b.length) ∧ (RdI a.2.1 a.2.2)) (fun a : (List Key) × (List UInt8) × Bool => a.2.1.length) (fun (a : (List Key) × (List UInt8) × Bool) (o : Out) (lv : List (Nat × Value)) (M : St) => (o = .exit 0 ∧ (a.2.1 = [] ∨ min (rdV b bad) 4294967295 - a.1.length = 0) ∧ lv = [(0, .pointer (some ⟨0, 0, none⟩)), (3, slL 1 2 a.1.length), (4, .int .i64 ((min (rdV b bad) 4294967295 : Nat) : Int))] ∧ M = (((St.empty 0).new (.cells [inlL Z1n 1 a.2.1, .bool a.2.2])).new (rowL Z1o a.1)))) (Nat.zero_le _) (fun a ha => ?_) (fun a ha => ?_) (fun a m ha => ?_) (fun a m ha => ?_) (([] : List Key), (rdR b bad), (rdB b bad)) m2 ?_).up ?_
 ·exact ⟨Z0, (((Z1r 0).new _).new _), (selfs (all_cons (o := .cells [inlL Z1n 1 a.2.1, .bool a.2.2]) Z0 (OSub.cells (.cons (sub_clo rfl) (.cons (sub_clo rfl) .nil))) (all_cons (o := rowL Z1o a.1) Z0 (OSub.arr (subs_clo (Z1t kcells_clo))) (Z1u))))⟩
 ·exact ⟨.ptr ⟨Z9, rfl⟩, .slice ⟨Z9, rfl⟩, sub_clo rfl, trivial⟩
 ·exact ⟨Z0, Z0, Z0, trivial⟩
 ·obtain ⟨acc, cb, cbad⟩ := a;obtain ⟨i0, i1, i2⟩ := ha;dsimp only at i0 i1 i2;refine Z1q (Z1q ?_);refine Z1p Try.cfgOk hS ?_;refine aK 3 ?_;refine aT (fun h3 => ?_) (fun h3 => ?_)
  ·have c4e : (decide ((((acc.length : Nat) : Int) : Int) < ((min (rdV b bad) 4294967295 : Nat) : Int))) = true := Eq.trans Z0 h3;clear h3;have c4 : (((acc.length : Nat) : Int) : Int) < ((min (rdV b bad) 4294967295 : Nat) : Int) := of_decide_eq_true c4e;clear c4e;refine aK 2 ?_;refine aC 57 [.pointer (some ⟨0, 0, none⟩)] (.int .i64 ((cb.length : Nat) : Int)) _ rfl (hC57 _ _ _ _ (con_rleft_at cb cbad 0  _ Z0 Z0 )) ?_;refine aT (fun h5 => ?_) (fun h5 => ?_)
   ·have c6e : (decide ((((cb.length : Nat) : Int) : Int) > 0)) = true := Eq.trans Z0 h5;clear h5;have c6 : (((cb.length : Nat) : Int) : Int) > 0 := of_decide_eq_true c6e;clear c6e;refine aN ?_;refine kT ?_;refine Z21 (Z27 ?_);refine Z1p Try.cfgOk hS ?_;refine aK 2 ?_;refine aC 56 [.pointer (some ⟨0, 0, none⟩)] (.int .i64 ((min (rdV cb cbad) 4294967295 : Nat) : Int)) _ rfl (hC56 _ _ _ _ (con_fsmall_at cb cbad 0 Z05 _ Z0 Z0 )) ?_;refine aK 1 ?_;refine aC 58 [.pointer (some ⟨0, 0, none⟩)] (.int .i64 (unf (rdV (rdR cb cbad) (rdB cb cbad)))) _ rfl (hC58 _ _ _ _ (con_rdnum_at (rdR cb cbad) (rdB cb cbad) 0 Z05 _ Z0 Z0 )) ?_;refine aK 2 ?_;refine al_opF (v := slL 1 2 (acc ++ [(((min (rdV cb cbad) 4294967295 : Nat) : Int), (unf (rdV (rdR cb cbad) (rdB cb cbad))))]).length) (s1 := ((((St.empty 0).new (.cells [inlL Z1n 1 (rdR (rdR cb cbad) (rdB cb cbad)), .bool (rdB (rdR cb cbad) (rdB cb cbad))])).new (rowL Z1o acc)).new (.arr [.int .i64 ((min (rdV cb cbad) 4294967295 : Nat) : Int), .int .i64 (unf (rdV (rdR cb cbad) (rdB cb cbad)))] 0 false)).set 1 (rowL Z1o (acc ++ [(((min (rdV cb cbad) 4294967295 : Nat) : Int), (unf (rdV (rdR cb cbad) (rdB cb cbad))))]))) Z0 Z0 (Eq.trans (b := appendV Try.cfg ((((St.empty 0).new (.cells [inlL Z1n 1 (rdR (rdR cb cbad) (rdB cb cbad)), .bool (rdB (rdR cb cbad) (rdB cb cbad))])).new (rowL Z1o acc)).new (.arr [.int .i64 ((min (rdV cb cbad) 4294967295 : Nat) : Int), .int .i64 (unf (rdV (rdR cb cbad) (rdB cb cbad)))] 0 false)) 22 (slL 1 2 acc.length) (.slice (some ⟨2, 0, some 2⟩) 1 2)) Z0 (app_rowL (l := acc) (l2 := [(((min (rdV cb cbad) 4294967295 : Nat) : Int), (unf (rdV (rdR cb cbad) (rdB cb cbad))))]) (bytes := 16) tokC Z0 kcells_len kcells_one Z0 Z0 Z0 Zn)) ?_;refine aN ?_;refine .inl ⟨((acc ++ [(((min (rdV cb cbad) 4294967295 : Nat) : Int), (unf (rdV (rdR cb cbad) (rdB cb cbad))))]), (rdR (rdR cb cbad) (rdB cb cbad)), (rdB (rdR cb cbad) (rdB cb cbad))), rfl, ⟨?_, ?_, ?_⟩, ?_, ⟨Z0, ⟨Z0, Z0, Z0, trivial⟩, ⟨.ptr ⟨Z9, rfl⟩, .slice ⟨Z9, rfl⟩, sub_clo rfl, trivial⟩, Zle, ⟨Z0, (((Z1r 0).new _).new _), (selfs (all_cons (o := .cells [inlL Z1n 1 (rdR (rdR cb cbad) (rdB cb cbad)), .bool (rdB (rdR cb cbad) (rdB cb cbad))]) Z0 (OSub.cells (.cons (sub_clo rfl) (.cons (sub_clo rfl) .nil))) (all_cons (o := rowL Z1o (acc ++ [(((min (rdV cb cbad) 4294967295 : Nat) : Int), (unf (rdV (rdR cb cbad) (rdB cb cbad))))])) Z0 (OSub.arr (subs_clo (Z1t kcells_clo))) (Z1u))))⟩, Z1w Z0⟩⟩
    ·(try dsimp only); rw [show ∀ x : Key, (acc ++ [x]).length = acc.length + 1 from fun x => Z0a]; exact (tks_step Z5 Zv).trans i0
    ·(try dsimp only); have l1 := rdR_lt' i2 Zv; have l2 := rdR_le (rdR cb cbad) (rdB cb cbad); simp only [List.length_append, List.length_cons, List.length_nil]; omega
    ·(try dsimp only); exact rdI_step (rdI_step i2)
    ·dsimp only; have l1 := rdR_lt' i2 Zv; have l2 := rdR_le (rdR cb cbad) (rdB cb cbad); omega
   ·have c6e : (decide ((((cb.length : Nat) : Int) : Int) > 0)) = false := Eq.trans Z0 h5;clear h5;have c6 : ¬ (((cb.length : Nat) : Int) : Int) > 0 := of_decide_eq_false c6e;clear c6e;refine aN ?_;refine kF ?_;refine sk_exit ?_;dsimp only;refine .inr ⟨_, _, (fun h => Zo), ⟨rfl, ?_, rfl, rfl⟩, ⟨Z0, ⟨Z0, Z0, Z0, trivial⟩, ⟨.ptr ⟨Z9, rfl⟩, .slice ⟨Z9, rfl⟩, sub_clo rfl, trivial⟩, Zle, ⟨Z0, (((Z1r 0).new _).new _), (selfs (all_cons (o := .cells [inlL Z1n 1 cb, .bool cbad]) Z0 (OSub.cells (.cons (sub_clo rfl) (.cons (sub_clo rfl) .nil))) (all_cons (o := rowL Z1o acc) Z0 (OSub.arr (subs_clo (Z1t kcells_clo))) (Z1u))))⟩, Z1w Z0⟩⟩
    ·first | exact .inl (List.eq_nil_of_length_eq_zero Z5) | exact .inr Z5
  ·have c4e : (decide ((((acc.length : Nat) : Int) : Int) < ((min (rdV b bad) 4294967295 : Nat) : Int))) = false := Eq.trans Z0 h3;clear h3;have c4 : ¬ (((acc.length : Nat) : Int) : Int) < ((min (rdV b bad) 4294967295 : Nat) : Int) := of_decide_eq_false c4e;clear c4e;refine aN ?_;refine kF ?_;refine sk_exit ?_;dsimp only;refine .inr ⟨_, _, (fun h => Zo), ⟨rfl, ?_, rfl, rfl⟩, ⟨Z0, ⟨Z0, Z0, Z0, trivial⟩, ⟨.ptr ⟨Z9, rfl⟩, .slice ⟨Z9, rfl⟩, sub_clo rfl, trivial⟩, Zle, ⟨Z0, (((Z1r 0).new _).new _), (selfs (all_cons (o := .cells [inlL Z1n 1 cb, .bool cbad]) Z0 (OSub.cells (.cons (sub_clo rfl) (.cons (sub_clo rfl) .nil))) (all_cons (o := rowL Z1o acc) Z0 (OSub.arr (subs_clo (Z1t kcells_clo))) (Z1u))))⟩, Z1w Z0⟩⟩
   ·first | exact .inl (List.eq_nil_of_length_eq_zero Z5) | exact .inr Z5
 ·exact ⟨Zy, by ((try dsimp only); first | done | (have q := rdR_le b bad; simpa using q)), Z18⟩
 rintro o e1 s1 ⟨a, lv1, M1, m2, ha, ⟨rfl, hx, rfl, rfl⟩, rfl, rfl⟩;obtain ⟨acc, cb, cbad⟩ := a;obtain ⟨i0, i1, i2⟩ := ha;dsimp only at hx i0 i1 i2;dsimp only;try rw [if_pos rfl]
 refine Z1q ?_;refine kK Try.cfgOk hS ?_;refine Z1v ?_;exact ⟨[slL 1 2 acc.length], Z0, fs_to (fs_rowL Z9 kcells_len kcells_clo kcells_one Zle Z0) (congrArg (inlL Z1o 2) (by have q := i0; rw [tks_stop hx, List.append_nil] at q; rw [← q])), Zle, all1 (Eq.trans (b := some (.cells [inlL Z1n 1 cb, .bool cbad])) Z0 (congrArg some (show ((.cells [inlL Z1n 1 cb, .bool cbad]) : AObj) = .cells [inlL Z1n 1 ((tkeys b bad).2.1), .bool ((tkeys b bad).2.2)] by have q := i0; rw [tks_stop hx, List.append_nil] at q; rw [← q])))⟩
noncomputable def sm_takeKeys : Small Try.prog 0 55 ((List UInt8) × Bool) where
 k := 1
 A := fun z9 ρ => [.pointer (some ⟨(ρ 0), 0, none⟩)]
 M := fun z9 ρ => objL [.cells [inlL Z1n 1 z9.1, .bool z9.2]]
 M1 := fun z9 ρ => objL [.cells [inlL Z1n 1 ((tkeys z9.1 z9.2).2.1), .bool ((tkeys z9.1 z9.2).2.2)]]
 V := fun z9 ρ => inlL Z1o 2 ((tkeys z9.1 z9.2).1)
 Pre := fun z9 => (z9.1.length ≤ 1000000000) ∧ (RdI z9.1 z9.2)
 ch := [0]
 N := 400
 s0 := fun z9 => ((St.empty 0).new (.cells [inlL Z1n 1 z9.1, .bool z9.2]))
 hch := by decide
 hsame := fun x ρ => all1 (fun h => absurd (by decide) h)
 hG := rfl
 hn := fun x => rfl
 hwf := fun x => ((Z1r 0).new _)
 hget := fun x => all1 (by kernel_rfl)
 noloop := fun x ρ => all1 (fun h => h.elim)
 inA := fun x ρ R hR => .cons (.ptr (hR 0 _ (by decide))) .nil
 inM := fun x ρ R hR => all1 (OSub.cells (.cons (sub_clo rfl) (.cons (sub_clo rfl) .nil)))
 outM := fun x ρ R hR => all1 (OSub.cells (.cons (sub_clo rfl) (.cons (sub_clo rfl) .nil)))
 outV := fun x ρ R hR => sub_clo rfl
 dom := by
  intro x ρ a ha
  obtain rfl := List.mem_singleton.1 ha
  refine .inl fun β y h => ?_
  obtain ⟨_, _, _, h, _⟩ := h.cons_inv
  exact h.dom_ptr
 sc := by
  rintro ⟨a0, a1⟩ ⟨p0, p1⟩
  exact takeKeys_sc a0 a1 p0 p1
 det := by
  rintro ⟨a0, a1⟩ ρ ⟨b0, b1⟩ σ s h hm hm'
  simp only [injA, injB, Z26] at h
  have q0 : ρ 0 = σ 0 := by simp_all
  have e0 := (hm 0 (by decide)).symm.trans ((congrArg s.get q0).trans (hm' 0 (by decide)))
  simp only [objL, List.getD_cons_zero, List.getD_cons_succ, injA, injB, Z26] at e0
  have q : ∀ a, a < 1 → ρ a = σ a := all1 q0
  clear hm hm'
  exact ⟨by first | rfl | (simp_all [Prod.ext_iff]; done) | exact e0, q⟩
 par := by
  intro x ρ σ h
  have h0 := h 0 (by decide)
  exact ⟨by first | rfl | simp only [h0], by first | exact fun _ _ => rfl | (intro a ha; simp only [h0])⟩
noncomputable def con_takeKeys : Con Try.prog 0 := sm_takeKeys.con
theorem con_takeKeys_at (b : List UInt8) (bad : Bool) (i0 : Nat) (h0 : b.length ≤ 1000000000) (h1 : RdI b bad) (s : St) (hn : nodupB [i0] = true) (m0 : s.get i0 = some (.cells [inlL Z1n 1 b, .bool bad])) : con_takeKeys.rel [.pointer (some ⟨i0, 0, none⟩)] s (inlL Z1o 2 ((tkeys b bad).1)) (s.set i0 (.cells [inlL Z1n 1 ((tkeys b bad).2.1), .bool ((tkeys b bad).2.2)])) :=
 sm_takeKeys.at_ (b, bad) [i0] s _ ⟨h0, h1⟩ rfl hn rfl (all1 m0) rfl rfl
end Go.Proofs.Ytekeepgjegkedaa