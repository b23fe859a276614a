/- The writer of bytes. -/
import Derived.Test.YtekeepgjegkedaaBase
import Derived.Test.YtekeepgjegkedaaAiCon
import Derived.Test.YtekeepgjegkedaaKit
set_option linter.unusedVariables false
set_option linter.unusedSimpArgs false
set_option linter.unnecessarySimpa false
set_option maxHeartbeats 4000000
set_option maxRecDepth 100000
namespace Go.Proofs.Ytekeepgjegkedaa
open Go.Ai
theorem wadd_fn : Try.cfg.fn 79 = some Try.f79 := Z0
theorem wadd_sc (l : List UInt8) (l2 : List UInt8) (h0 : l.length + l2.length ≤ 2 * 1000000000) : SC Try.prog 0 79 [.pointer (some ⟨0, 0, none⟩), slL 2 1 l2.length] ((((St.empty 0).new (.cells [slL 1 1 l.length])).new (rowL Z1n l)).new (rowL Z1n l2)) fun v s' => v = .tuple #[] ∧ s'.n ≤ 400 ∧ ∀ a, a < 3 → s'.get a = some (objL [.cells [slL 1 1 ((l ++ l2).length)], rowL Z1n (l ++ l2), rowL Z1n l2] a) := by
 have hS := Z20 Try.cfgOk 300;refine sc_body Try.cfgOk wadd_fn rfl ?_;refine Z1q ?_;refine kK Try.cfgOk hS ?_;refine kT ?_;refine Z1p Try.cfgOk hS ?_;refine aK 6 ?_;refine al_opF (v := slL 1 1 (l ++ l2).length) (s1 := ((((St.empty 0).new (.cells [slL 1 1 l.length])).new (rowL Z1n l)).new (rowL Z1n l2)).set 1 (rowL Z1n (l ++ l2))) Z0 Z0 (Eq.trans (b := appendV Try.cfg ((((St.empty 0).new (.cells [slL 1 1 l.length])).new (rowL Z1n l)).new (rowL Z1n l2)) 42 (slL 1 1 l.length) (slL 2 1 l2.length)) Z0 (app_rowL (l := l) (l2 := l2) (bytes := 1) tokC Z0 Z1z bcells_one Z0 Z0 (firstV_rowL Z1z Z0) Zn)) ?_;refine aN ?_;exact ⟨[], Z0, rfl, Zle, all3 Z0 Z0 Z0⟩
noncomputable def sm_wadd : Small Try.prog 0 79 ((List UInt8) × (List UInt8)) where
 k := 3
 A := fun z9 ρ => [.pointer (some ⟨(ρ 0), 0, none⟩), slL (ρ 2) 1 z9.2.length]
 M := fun z9 ρ => objL [.cells [slL (ρ 1) 1 z9.1.length], rowL Z1n z9.1, rowL Z1n z9.2]
 M1 := fun z9 ρ => objL [.cells [slL (ρ 1) 1 ((z9.1 ++ z9.2).length)], rowL Z1n (z9.1 ++ z9.2), rowL Z1n z9.2]
 V := fun z9 ρ => .tuple #[]
 Pre := fun z9 => (z9.1.length + z9.2.length ≤ 2 * 1000000000)
 ch := [0, 1]
 N := 400
 s0 := fun z9 => ((((St.empty 0).new (.cells [slL 1 1 z9.1.length])).new (rowL Z1n z9.1)).new (rowL Z1n z9.2))
 hch := by decide
 hsame := fun x ρ => all3 (fun h => absurd (by decide) h) (fun h => absurd (by decide) h) (fun _ => rfl)
 hG := rfl
 hn := fun x => rfl
 hwf := fun x => ((((Z1r 0).new _).new _).new _)
 hget := fun x => all3 (by kernel_rfl) (by kernel_rfl) (by kernel_rfl)
 noloop := fun x ρ => all3 (fun h => h.elim) (fun h => h.elim) (fun h => h.elim)
 inA := fun x ρ R hR => .cons (.ptr (hR 0 _ (by decide))) (.cons (.slice (hR 2 _ (by decide))) .nil)
 inM := fun x ρ R hR => all3 (OSub.cells (.cons (.slice (hR 1 _ (by decide))) .nil)) (OSub.arr (subs_clo (Z1t Z1x))) (OSub.arr (subs_clo (Z1t Z1x)))
 outM := fun x ρ R hR => all3 (OSub.cells (.cons (.slice (hR 1 _ (by decide))) .nil)) (OSub.arr (subs_clo (Z1t Z1x))) (OSub.arr (subs_clo (Z1t Z1x)))
 outV := fun x ρ R hR => .tuple .nil
 dom := by
  intro x ρ a ha
  simp only [List.mem_cons, List.mem_singleton, List.not_mem_nil, or_false] at ha
  rcases ha with rfl | rfl
  ·refine .inl fun β y h => ?_
   obtain ⟨_, _, _, h, _⟩ := h.cons_inv
   exact h.dom_ptr
  ·exact .inr fun h => h
 sc := by
  rintro ⟨a0, a1⟩ p0
  exact wadd_sc a0 a1 p0
 det := by
  rintro ⟨a0, a1⟩ ρ ⟨b0, b1⟩ σ s h hm hm'
  simp only [injA, injB, bcells_row, bcells_row] at h
  have q0 : ρ 0 = σ 0 := by simp_all
  have e0 := (hm 0 (by decide)).symm.trans ((congrArg s.get q0).trans (hm' 0 (by decide)))
  simp only [objL, List.getD_cons_zero, List.getD_cons_succ, injA, injB, bcells_row, bcells_row] at e0
  have q2 : ρ 2 = σ 2 := by simp_all
  have e2 := (hm 2 (by decide)).symm.trans ((congrArg s.get q2).trans (hm' 2 (by decide)))
  simp only [objL, List.getD_cons_zero, List.getD_cons_succ, injA, injB, bcells_row, bcells_row] at e2
  have q1 : ρ 1 = σ 1 := by simp_all
  have e1 := (hm 1 (by decide)).symm.trans ((congrArg s.get q1).trans (hm' 1 (by decide)))
  simp only [objL, List.getD_cons_zero, List.getD_cons_succ, injA, injB, bcells_row, bcells_row] at e1
  have q : ∀ a, a < 3 → ρ a = σ a := all3 q0 q1 q2
  clear hm hm'
  exact ⟨by first | rfl | (simp_all [Prod.ext_iff]; done) | exact e0, q⟩
 par := by
  intro x ρ σ h
  have h0 := h 0 (by decide); have h1 := h 1 (by decide); have h2 := h 2 (by decide)
  exact ⟨by first | rfl | simp only [h0, h1, h2], by first | exact fun _ _ => rfl | (intro a ha; simp only [h0, h1, h2])⟩
noncomputable def con_wadd : Con Try.prog 0 := sm_wadd.con
theorem con_wadd_at (l : List UInt8) (l2 : List UInt8) (i0 : Nat) (i1 : Nat) (i2 : Nat) (h0 : l.length + l2.length ≤ 2 * 1000000000) (s : St) (hn : nodupB [i0, i1, i2] = true) (m0 : s.get i0 = some (.cells [slL i1 1 l.length])) (m1 : s.get i1 = some (rowL Z1n l)) (m2 : s.get i2 = some (rowL Z1n l2)) : con_wadd.rel [.pointer (some ⟨i0, 0, none⟩), slL i2 1 l2.length] s (.tuple #[]) ((s.set i0 (.cells [slL i1 1 ((l ++ l2).length)])).set i1 (rowL Z1n (l ++ l2))) :=
 sm_wadd.at_ (l, l2) [i0, i1, i2] s _ h0 rfl hn rfl (all3 m0 m1 m2) rfl rfl
theorem wcount_fn : Try.cfg.fn 51 = some Try.f51 := Z0
theorem wcount_sc (l0 : List UInt8) (x0 : Nat) (h0 : l0.length ≤ 1000000000) (h1 : x0 < 18446744073709551616) : SC Try.prog 0 51 [.pointer (some ⟨0, 0, none⟩), .int .u64 ((x0 : Nat) : Int)] (((St.empty 0).new (.cells [slL 1 1 l0.length])).new (rowL Z1n l0)) fun v s' => v = .tuple #[] ∧ s'.n ≤ 400 ∧ ∀ a, a < 2 → s'.get a = some (objL [.cells [slL 1 1 ((l0 ++ uv x0).length)], rowL Z1n (l0 ++ uv x0)] a) := by
 obtain ⟨rc, hS, hC⟩ := rc_con (Z20 Try.cfgOk 300) [con_wadd] Z0;have hC79 := hC con_wadd (.head _);refine sc_body Try.cfgOk wcount_fn rfl ?_;refine Z1q (Z27 ?_);refine sk_live 19 ((fun a : Nat × (List UInt8) => [(0, .pointer (some ⟨0, 0, none⟩)), (1, .int .u64 ((a.1 : Nat) : Int))]) (x0, l0)) Z0 ⟨Z0, Z0, trivial⟩ fun m1 => ?_
 refine sk_st ((fun a : Nat × (List UInt8) => (((St.empty 0).new (.cells [slL 1 1 a.2.length])).new (rowL Z1n a.2))) (x0, l0)) Z0 ?_;refine (sk_while (k := 2) (N := 400) (live := (fun a : Nat × (List UInt8) => [(0, .pointer (some ⟨0, 0, none⟩)), (1, .int .u64 ((a.1 : Nat) : Int))])) (M := (fun a : Nat × (List UInt8) => (((St.empty 0).new (.cells [slL 1 1 a.2.length])).new (rowL Z1n a.2)))) (fun a : Nat × (List UInt8) => (a.2 ++ uv a.1 = l0 ++ uv x0) ∧ (a.1 < 18446744073709551616) ∧ (a.2.length + (uv a.1).length ≤ 1000000000 + 10)) (fun a : Nat × (List UInt8) => a.1) (fun (a : Nat × (List UInt8)) (o : Out) (lv : List (Nat × Value)) (M : St) => (o = .exit 0 ∧ (a.1 < 128) ∧ lv = [(0, .pointer (some ⟨0, 0, none⟩)), (1, .int .u64 ((a.1 : Nat) : Int))] ∧ M = (((St.empty 0).new (.cells [slL 1 1 a.2.length])).new (rowL Z1n a.2)))) (Nat.zero_le _) (fun a ha => ?_) (fun a ha => ?_) (fun a m ha => ?_) (fun a m ha => ?_) (x0, l0) m1 ?_).up ?_
 ·exact ⟨Z0, (((Z1r 0).new _).new _), (selfs (all_cons (o := .cells [slL 1 1 a.2.length]) Z0 (OSub.cells (.cons (.slice ⟨Z9, rfl⟩) .nil)) (all_cons (o := rowL Z1n a.2) Z0 (OSub.arr (subs_clo (Z1t Z1x))) (Z1u))))⟩
 ·exact ⟨.ptr ⟨Z9, rfl⟩, sub_clo rfl, trivial⟩
 ·exact ⟨Z0, Z0, trivial⟩
 ·obtain ⟨x, l⟩ := a;obtain ⟨i0, i1, i2⟩ := ha;dsimp only at i0 i1 i2;refine Z1q (Z1q ?_);refine Z1p Try.cfgOk hS ?_;refine aK 1 ?_;refine aT (fun h2 => ?_) (fun h2 => ?_)
  ·have c3e : (decide ((((x : Nat) : Int) : Int) ≥ 128)) = true := Eq.trans Z0 h2;clear h2;have c3 : (((x : Nat) : Int) : Int) ≥ 128 := of_decide_eq_true c3e;clear c3e;refine Z24 ?_;refine kT ?_;refine Z21 (Z1q (Z27 ?_));refine Z1p Try.cfgOk hS ?_;refine aK 2 ?_;refine aE (v := .int .u8 (IntKind.wrap .u8 ((x : Nat) : Int))) (.int .u8 (((UInt8.ofNat (x)).toNat : Nat) : Int)) (congrArg (Value.int .u8) (wrap_u8n _)) ?_;refine aE (v := .int .u8 (IntKind.wrap .u8 (((BitVec.ofInt (IntKind.bits .u8) (((UInt8.ofNat (x)).toNat : Nat) : Int) ||| BitVec.ofInt (IntKind.bits .u8) 128).toNat : Nat) : Int))) (.int .u8 (((UInt8.ofNat ((x) % 128 + 128)).toNat : Nat) : Int)) (congrArg (Value.int .u8) (or128w (x))) ?_;refine aK 1 ?_;refine aC 79 [.pointer (some ⟨0, 0, none⟩), .slice (some ⟨2, 0, some 1⟩) 1 1] (.tuple #[]) _ rfl (hC79 _ _ _ _ (con_wadd_at l ([(UInt8.ofNat ((x) % 128 + 128))]) 0 1 2 Z0j _ Z0 Z0 Z0 Z0 )) ?_;refine Z24 ?_;refine Z1p Try.cfgOk hS ?_;refine aK 1 ?_;refine aE (v := .int .u64 (Int.fdiv ((x : Nat) : Int) (2 ^ (min (Int.toNat 7) (IntKind.bits .u64))))) (.int .u64 ((x / 128 : Nat) : Int)) (congrArg (Value.int .u64) (shr_nat x 7 (y := 128) Z9 rfl)) ?_;refine aN ?_;refine .inl ⟨(x / 128, (l ++ ([(UInt8.ofNat ((x) % 128 + 128))]))), rfl, ⟨?_, ?_, ?_⟩, ?_, ⟨Z0, ⟨Z0, Z0, trivial⟩, ⟨.ptr ⟨Z9, rfl⟩, sub_clo rfl, trivial⟩, Zle, ⟨Z0, (((Z1r 0).new _).new _), (selfs (all_cons (o := .cells [slL 1 1 ((l ++ ([(UInt8.ofNat ((x) % 128 + 128))])).length)]) Z0 (OSub.cells (.cons (.slice ⟨Z9, rfl⟩) .nil)) (all_cons (o := rowL Z1n (l ++ ([(UInt8.ofNat ((x) % 128 + 128))]))) Z0 (OSub.arr (subs_clo (Z1t Z1x))) (Z1u))))⟩, Z1w Z0⟩⟩
   ·(try dsimp only); rw [← i0, uv_big (x := x) Z5, List.append_assoc]; rfl
   ·(try dsimp only); omega
   ·(try dsimp only); have q := uv_len_big (x := x) Z5; simp only [List.length_append, List.length_cons, List.length_nil]; omega
   ·show x / 128 < x; omega
  ·have c3e : (decide ((((x : Nat) : Int) : Int) ≥ 128)) = false := Eq.trans Z0 h2;clear h2;have c3 : ¬ (((x : Nat) : Int) : Int) ≥ 128 := of_decide_eq_false c3e;clear c3e;refine Z24 ?_;refine kF ?_;refine sk_exit ?_;dsimp only;refine .inr ⟨_, _, (fun h => Zo), ⟨rfl, ?_, rfl, rfl⟩, ⟨Z0, ⟨Z0, Z0, trivial⟩, ⟨.ptr ⟨Z9, rfl⟩, sub_clo rfl, trivial⟩, Zle, ⟨Z0, (((Z1r 0).new _).new _), (selfs (all_cons (o := .cells [slL 1 1 l.length]) Z0 (OSub.cells (.cons (.slice ⟨Z9, rfl⟩) .nil)) (all_cons (o := rowL Z1n l) Z0 (OSub.arr (subs_clo (Z1t Z1x))) (Z1u))))⟩, Z1w Z0⟩⟩
   ·omega
 ·exact ⟨Zy, Z0u, by ((try dsimp only); first | done | (have q := uv_len10 h1; omega))⟩
 rintro o e1 s1 ⟨a, lv1, M1, m1, ha, ⟨rfl, hx, rfl, rfl⟩, rfl, rfl⟩;obtain ⟨x, l⟩ := a;obtain ⟨i0, i1, i2⟩ := ha;dsimp only at hx i0 i1 i2;dsimp only;try rw [if_pos rfl]
 refine Z1p Try.cfgOk hS ?_;refine aK 2 ?_;refine aE (v := .int .u8 (IntKind.wrap .u8 ((x : Nat) : Int))) (.int .u8 (((UInt8.ofNat (x)).toNat : Nat) : Int)) (congrArg (Value.int .u8) (wrap_u8n _)) ?_;refine aK 1 ?_;refine aC 79 [.pointer (some ⟨0, 0, none⟩), .slice (some ⟨2, 0, some 1⟩) 1 1] (.tuple #[]) _ rfl (hC79 _ _ _ _ (con_wadd_at l ([(UInt8.ofNat (x))]) 0 1 2 Z0j _ Z0 Z0 Z0 Z0 )) ?_;refine Z24 ?_;exact ⟨[], Z0, rfl, Zle, all2 (Eq.trans (b := some (.cells [slL 1 1 ((l ++ ([(UInt8.ofNat (x))])).length)])) Z0 (congrArg some (show ((.cells [slL 1 1 ((l ++ ([(UInt8.ofNat (x))])).length)]) : AObj) = .cells [slL 1 1 ((l0 ++ uv x0).length)] by rw [← i0, uv_small hx]))) (Eq.trans (b := some (rowL Z1n (l ++ ([(UInt8.ofNat (x))])))) Z0 (congrArg some (show ((rowL Z1n (l ++ ([(UInt8.ofNat (x))]))) : AObj) = rowL Z1n (l0 ++ uv x0) by rw [← i0, uv_small hx])))⟩
noncomputable def sm_wcount : Small Try.prog 0 51 ((List UInt8) × Nat) where
 k := 2
 A := fun z9 ρ => [.pointer (some ⟨(ρ 0), 0, none⟩), .int .u64 ((z9.2 : Nat) : Int)]
 M := fun z9 ρ => objL [.cells [slL (ρ 1) 1 z9.1.length], rowL Z1n z9.1]
 M1 := fun z9 ρ => objL [.cells [slL (ρ 1) 1 ((z9.1 ++ uv z9.2).length)], rowL Z1n (z9.1 ++ uv z9.2)]
 V := fun z9 ρ => .tuple #[]
 Pre := fun z9 => (z9.1.length ≤ 1000000000) ∧ (z9.2 < 18446744073709551616)
 ch := [0, 1]
 N := 400
 s0 := fun z9 => (((St.empty 0).new (.cells [slL 1 1 z9.1.length])).new (rowL Z1n z9.1))
 hch := by decide
 hsame := fun x ρ => all2 (fun h => absurd (by decide) h) (fun h => absurd (by decide) h)
 hG := rfl
 hn := fun x => rfl
 hwf := fun x => (((Z1r 0).new _).new _)
 hget := fun x => all2 (by kernel_rfl) (by kernel_rfl)
 noloop := fun x ρ => all2 (fun h => h.elim) (fun h => h.elim)
 inA := fun x ρ R hR => .cons (.ptr (hR 0 _ (by decide))) (.cons (sub_clo rfl) .nil)
 inM := fun x ρ R hR => all2 (OSub.cells (.cons (.slice (hR 1 _ (by decide))) .nil)) (OSub.arr (subs_clo (Z1t Z1x)))
 outM := fun x ρ R hR => all2 (OSub.cells (.cons (.slice (hR 1 _ (by decide))) .nil)) (OSub.arr (subs_clo (Z1t Z1x)))
 outV := fun x ρ R hR => .tuple .nil
 dom := by
  intro x ρ a ha
  simp only [List.mem_cons, List.mem_singleton, List.not_mem_nil, or_false] at ha
  rcases ha with rfl | rfl
  ·refine .inl fun β y h => ?_
   obtain ⟨_, _, _, h, _⟩ := h.cons_inv
   exact h.dom_ptr
  ·exact .inr fun h => h
 sc := by
  rintro ⟨a0, a1⟩ ⟨p0, p1⟩
  exact wcount_sc a0 a1 p0 p1
 det := by
  rintro ⟨a0, a1⟩ ρ ⟨b0, b1⟩ σ s h hm hm'
  simp only [injA, injB, bcells_row] at h
  have q0 : ρ 0 = σ 0 := by simp_all
  have e0 := (hm 0 (by decide)).symm.trans ((congrArg s.get q0).trans (hm' 0 (by decide)))
  simp only [objL, List.getD_cons_zero, List.getD_cons_succ, injA, injB, bcells_row] at e0
  have q1 : ρ 1 = σ 1 := by simp_all
  have e1 := (hm 1 (by decide)).symm.trans ((congrArg s.get q1).trans (hm' 1 (by decide)))
  simp only [objL, List.getD_cons_zero, List.getD_cons_succ, injA, injB, bcells_row] at e1
  have q : ∀ a, a < 2 → ρ a = σ a := all2 q0 q1
  clear hm hm'
  exact ⟨by first | rfl | (simp_all [Prod.ext_iff]; done) | exact e0, q⟩
 par := by
  intro x ρ σ h
  have h0 := h 0 (by decide); have h1 := h 1 (by decide)
  exact ⟨by first | rfl | simp only [h0, h1], by first | exact fun _ _ => rfl | (intro a ha; simp only [h0, h1])⟩
noncomputable def con_wcount : Con Try.prog 0 := sm_wcount.con
theorem con_wcount_at (l0 : List UInt8) (x0 : Nat) (i0 : Nat) (i1 : Nat) (h0 : l0.length ≤ 1000000000) (h1 : x0 < 18446744073709551616) (s : St) (hn : nodupB [i0, i1] = true) (m0 : s.get i0 = some (.cells [slL i1 1 l0.length])) (m1 : s.get i1 = some (rowL Z1n l0)) : con_wcount.rel [.pointer (some ⟨i0, 0, none⟩), .int .u64 ((x0 : Nat) : Int)] s (.tuple #[]) ((s.set i0 (.cells [slL i1 1 ((l0 ++ uv x0).length)])).set i1 (rowL Z1n (l0 ++ uv x0))) :=
 sm_wcount.at_ (l0, x0) [i0, i1] s _ ⟨h0, h1⟩ rfl hn rfl (all2 m0 m1) rfl rfl
theorem wnum_fn : Try.cfg.fn 52 = some Try.f52 := Z0
theorem wnum_sc (l : List UInt8) (n : Int) (h0 : l.length ≤ 1000000000) (h1 : in64 n) : SC Try.prog 0 52 [.pointer (some ⟨0, 0, none⟩), .int .i64 n] (((St.empty 0).new (.cells [slL 1 1 l.length])).new (rowL Z1n l)) fun v s' => v = .tuple #[] ∧ s'.n ≤ 400 ∧ ∀ a, a < 2 → s'.get a = some (objL [.cells [slL 1 1 ((l ++ uv (fold n)).length)], rowL Z1n (l ++ uv (fold n))] a) := by
 obtain ⟨rc, hS, hC⟩ := rc_con (Z20 Try.cfgOk 300) [con_wcount] Z0;have hC51 := hC con_wcount (.head _);refine sc_body Try.cfgOk wnum_fn rfl ?_;refine Z1p Try.cfgOk hS ?_;refine aK 2 ?_;refine aE (v := .int .u64 (IntKind.wrap .u64 n)) (.int .u64 ((u64 n : Nat) : Int)) (congrArg (Value.int .u64) (wrap_u64 _)) ?_;refine aE (v := .int .u64 (IntKind.wrap .u64 (((u64 n : Nat) : Int) * 2 ^ (min (Int.toNat 1) (IntKind.bits .u64))))) (.int .u64 ((2 * (u64 n) % 18446744073709551616 : Nat) : Int)) (congrArg (Value.int .u64) (shl1_nat _)) ?_;refine aK 1 ?_;refine aE (v := .int .i64 (Int.fdiv n (2 ^ (min (Int.toNat 63) (IntKind.bits .i64))))) (.int .i64 (Int.fdiv n (2 ^ (min (Int.toNat 63) (IntKind.bits .i64))))) (congrArg (Value.int .i64) (rfl)) ?_;refine aE (v := .int .u64 (IntKind.wrap .u64 (Int.fdiv n (2 ^ (min (Int.toNat 63) (IntKind.bits .i64)))))) (.int .u64 ((u64 (Int.fdiv n (2 ^ (min (Int.toNat 63) (IntKind.bits .i64)))) : Nat) : Int)) (congrArg (Value.int .u64) (wrap_u64 _)) ?_;refine aE (v := .int .u64 (IntKind.wrap .u64 (((BitVec.ofInt (IntKind.bits .u64) ((2 * (u64 n) % 18446744073709551616 : Nat) : Int) ^^^ BitVec.ofInt (IntKind.bits .u64) ((u64 (Int.fdiv n (2 ^ (min (Int.toNat 63) (IntKind.bits .i64)))) : Nat) : Int)).toNat : Nat) : Int))) (.int .u64 ((fold n : Nat) : Int)) (congrArg (Value.int .u64) (fold_xor (by first | assumption | omega))) ?_;refine aC 51 [.pointer (some ⟨0, 0, none⟩), .int .u64 ((fold n : Nat) : Int)] (.tuple #[]) _ rfl (hC51 _ _ _ _ (con_wcount_at l (fold n) 0 1 (by first | omega | exact fold_lt Z4) (by first | omega | exact fold_lt Z4) _ Z0 Z0 Z0 )) ?_;refine Z24 ?_;exact ⟨[], Z0, rfl, Zle, all2 Z0 Z0⟩
noncomputable def sm_wnum : Small Try.prog 0 52 ((List UInt8) × Int) where
 k := 2
 A := fun z9 ρ => [.pointer (some ⟨(ρ 0), 0, none⟩), .int .i64 z9.2]
 M := fun z9 ρ => objL [.cells [slL (ρ 1) 1 z9.1.length], rowL Z1n z9.1]
 M1 := fun z9 ρ => objL [.cells [slL (ρ 1) 1 ((z9.1 ++ uv (fold z9.2)).length)], rowL Z1n (z9.1 ++ uv (fold z9.2))]
 V := fun z9 ρ => .tuple #[]
 Pre := fun z9 => (z9.1.length ≤ 1000000000) ∧ (in64 z9.2)
 ch := [0, 1]
 N := 400
 s0 := fun z9 => (((St.empty 0).new (.cells [slL 1 1 z9.1.length])).new (rowL Z1n z9.1))
 hch := by decide
 hsame := fun x ρ => all2 (fun h => absurd (by decide) h) (fun h => absurd (by decide) h)
 hG := rfl
 hn := fun x => rfl
 hwf := fun x => (((Z1r 0).new _).new _)
 hget := fun x => all2 (by kernel_rfl) (by kernel_rfl)
 noloop := fun x ρ => all2 (fun h => h.elim) (fun h => h.elim)
 inA := fun x ρ R hR => .cons (.ptr (hR 0 _ (by decide))) (.cons (sub_clo rfl) .nil)
 inM := fun x ρ R hR => all2 (OSub.cells (.cons (.slice (hR 1 _ (by decide))) .nil)) (OSub.arr (subs_clo (Z1t Z1x)))
 outM := fun x ρ R hR => all2 (OSub.cells (.cons (.slice (hR 1 _ (by decide))) .nil)) (OSub.arr (subs_clo (Z1t Z1x)))
 outV := fun x ρ R hR => .tuple .nil
 dom := by
  intro x ρ a ha
  simp only [List.mem_cons, List.mem_singleton, List.not_mem_nil, or_false] at ha
  rcases ha with rfl | rfl
  ·refine .inl fun β y h => ?_
   obtain ⟨_, _, _, h, _⟩ := h.cons_inv
   exact h.dom_ptr
  ·exact .inr fun h => h
 sc := by
  rintro ⟨a0, a1⟩ ⟨p0, p1⟩
  exact wnum_sc a0 a1 p0 p1
 det := by
  rintro ⟨a0, a1⟩ ρ ⟨b0, b1⟩ σ s h hm hm'
  simp only [injA, injB, bcells_row] at h
  have q0 : ρ 0 = σ 0 := by simp_all
  have e0 := (hm 0 (by decide)).symm.trans ((congrArg s.get q0).trans (hm' 0 (by decide)))
  simp only [objL, List.getD_cons_zero, List.getD_cons_succ, injA, injB, bcells_row] at e0
  have q1 : ρ 1 = σ 1 := by simp_all
  have e1 := (hm 1 (by decide)).symm.trans ((congrArg s.get q1).trans (hm' 1 (by decide)))
  simp only [objL, List.getD_cons_zero, List.getD_cons_succ, injA, injB, bcells_row] at e1
  have q : ∀ a, a < 2 → ρ a = σ a := all2 q0 q1
  clear hm hm'
  exact ⟨by first | rfl | (simp_all [Prod.ext_iff]; done) | exact e0, q⟩
 par := by
  intro x ρ σ h
  have h0 := h 0 (by decide); have h1 := h 1 (by decide)
  exact ⟨by first | rfl | simp only [h0, h1], by first | exact fun _ _ => rfl | (intro a ha; simp only [h0, h1])⟩
noncomputable def con_wnum : Con Try.prog 0 := sm_wnum.con
theorem con_wnum_at (l : List UInt8) (n : Int) (i0 : Nat) (i1 : Nat) (h0 : l.length ≤ 1000000000) (h1 : in64 n) (s : St) (hn : nodupB [i0, i1] = true) (m0 : s.get i0 = some (.cells [slL i1 1 l.length])) (m1 : s.get i1 = some (rowL Z1n l)) : con_wnum.rel [.pointer (some ⟨i0, 0, none⟩), .int .i64 n] s (.tuple #[]) ((s.set i0 (.cells [slL i1 1 ((l ++ uv (fold n)).length)])).set i1 (rowL Z1n (l ++ uv (fold n)))) :=
 sm_wnum.at_ (l, n) [i0, i1] s _ ⟨h0, h1⟩ rfl hn rfl (all2 m0 m1) rfl rfl
theorem wclone_fn : Try.cfg.fn 80 = some Try.f80 := Z0
theorem wclone_sc (l : List UInt8) (h0 : l.length ≤ 2 * 1000000000) : SC Try.prog 0 80 [slL 0 1 l.length] ((St.empty 0).new (rowL Z1n l)) fun v s' => v = inlL Z1n 1 l ∧ s'.n ≤ 400 ∧ ∀ a, a < 1 → s'.get a = some (objL [rowL Z1n l] a) := by
 have hS := Z20 Try.cfgOk 300;refine sc_iceK (k := 1) (N := 400) (v2 := inlL Z1n 1 l) (Ms := objL [rowL Z1n l]) rfl ?_ (all1 (OSub.arr (subs_clo (Z1t Z1x))));refine sc_body Try.cfgOk wclone_fn rfl ?_;refine Z1q ?_;refine kK Try.cfgOk hS ?_;refine Z1q (Z1q ?_);refine Z1p Try.cfgOk hS ?_;refine aK 1 ?_;refine al_nilT (l.length) true rfl Z0 rfl Z0 Z0 (fun h1 => ?_) ?_
 ·have c2 : l = [] := List.eq_nil_of_length_eq_zero h1;clear h1;refine Z24 ?_;refine kT ?_;refine Z1q ?_;refine kK Try.cfgOk hS ?_;refine Z1v ?_;exact ⟨[.slice none 0 0], Z0, fs_to (fs_nilL (f := Z1n) (sz := 1) Z9) (congrArg (inlL Z1n 1) Z08), Zle, all1 Z0⟩
 ·
  refine Z24 ?_;refine kF ?_;refine Z21 (Z1q ?_);refine Z1p Try.cfgOk hS ?_;refine aK 2 ?_;refine al_opF (v := slL 1 1 (([] : List UInt8) ++ l).length) (s1 := (((St.empty 0).new (rowL Z1n l)).new (rowL Z1n ([] : List UInt8))).set 1 (rowL Z1n (([] : List UInt8) ++ l))) Z0 Z0 (Eq.trans (b := appendV Try.cfg (((St.empty 0).new (rowL Z1n l)).new (rowL Z1n ([] : List UInt8))) 42 (slL 1 1 (([] : List UInt8).length)) (slL 0 1 l.length)) Z0 (app_rowL (l := ([] : List UInt8)) (l2 := l) (bytes := 1) tokC Z0 Z1z bcells_one Z0 Z0 (firstV_rowL Z1z Z0) Zn)) ?_;refine aN ?_;refine Z1v ?_;exact ⟨[slL 1 1 ((([] : List UInt8) ++ l).length)], Z0, fs_to (fs_rowL Z9 Z1z Z1x bcells_one Zle Z0) (congrArg (inlL Z1n 1) Z08), Zle, all1 Z0⟩
noncomputable def sm_wclone : Small Try.prog 0 80 ((List UInt8)) where
 k := 1
 A := fun z9 ρ => [slL (ρ 0) 1 z9.length]
 M := fun z9 ρ => objL [rowL Z1n z9]
 M1 := fun z9 ρ => objL [rowL Z1n z9]
 V := fun z9 ρ => inlL Z1n 1 z9
 Pre := fun z9 => (z9.length ≤ 2 * 1000000000)
 ch := []
 N := 400
 s0 := fun z9 => ((St.empty 0).new (rowL Z1n z9))
 hch := by decide
 hsame := fun x ρ => all1 (fun _ => rfl)
 hG := rfl
 hn := fun x => rfl
 hwf := fun x => ((Z1r 0).new _)
 hget := fun x => all1 (by kernel_rfl)
 noloop := fun x ρ => all1 (fun h => h.elim)
 inA := fun x ρ R hR => .cons (.slice (hR 0 _ (by decide))) .nil
 inM := fun x ρ R hR => all1 (OSub.arr (subs_clo (Z1t Z1x)))
 outM := fun x ρ R hR => all1 (OSub.arr (subs_clo (Z1t Z1x)))
 outV := fun x ρ R hR => sub_clo rfl
 dom := by
  intro x ρ a ha
  cases ha
 sc := by
  rintro x p0
  exact wclone_sc x p0
 det := by
  rintro x ρ y σ s h hm hm'
  simp only [injA, injB, bcells_row] at h
  have q0 : ρ 0 = σ 0 := by simp_all
  have e0 := (hm 0 (by decide)).symm.trans ((congrArg s.get q0).trans (hm' 0 (by decide)))
  simp only [objL, List.getD_cons_zero, List.getD_cons_succ, injA, injB, bcells_row] at e0
  have q : ∀ a, a < 1 → ρ a = σ a := all1 q0
  clear hm hm'
  exact ⟨by first | rfl | (simp_all [Prod.ext_iff]; done) | exact e0, q⟩
 par := by
  intro x ρ σ h
  have h0 := h 0 (by decide)
  exact ⟨by first | rfl | simp only [h0], by first | exact fun _ _ => rfl | (intro a ha; simp only [h0])⟩
noncomputable def con_wclone : Con Try.prog 0 := sm_wclone.con
theorem con_wclone_at (l : List UInt8) (i0 : Nat) (h0 : l.length ≤ 2 * 1000000000) (s : St) (hn : nodupB [i0] = true) (m0 : s.get i0 = some (rowL Z1n l)) : con_wclone.rel [slL i0 1 l.length] s (inlL Z1n 1 l) s :=
 sm_wclone.at_ l [i0] s _ h0 rfl hn rfl (all1 m0) rfl rfl
theorem wout_fn : Try.cfg.fn 53 = some Try.f53 := Z0
theorem wout_sc (l : List UInt8) (h0 : l.length ≤ 2 * 1000000000) : SC Try.prog 0 53 [.pointer (some ⟨0, 0, none⟩)] (((St.empty 0).new (.cells [slL 1 1 l.length])).new (rowL Z1n l)) fun v s' => v = inlL Z1n 1 l ∧ s'.n ≤ 400 ∧ ∀ a, a < 2 → s'.get a = some (objL [.cells [slL 1 1 l.length], rowL Z1n l] a) := by
 obtain ⟨rc, hS, hC⟩ := rc_con (Z20 Try.cfgOk 300) [con_wclone] Z0;have hC80 := hC con_wclone (.head _);refine sc_body Try.cfgOk wout_fn rfl ?_;refine Z1q ?_;refine kK Try.cfgOk hS ?_;refine Z1q (Z1q ?_);refine kK Try.cfgOk hS ?_;refine kF ?_;refine Z21 (Z1q ?_);refine Z1p Try.cfgOk hS ?_;refine aK 4 ?_;refine aC 80 [slL 1 1 l.length] (inlL Z1n 1 l) _ rfl (hC80 _ _ _ _ (con_wclone_at l 1 Zk _ Z0 Z0 )) ?_;refine aN ?_;refine Z1v ?_;exact ⟨[inlL Z1n 1 l], Z0, rfl, Zle, all2 Z0 Z0⟩
noncomputable def sm_wout : Small Try.prog 0 53 ((List UInt8)) where
 k := 2
 A := fun z9 ρ => [.pointer (some ⟨(ρ 0), 0, none⟩)]
 M := fun z9 ρ => objL [.cells [slL (ρ 1) 1 z9.length], rowL Z1n z9]
 M1 := fun z9 ρ => objL [.cells [slL (ρ 1) 1 z9.length], rowL Z1n z9]
 V := fun z9 ρ => inlL Z1n 1 z9
 Pre := fun z9 => (z9.length ≤ 2 * 1000000000)
 ch := []
 N := 400
 s0 := fun z9 => (((St.empty 0).new (.cells [slL 1 1 z9.length])).new (rowL Z1n z9))
 hch := by decide
 hsame := fun x ρ => all2 (fun _ => rfl) (fun _ => rfl)
 hG := rfl
 hn := fun x => rfl
 hwf := fun x => (((Z1r 0).new _).new _)
 hget := fun x => all2 (by kernel_rfl) (by kernel_rfl)
 noloop := fun x ρ => all2 (fun h => h.elim) (fun h => h.elim)
 inA := fun x ρ R hR => .cons (.ptr (hR 0 _ (by decide))) .nil
 inM := fun x ρ R hR => all2 (OSub.cells (.cons (.slice (hR 1 _ (by decide))) .nil)) (OSub.arr (subs_clo (Z1t Z1x)))
 outM := fun x ρ R hR => all2 (OSub.cells (.cons (.slice (hR 1 _ (by decide))) .nil)) (OSub.arr (subs_clo (Z1t Z1x)))
 outV := fun x ρ R hR => sub_clo rfl
 dom := by
  intro x ρ a ha
  cases ha
 sc := by
  rintro x p0
  exact wout_sc x p0
 det := by
  rintro x ρ y σ s h hm hm'
  simp only [injA, injB, bcells_row] at h
  have q0 : ρ 0 = σ 0 := by simp_all
  have e0 := (hm 0 (by decide)).symm.trans ((congrArg s.get q0).trans (hm' 0 (by decide)))
  simp only [objL, List.getD_cons_zero, List.getD_cons_succ, injA, injB, bcells_row] at e0
  have q1 : ρ 1 = σ 1 := by simp_all
  have e1 := (hm 1 (by decide)).symm.trans ((congrArg s.get q1).trans (hm' 1 (by decide)))
  simp only [objL, List.getD_cons_zero, List.getD_cons_succ, injA, injB, bcells_row] at e1
  have q : ∀ a, a < 2 → ρ a = σ a := all2 q0 q1
  clear hm hm'
  exact ⟨by first | rfl | (simp_all [Prod.ext_iff]; done) | exact e0, q⟩
 par := by
  intro x ρ σ h
  have h0 := h 0 (by decide); have h1 := h 1 (by decide)
  exact ⟨by first | rfl | simp only [h0, h1], by first | exact fun _ _ => rfl | (intro a ha; simp only [h0, h1])⟩
noncomputable def con_wout : Con Try.prog 0 := sm_wout.con
theorem con_wout_at (l : List UInt8) (i0 : Nat) (i1 : Nat) (h0 : l.length ≤ 2 * 1000000000) (s : St) (hn : nodupB [i0, i1] = true) (m0 : s.get i0 = some (.cells [slL i1 1 l.length])) (m1 : s.get i1 = some (rowL Z1n l)) : con_wout.rel [.pointer (some ⟨i0, 0, none⟩)] s (inlL Z1n 1 l) s :=
 sm_wout.at_ l [i0, i1] s _ h0 rfl hn rfl (all2 m0 m1) rfl rfl
end Go.Proofs.Ytekeepgjegkedaa