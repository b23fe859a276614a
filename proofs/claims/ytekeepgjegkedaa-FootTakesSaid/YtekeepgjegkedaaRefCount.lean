/- The bytes of a count, after the document. -/
import Derived.Test.YtekeepgjegkedaaWriter
import Derived.Test.YtekeepgjegkedaaKit
set_option linter.unusedVariables false
set_option linter.unusedSimpArgs false
set_option linter.unnecessarySimpa false
set_option maxHeartbeats 4000000
set_option maxRecDepth 100000
namespace Go.Proofs.Ytekeepgjegkedaa
open Go.Ai
theorem rcount_fn : Try.cfg.fn 62 = some Try.f62 := Z0
theorem rcount_sc (x0 : Nat) (h0 : x0 < 18446744073709551616) : SC Try.prog 0 62 [.int .u64 ((x0 : Nat) : Int)] (St.empty 0) fun v s' => ∃ σ : Nat → Nat, (∀ a, a < 0 → σ a = a) ∧ (∀ a, 0 ≤ a → a < 0 + 1 → 0 ≤ σ a ∧ σ a < s'.n) ∧ (∀ a b, a < 0 + 1 → b < 0 + 1 → σ a = σ b → a = b) ∧ v = slL (σ 0) 1 ((uv x0).length) ∧ s'.n ≤ 400 ∧ ∀ a, a < 0 + 1 → s'.get (σ a) = some (objL [rowL Z1n (uv x0)] a) := by
 have hS := Z20 Try.cfgOk 300;refine sc_body Try.cfgOk rcount_fn rfl ?_;refine Z1q ?_;refine kK Try.cfgOk hS ?_;refine Z1q ?_;refine kK Try.cfgOk hS ?_;refine Z1q (Z27 ?_);refine sk_live 20 [(0, .int .u64 ((x0 : Nat) : Int)), (3, .slice none 0 0)] Z0 ⟨Z0, Z0, trivial⟩ fun m1 => ?_
 refine sk_st (St.empty 0) Z0 ?_;refine virt_at (n := 20) (t := 3) (sz := 1) [(0, .int .u64 ((x0 : Nat) : Int)), (3, slL 0 1 0)] Z9 (Z1r 0) Z0 Z0 Z0 fun m1v => ?_
 refine sk_live 20 ((fun a : Nat × (List UInt8) => [(0, .int .u64 ((a.1 : Nat) : Int)), (3, slL 0 1 a.2.length)]) (x0, ([] : List UInt8))) Z0 ⟨Z0, Z0, trivial⟩ fun m2 => ?_
 refine sk_st ((fun a : Nat × (List UInt8) => ((St.empty 0).new (rowL Z1n a.2))) (x0, ([] : List UInt8))) Z0 ?_;refine (sk_while (k := 1) (N := 400) (live := (fun a : Nat × (List UInt8) => [(0, .int .u64 ((a.1 : Nat) : Int)), (3, slL 0 1 a.2.length)])) (M := (fun a : Nat × (List UInt8) => ((St.empty 0).new (rowL Z1n a.2)))) (fun a : Nat × (List UInt8) => (a.2 ++ uv a.1 = uv x0) ∧ (a.1 < 18446744073709551616) ∧ (a.2.length + (uv a.1).length ≤ 10)) (fun a : Nat × (List UInt8) => a.1) (fun (a : Nat × (List UInt8)) (o : Out) (lv : List (Nat × Value)) (M : St) => (o = .exit 0 ∧ (a.1 < 128) ∧ lv = [(0, .int .u64 ((a.1 : Nat) : Int)), (3, slL 0 1 a.2.length)] ∧ M = ((St.empty 0).new (rowL Z1n a.2)))) (Nat.zero_le _) (fun a ha => ?_) (fun a ha => ?_) (fun a m ha => ?_) (fun a m ha => ?_) (x0, ([] : List UInt8)) m2 ?_).up ?_
 ·exact ⟨Z0, ((Z1r 0).new _), (selfs (all_cons (o := rowL Z1n a.2) Z0 (OSub.arr (subs_clo (Z1t Z1x))) (Z1u)))⟩
 ·exact ⟨sub_clo rfl, .slice ⟨Z9, rfl⟩, trivial⟩
 ·exact ⟨Z0, Z0, trivial⟩
 ·obtain ⟨x, l⟩ := a;obtain ⟨i0, i1, i2⟩ := ha;dsimp only at i0 i1 i2;refine Z1q (Z1q ?_);refine Z1p Try.cfgOk hS ?_;refine aK 1 ?_;refine aT (fun h3 => ?_) (fun h3 => ?_)
  ·have c4e : (decide ((((x : Nat) : Int) : Int) ≥ 128)) = true := Eq.trans Z0 h3;clear h3;have c4 : (((x : Nat) : Int) : Int) ≥ 128 := of_decide_eq_true c4e;clear c4e;refine Z24 ?_;refine kT ?_;refine Z21 (Z27 (Z1q ?_));refine Z1p Try.cfgOk hS ?_;refine aK 2 ?_;refine aE (v := .int .u64 (Int.tmod ((x : Nat) : Int) 128)) (.int .u64 ((x % 128 : Nat) : Int)) (congrArg (Value.int .u64) (rem_nat (y := 128) rfl)) ?_;refine aE (v := .int .u64 (IntKind.wrap .u64 (((x % 128 : Nat) : Int) + 128))) (.int .u64 ((x % 128 + 128 : Nat) : Int)) (congrArg (Value.int .u64) (u64_to Z5 Z5)) ?_;refine aE (v := .int .u8 (IntKind.wrap .u8 ((x % 128 + 128 : Nat) : Int))) (.int .u8 (((UInt8.ofNat (x % 128 + 128)).toNat : Nat) : Int)) (congrArg (Value.int .u8) (wrap_u8n _)) ?_;refine aK 1 ?_;refine al_opF (v := slL 0 1 (l ++ [(UInt8.ofNat (x % 128 + 128))]).length) (s1 := (((St.empty 0).new (rowL Z1n l)).new (.arr [.int .u8 (((UInt8.ofNat (x % 128 + 128)).toNat : Nat) : Int)] 0 false)).set 0 (rowL Z1n (l ++ [(UInt8.ofNat (x % 128 + 128))]))) Z0 Z0 (Eq.trans (b := appendV Try.cfg (((St.empty 0).new (rowL Z1n l)).new (.arr [.int .u8 (((UInt8.ofNat (x % 128 + 128)).toNat : Nat) : Int)] 0 false)) 42 (slL 0 1 l.length) (.slice (some ⟨1, 0, some 1⟩) 1 1)) Z0 (app_rowL (l := l) (l2 := [(UInt8.ofNat (x % 128 + 128))]) (bytes := 1) tokC Z0 Z1z bcells_one Z0 Z0 Z0 Zn)) ?_;refine aN ?_;refine Z1p Try.cfgOk hS ?_;refine aK 1 ?_;refine aE (v := .int .u64 (IntKind.wrap .u64 (Int.tdiv ((x : Nat) : Int) 128))) (.int .u64 ((x / 128 : Nat) : Int)) (congrArg (Value.int .u64) (quo_nat (y := 128) Z5 rfl)) ?_;refine aN ?_;refine .inl ⟨(x / 128, (l ++ [(UInt8.ofNat (x % 128 + 128))])), rfl, ⟨?_, ?_, ?_⟩, ?_, ⟨Z0, ⟨Z0, Z0, trivial⟩, ⟨sub_clo rfl, .slice ⟨Z9, rfl⟩, trivial⟩, Zle, ⟨Z0, ((Z1r 0).new _), (selfs (all_cons (o := rowL Z1n (l ++ [(UInt8.ofNat (x % 128 + 128))])) Z0 (OSub.arr (subs_clo (Z1t Z1x))) (Z1u)))⟩, Z1w Z0⟩⟩
   ·(try dsimp only); rw [← i0, uv_big (x := x) Z5, List.append_assoc]; rfl
   ·(try dsimp only); omega
   ·(try dsimp only); have q := uv_len_big (x := x) Z5; simp only [List.length_append, List.length_cons, List.length_nil]; omega
   ·show x / 128 < x; omega
  ·have c4e : (decide ((((x : Nat) : Int) : Int) ≥ 128)) = false := Eq.trans Z0 h3;clear h3;have c4 : ¬ (((x : Nat) : Int) : Int) ≥ 128 := of_decide_eq_false c4e;clear c4e;refine Z24 ?_;refine kF ?_;refine sk_exit ?_;dsimp only;refine .inr ⟨_, _, (fun h => Zo), ⟨rfl, ?_, rfl, rfl⟩, ⟨Z0, ⟨Z0, Z0, trivial⟩, ⟨sub_clo rfl, .slice ⟨Z9, rfl⟩, trivial⟩, Zle, ⟨Z0, ((Z1r 0).new _), (selfs (all_cons (o := rowL Z1n l) Z0 (OSub.arr (subs_clo (Z1t Z1x))) (Z1u)))⟩, Z1w Z0⟩⟩
   ·omega
 ·exact ⟨Zy, Z0u, by ((try dsimp only); first | done | (have q := uv_len10 h0; simpa using q))⟩
 rintro o e1 s1 ⟨a, lv1, M1, m2, ha, ⟨rfl, hx, rfl, rfl⟩, rfl, rfl⟩;obtain ⟨x, l⟩ := a;obtain ⟨i0, i1, i2⟩ := ha;dsimp only at hx i0 i1 i2;dsimp only;try rw [if_pos rfl]
 refine Z1q ?_;refine Z1p Try.cfgOk hS ?_;refine aK 2 ?_;refine aE (v := .int .u8 (IntKind.wrap .u8 ((x : Nat) : Int))) (.int .u8 (((UInt8.ofNat (x)).toNat : Nat) : Int)) (congrArg (Value.int .u8) (wrap_u8n _)) ?_;refine aK 1 ?_;refine al_opF (v := slL 0 1 (l ++ [(UInt8.ofNat (x))]).length) (s1 := (((St.empty 0).new (rowL Z1n l)).new (.arr [.int .u8 (((UInt8.ofNat (x)).toNat : Nat) : Int)] 0 false)).set 0 (rowL Z1n (l ++ [(UInt8.ofNat (x))]))) Z0 Z0 (Eq.trans (b := appendV Try.cfg (((St.empty 0).new (rowL Z1n l)).new (.arr [.int .u8 (((UInt8.ofNat (x)).toNat : Nat) : Int)] 0 false)) 42 (slL 0 1 l.length) (.slice (some ⟨1, 0, some 1⟩) 1 1)) Z0 (app_rowL (l := l) (l2 := [(UInt8.ofNat (x))]) (bytes := 1) tokC Z0 Z1z bcells_one Z0 Z0 Z0 Zn)) ?_;refine aN ?_;refine Z1v ?_;exact ⟨[slL 0 1 (List.length (α := UInt8) (l ++ [(UInt8.ofNat (x))]))], Z0, rhoL [0], all0 , new_rho rfl Z0, nodup_rho (ids := [0]) rfl, (show (slL 0 1 (List.length (α := UInt8) (l ++ [(UInt8.ofNat (x))])) : Value) = slL 0 1 ((uv x0).length) by rw [← i0, uv_small hx]), Zle, all1 (Eq.trans (b := some (rowL Z1n (l ++ [(UInt8.ofNat (x))]))) Z0 (congrArg some (show ((rowL Z1n (l ++ [(UInt8.ofNat (x))])) : AObj) = rowL Z1n (uv x0) by rw [← i0, uv_small hx])))⟩
noncomputable def sm_rcount : SmallN Try.prog 0 62 (Nat) where
 k := 0
 m := 1
 A := fun z9 ρ => [.int .u64 ((z9 : Nat) : Int)]
 M := fun z9 ρ => objL []
 M1 := fun z9 ρ => objL [rowL Z1n (uv z9)]
 V := fun z9 ρ => slL (ρ 0) 1 ((uv z9).length)
 Pre := fun z9 => (z9 < 18446744073709551616)
 ch := []
 N := 400
 s0 := fun z9 => (St.empty 0)
 hch := by decide
 hsame := fun x ρ => all0
 hG := rfl
 hn := fun x => rfl
 hwf := fun x => (Z1r 0)
 hget := fun x => all0
 noloop := fun x ρ => all0
 inA := fun x ρ R hR => .cons (sub_clo rfl) .nil
 inM := fun x ρ R hR => all0
 outM := fun x σ ρ R hR => all1 (OSub.arr (subs_clo (Z1t Z1x)))
 outV := fun x σ ρ R hR => .slice (hR 0 _ (by decide))
 dom := by
  intro x ρ a ha
  cases ha
 sc := by
  rintro x p0
  exact rcount_sc x p0
 det := by
  rintro x ρ y σ s h hm hm'
  simp only [injA, injB] at h
  have q : ∀ a, a < 0 → ρ a = σ a := all0
  clear hm hm'
  exact ⟨by first | rfl | exact h | (simp_all [Prod.ext_iff]; done) | exact e0, q⟩
 par := by
  intro x ρ σ h
  have h0 := h 0 (by decide)
  exact ⟨by first | rfl | simp only [h0], by first | exact fun _ _ => rfl | (intro a ha; simp only [h0])⟩
noncomputable def con_rcount : Con Try.prog 0 := sm_rcount.con
theorem con_rcount_at (x0 : Nat) (i0 : Nat) (h0 : x0 < 18446744073709551616) (s : St) (hn : nodupB [] = true)  (n0 : i0 = s.n + 0) : con_rcount.rel [.int .u64 ((x0 : Nat) : Int)] s (slL i0 1 ((uv x0).length)) (s.new (rowL Z1n (uv x0))) :=
 sm_rcount.at_ x0 [i0] s _ h0 rfl hn rfl (all0 ) (new_all (p := fun a b => rhoL [i0] a = s.n + b) (all1 n0)) rfl rfl
theorem folded_fn : Try.cfg.fn 82 = some Try.f82 := Z0
theorem folded_sc (n : Int) (h0 : in64 n) : SC Try.prog 0 82 [.int .i64 n] (St.empty 0) fun v s' => v = .int .u64 ((fold n : Nat) : Int) ∧ s'.n ≤ 400 := by
 have hS := Z20 Try.cfgOk 300;refine sc_ice0 (N := 400) (v2 := .int .u64 ((fold n : Nat) : Int)) (Q := fun v s' => FS 0 s' v (.int .u64 ((fold n : Nat) : Int)) ∧ s'.n ≤ 400) ?_ (fun _ _ h => h);refine sc_body Try.cfgOk folded_fn rfl ?_;refine Z1q ?_;refine kK Try.cfgOk hS ?_;refine Z1q (Z1q ?_);refine Z1p Try.cfgOk hS ?_;refine aK 1 ?_;refine aT (fun h1 => ?_) (fun h1 => ?_)
 ·have c2e : (decide ((n : Int) < 0)) = true := Eq.trans Z0 h1;clear h1;have c2 : (n : Int) < 0 := of_decide_eq_true c2e;clear c2e;refine Z24 ?_;refine kT ?_;refine Z1q ?_;refine Z1p Try.cfgOk hS ?_;refine aK 3 ?_;refine aE (v := .int .u64 (IntKind.wrap .u64 (IntKind.wrap .i64 (0 - (IntKind.wrap .i64 (n + 1)))))) (.int .u64 ((u64 (IntKind.wrap .i64 (0 - (IntKind.wrap .i64 (n + 1)))) : Nat) : Int)) (congrArg (Value.int .u64) (wrap_u64 _)) ?_;refine aN ?_;refine Z1v ?_;exact ⟨[.int .u64 (IntKind.wrap .u64 ((IntKind.wrap .u64 (2 * ((u64 (IntKind.wrap .i64 (0 - (IntKind.wrap .i64 (n + 1)))) : Nat) : Int))) + 1))], Z0, fs_to (fs_clo rfl) (congrArg (Value.int .u64) Z0p), Zle⟩
 ·have c2e : (decide ((n : Int) < 0)) = false := Eq.trans Z0 h1;clear h1;have c2 : ¬ (n : Int) < 0 := of_decide_eq_false c2e;clear c2e;refine Z24 ?_;refine kF ?_;refine Z21 (Z1q ?_);refine Z1p Try.cfgOk hS ?_;refine aK 1 ?_;refine aE (v := .int .u64 (IntKind.wrap .u64 n)) (.int .u64 ((u64 n : Nat) : Int)) (congrArg (Value.int .u64) (wrap_u64 _)) ?_;refine aN ?_;refine Z1v ?_;exact ⟨[.int .u64 (IntKind.wrap .u64 (2 * ((u64 n : Nat) : Int)))], Z0, fs_to (fs_clo rfl) (congrArg (Value.int .u64) Z0p), Zle⟩
noncomputable def con_folded : Con Try.prog 0 := Con.pure (α := Int) 82 (fun z9 => [.int .i64 z9]) (fun z9 => .int .u64 ((fold z9 : Nat) : Int)) (fun z9 => (in64 z9)) (by
 intro x y h
 simp only [injA] at h
 first | exact h | (simp only [Prod.ext_iff, h, and_self, and_true, true_and]; done) | simp_all [Prod.ext_iff]) (fun _ => rfl) (fun _ => rfl) 400 (by
 rintro x p0
 exact folded_sc x p0)
theorem con_folded_at (n : Int) (h0 : in64 n) (s : St) : con_folded.rel [.int .i64 n] s (.int .u64 ((fold n : Nat) : Int)) s := con_pure n h0 s
theorem rnum_fn : Try.cfg.fn 63 = some Try.f63 := Z0
theorem rnum_sc (n : Int) (h0 : in64 n) : SC Try.prog 0 63 [.int .i64 n] (St.empty 0) fun v s' => ∃ σ : Nat → Nat, (∀ a, a < 0 → σ a = a) ∧ (∀ a, 0 ≤ a → a < 0 + 1 → 0 ≤ σ a ∧ σ a < s'.n) ∧ (∀ a b, a < 0 + 1 → b < 0 + 1 → σ a = σ b → a = b) ∧ v = slL (σ 0) 1 ((uv (fold n)).length) ∧ s'.n ≤ 400 ∧ ∀ a, a < 0 + 1 → s'.get (σ a) = some (objL [rowL Z1n (uv (fold n))] a) := by
 obtain ⟨rc, hS, hC⟩ := rc_con (Z20 Try.cfgOk 300) [con_folded, con_rcount] Z0;have hC82 := hC con_folded (.head _);have hC62 := hC con_rcount (.tail _ (.head _));refine sc_body Try.cfgOk rnum_fn rfl ?_;refine Z1q ?_;refine kK Try.cfgOk hS ?_;refine Z1q ?_;refine Z1p Try.cfgOk hS ?_;refine aK 1 ?_;refine aC 82 [.int .i64 n] (.int .u64 ((fold n : Nat) : Int)) _ rfl (hC82 _ _ _ _ (con_folded_at n Z15 _)) ?_;refine aC 62 [.int .u64 ((fold n : Nat) : Int)] (slL 0 1 ((uv (fold n)).length)) _ rfl (hC62 _ _ _ _ (con_rcount_at (fold n) 0 Z15 _ Z0 Z0 )) ?_;refine aN ?_;refine Z1v ?_;exact ⟨[slL 0 1 ((uv (fold n)).length)], Z0, rhoL [0], all0 , new_rho rfl Z0, nodup_rho (ids := [0]) rfl, rfl, Zle, all1 Z0⟩
noncomputable def sm_rnum : SmallN Try.prog 0 63 (Int) where
 k := 0
 m := 1
 A := fun z9 ρ => [.int .i64 z9]
 M := fun z9 ρ => objL []
 M1 := fun z9 ρ => objL [rowL Z1n (uv (fold z9))]
 V := fun z9 ρ => slL (ρ 0) 1 ((uv (fold z9)).length)
 Pre := fun z9 => (in64 z9)
 ch := []
 N := 400
 s0 := fun z9 => (St.empty 0)
 hch := by decide
 hsame := fun x ρ => all0
 hG := rfl
 hn := fun x => rfl
 hwf := fun x => (Z1r 0)
 hget := fun x => all0
 noloop := fun x ρ => all0
 inA := fun x ρ R hR => .cons (sub_clo rfl) .nil
 inM := fun x ρ R hR => all0
 outM := fun x σ ρ R hR => all1 (OSub.arr (subs_clo (Z1t Z1x)))
 outV := fun x σ ρ R hR => .slice (hR 0 _ (by decide))
 dom := by
  intro x ρ a ha
  cases ha
 sc := by
  rintro x p0
  exact rnum_sc x p0
 det := by
  rintro x ρ y σ s h hm hm'
  simp only [injA, injB] at h
  have q : ∀ a, a < 0 → ρ a = σ a := all0
  clear hm hm'
  exact ⟨by first | rfl | exact h | (simp_all [Prod.ext_iff]; done) | exact e0, q⟩
 par := by
  intro x ρ σ h
  have h0 := h 0 (by decide)
  exact ⟨by first | rfl | simp only [h0], by first | exact fun _ _ => rfl | (intro a ha; simp only [h0])⟩
noncomputable def con_rnum : Con Try.prog 0 := sm_rnum.con
theorem con_rnum_at (n : Int) (i0 : Nat) (h0 : in64 n) (s : St) (hn : nodupB [] = true)  (n0 : i0 = s.n + 0) : con_rnum.rel [.int .i64 n] s (slL i0 1 ((uv (fold n)).length)) (s.new (rowL Z1n (uv (fold n)))) :=
 sm_rnum.at_ n [i0] s _ h0 rfl hn rfl (all0 ) (new_all (p := fun a b => rhoL [i0] a = s.n + b) (all1 n0)) rfl rfl
end Go.Proofs.Ytekeepgjegkedaa