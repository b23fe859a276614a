/- The bytes of keys. -/
import Derived.Test.YtekeepgjegkedaaRefCount
import Derived.Test.YtekeepgjegkedaaKit
set_option linter.unusedVariables false
set_option linter.unusedSimpArgs false
set_option linter.unnecessarySimpa false
set_option maxHeartbeats 4000000
set_option maxRecDepth 100000
namespace Go.Proofs.Ytekeepgjegkedaa
open Go.Ai
def kb (k : Key) : List UInt8 := uv (u64 k.1) ++ uv (fold k.2)
def keysB (l : List Key) : List UInt8 := uv l.length ++ catB kb l
def okK (l : List Key) : Prop := l.length ≤ 6000 ∧ ∀ k ∈ l, in64 k.2
theorem okK.at_ {l : List Key} (h : okK l) {i : Nat} {x : Key} (hi : l[i]? = some x) : in64 x.2 := h.2 x (List.mem_of_getElem? hi)
theorem kb_len {k : Key} (h : in64 k.2) {l : List UInt8} : (l ++ uv (u64 k.1) ++ uv (fold k.2)).length ≤ l.length + 20 := app_leF h (Nat.add_le_add_right (app_le (Nat.le_refl _)) 10)
theorem putKeys_fn : Try.cfg.fn 50 = some Try.f50 := Z0
theorem putKeys_sc (l0 : List UInt8) (ks : List Key) (h0 : l0.length ≤ 100000000) (h1 : okK ks) : SC Try.prog 0 50 [.pointer (some ⟨0, 0, none⟩), inlL Z1o 2 ks] (((St.empty 0).new (.cells [slL 1 1 l0.length])).new (rowL Z1n l0)) fun v s' => v = .tuple #[] ∧ s'.n ≤ 400 ∧ ∀ a, a < 2 → s'.get a = some (objL [.cells [slL 1 1 ((l0 ++ keysB ks).length)], rowL Z1n (l0 ++ keysB ks)] a) := by
 obtain ⟨rc, hS, hC⟩ := rc_con (Z20 Try.cfgOk 300) [con_wcount, con_wnum] Z0;have hC51 := hC con_wcount (.head _);have hC52 := hC con_wnum (.tail _ (.head _));refine sc_body Try.cfgOk putKeys_fn rfl ?_;refine Z1q ?_;refine Z1p Try.cfgOk hS ?_;refine aK 2 ?_;refine aM (lenB Try.cfg (St.empty 0) 22 (inlL Z1o 2 ks)) (.int .i64 ((ks.length : Nat) : Int)) (len_inl tokC Z0) ?_;refine aE (v := .int .u64 (IntKind.wrap .u64 ((ks.length : Nat) : Int))) (.int .u64 ((ks.length : Nat) : Int)) (congrArg (Value.int .u64) ((wrap_u64 _).trans (congrArg Nat.cast (u64_nat Z0q)))) ?_;refine aC 51 [.pointer (some ⟨0, 0, none⟩), .int .u64 ((ks.length : Nat) : Int)] (.tuple #[]) _ rfl (hC51 _ _ _ _ (con_wcount_at l0 ks.length 0 1 Ze Ze _ Z0 Z0 Z0 )) ?_;refine Z24 ?_;refine Z1q ?_;refine Z1p Try.cfgOk hS ?_;refine aK 1 ?_;refine aM (lenB Try.cfg (St.empty 0) 22 (inlL Z1o 2 ks)) (.int .i64 ((ks.length : Nat) : Int)) (len_inl tokC Z0) ?_;refine aN ?_;refine Z27 ?_;refine sk_live 27 ((fun a : Nat × (List UInt8) => [(0, .pointer (some ⟨0, 0, none⟩)), (11, inlL Z1o 2 ks), (12, .int .i64 ((ks.length : Nat) : Int)), (13, .int .i64 ((a.1 : Nat) : Int))]) (0, (l0 ++ uv ks.length))) Z0 ⟨Z0, Z0, Z0, Z0, trivial⟩ fun m1 => ?_
 refine sk_st ((fun a : Nat × (List UInt8) => (((St.empty 0).new (.cells [slL 1 1 a.2.length])).new (rowL Z1n a.2))) (0, (l0 ++ uv ks.length))) Z0 ?_;refine (sk_while (k := 2) (N := 400) (live := (fun a : Nat × (List UInt8) => [(0, .pointer (some ⟨0, 0, none⟩)), (11, inlL Z1o 2 ks), (12, .int .i64 ((ks.length : Nat) : Int)), (13, .int .i64 ((a.1 : Nat) : Int))])) (M := (fun a : Nat × (List UInt8) => (((St.empty 0).new (.cells [slL 1 1 a.2.length])).new (rowL Z1n a.2)))) (fun a : Nat × (List UInt8) => (a.1 ≤ ks.length) ∧ (a.2 = l0 ++ (uv ks.length ++ catB kb (ks.take a.1))) ∧ (a.2.length ≤ l0.length + 10 + 20 * a.1) ∧ (ks.length ≤ 6000)) (fun a : Nat × (List UInt8) => ks.length - a.1) (fun (a : Nat × (List UInt8)) (o : Out) (lv : List (Nat × Value)) (M : St) => (o = .exit 0 ∧ (¬ a.1 < ks.length) ∧ lv = [(0, .pointer (some ⟨0, 0, none⟩)), (11, inlL Z1o 2 ks), (12, .int .i64 ((ks.length : Nat) : Int)), (13, .int .i64 ((a.1 : Nat) : Int))] ∧ M = (((St.empty 0).new (.cells [slL 1 1 a.2.length])).new (rowL Z1n a.2)))) (Nat.zero_le _) (fun a ha => ?_) (fun a ha => ?_) (fun a m ha => ?_) (fun a m ha => ?_) (0, (l0 ++ uv ks.length)) m1 ?_).up ?_
 ·exact ⟨Z0, (((Z1r 0).new _).new _), (selfs (all_cons (o := .cells [slL 1 1 a.2.length]) Z0 (OSub.cells (.cons (.slice ⟨Z9, rfl⟩) .nil)) (all_cons (o := rowL Z1n a.2) Z0 (OSub.arr (subs_clo (Z1t Z1x))) (Z1u))))⟩
 ·exact ⟨.ptr ⟨Z9, rfl⟩, sub_clo rfl, sub_clo rfl, sub_clo rfl, trivial⟩
 ·exact ⟨Z0, Z0, Z0, Z0, trivial⟩
 ·obtain ⟨i, l⟩ := a;obtain ⟨i0, i1, i2, i3⟩ := ha;dsimp only at i0 i1 i2 i3;refine Z1q ?_;refine Z1p Try.cfgOk hS ?_;refine aT (fun h2 => ?_) (fun h2 => ?_)
  ·have c3e : (decide ((((i : Nat) : Int) : Int) < ((ks.length : Nat) : Int))) = true := Eq.trans Z0 h2;clear h2;have c3 : (((i : Nat) : Int) : Int) < ((ks.length : Nat) : Int) := of_decide_eq_true c3e;clear c3e;refine Z24 ?_;refine Z1q ?_;refine kT ?_;refine Z21 (Z1q (Z27 (Z1q ?_)));refine Z1p Try.cfgOk hS ?_;refine aM (Z23 Try.cfg 22 (inlL Z1o 2 ks) (.int .i64 ((i : Nat) : Int))) (elt (flatL Z1o ks) (i * 2)) (idx_inlL tokC Z0 Zu) ?_;have hx4l : i < ks.length := by omega
   refine Exists.elim (get_ex hx4l) fun x4 hx4 => ?_
   clear hx4l;refine aM (loadV Try.cfg (St.empty 0) 30 (elt (flatL Z1o ks) (i * 2))) (.agg #[.int .i64 x4.1, .int .i64 x4.2]) (load_el tokC Z0 kcells_len hx4) ?_;refine aN ?_;refine Z1q ?_;refine Z1p Try.cfgOk hS ?_;refine aK 3 ?_;refine aE (v := .int .u64 (IntKind.wrap .u64 x4.1)) (.int .u64 ((u64 x4.1 : Nat) : Int)) (congrArg (Value.int .u64) (wrap_u64 _)) ?_;refine aC 51 [.pointer (some ⟨0, 0, none⟩), .int .u64 ((u64 x4.1 : Nat) : Int)] (.tuple #[]) _ rfl (hC51 _ _ _ _ (con_wcount_at l (u64 x4.1) 0 1 Ze Ze _ Z0 Z0 Z0 )) ?_;refine Z24 ?_;refine Z1p Try.cfgOk hS ?_;refine aK 3 ?_;refine aC 52 [.pointer (some ⟨0, 0, none⟩), .int .i64 x4.2] (.tuple #[]) _ rfl (hC52 _ _ _ _ (con_wnum_at (l ++ uv (u64 x4.1)) x4.2 0 1 Ze Ze _ Z0 Z0 Z0 )) ?_;refine Z24 ?_;refine Z1p Try.cfgOk hS ?_;refine aE (v := .int .i64 (IntKind.wrap .i64 (((i : Nat) : Int) + 1))) (.int .i64 ((i + 1 : Nat) : Int)) (congrArg (Value.int .i64) (wrap_to Z5 Z5)) ?_;refine aN ?_;refine .inl ⟨(i + 1, ((l ++ uv (u64 x4.1)) ++ uv (fold x4.2))), rfl, ⟨?_, ?_, ?_, ?_⟩, ?_, ⟨Z0, ⟨Z0, Z0, Z0, Z0, trivial⟩, ⟨.ptr ⟨Z9, rfl⟩, sub_clo rfl, sub_clo rfl, sub_clo rfl, trivial⟩, Zle, ⟨Z0, (((Z1r 0).new _).new _), (selfs (all_cons (o := .cells [slL 1 1 (((l ++ uv (u64 x4.1)) ++ uv (fold x4.2)).length)]) Z0 (OSub.cells (.cons (.slice ⟨Z9, rfl⟩) .nil)) (all_cons (o := rowL Z1n ((l ++ uv (u64 x4.1)) ++ uv (fold x4.2))) Z0 (OSub.arr (subs_clo (Z1t Z1x))) (Z1u))))⟩, Z1w Z0⟩⟩
   ·(try dsimp only); omega
   ·(try dsimp only); rw [i1, catB_succ Z4]; simp only [kb, List.append_assoc]
   ·(try dsimp only); exact Nat.le_trans (kb_len (h1.at_ Z4)) Z5
   ·(try dsimp only); assumption
   ·omega
  ·have c3e : (decide ((((i : Nat) : Int) : Int) < ((ks.length : Nat) : Int))) = false := Eq.trans Z0 h2;clear h2;have c3 : ¬ (((i : Nat) : Int) : Int) < ((ks.length : Nat) : Int) := of_decide_eq_false c3e;clear c3e;refine Z24 ?_;refine Z1q ?_;refine kF ?_;refine sk_exit ?_;dsimp only;refine .inr ⟨_, _, (fun h => Zo), ⟨rfl, ?_, rfl, rfl⟩, ⟨Z0, ⟨Z0, Z0, Z0, Z0, trivial⟩, ⟨.ptr ⟨Z9, rfl⟩, sub_clo rfl, sub_clo rfl, sub_clo rfl, trivial⟩, Zle, ⟨Z0, (((Z1r 0).new _).new _), (selfs (all_cons (o := .cells [slL 1 1 l.length]) Z0 (OSub.cells (.cons (.slice ⟨Z9, rfl⟩) .nil)) (all_cons (o := rowL Z1n l) Z0 (OSub.arr (subs_clo (Z1t Z1x))) (Z1u))))⟩, Z1w Z0⟩⟩
   ·omega
 ·exact ⟨Zi, Z0b, by ((try dsimp only); first | done | (exact app_leN Z12 Z5)), Z0i⟩
 rintro o e1 s1 ⟨a, lv1, M1, m1, ha, ⟨rfl, hx, rfl, rfl⟩, rfl, rfl⟩;obtain ⟨i, l⟩ := a;obtain ⟨i0, i1, i2, i3⟩ := ha;dsimp only at hx i0 i1 i2 i3;dsimp only;try rw [if_pos rfl]
 exact ⟨[], Z0, rfl, Zle, all2 (Eq.trans (b := some (.cells [slL 1 1 l.length])) Z0 (congrArg some (show ((.cells [slL 1 1 l.length]) : AObj) = .cells [slL 1 1 ((l0 ++ keysB ks).length)] by rw [i1, List.take_of_length_le Z5, keysB]))) (Eq.trans (b := some (rowL Z1n l)) Z0 (congrArg some (show ((rowL Z1n l) : AObj) = rowL Z1n (l0 ++ keysB ks) by rw [i1, List.take_of_length_le Z5, keysB])))⟩
noncomputable def sm_putKeys : Small Try.prog 0 50 ((List UInt8) × (List Key)) where
 k := 2
 A := fun z9 ρ => [.pointer (some ⟨(ρ 0), 0, none⟩), inlL Z1o 2 z9.2]
 M := fun z9 ρ => objL [.cells [slL (ρ 1) 1 z9.1.length], rowL Z1n z9.1]
 M1 := fun z9 ρ => objL [.cells [slL (ρ 1) 1 ((z9.1 ++ keysB z9.2).length)], rowL Z1n (z9.1 ++ keysB z9.2)]
 V := fun z9 ρ => .tuple #[]
 Pre := fun z9 => (z9.1.length ≤ 100000000) ∧ (okK z9.2)
 ch := [0, 1]
 N := 400
 s0 := fun z9 => (((St.empty 0).new (.cells [slL 1 1 z9.1.length])).new (rowL Z1n z9.1))
 hch := by decide
 hsame := fun x ρ => all2 (fun h => absurd (by decide) h) (fun h => absurd (by decide) h)
 hG := rfl
 hn := fun x => rfl
 hwf := fun x => (((Z1r 0).new _).new _)
 hget := fun x => all2 (by kernel_rfl) (by kernel_rfl)
 noloop := fun x ρ => all2 (fun h => h.elim) (fun h => h.elim)
 inA := fun x ρ R hR => .cons (.ptr (hR 0 _ (by decide))) (.cons (sub_clo rfl) .nil)
 inM := fun x ρ R hR => all2 (OSub.cells (.cons (.slice (hR 1 _ (by decide))) .nil)) (OSub.arr (subs_clo (Z1t Z1x)))
 outM := fun x ρ R hR => all2 (OSub.cells (.cons (.slice (hR 1 _ (by decide))) .nil)) (OSub.arr (subs_clo (Z1t Z1x)))
 outV := fun x ρ R hR => .tuple .nil
 dom := by
  intro x ρ a ha
  simp only [List.mem_cons, List.mem_singleton, List.not_mem_nil, or_false] at ha
  rcases ha with rfl | rfl
  ·refine .inl fun β y h => ?_
   obtain ⟨_, _, _, h, _⟩ := h.cons_inv
   exact h.dom_ptr
  ·exact .inr fun h => h
 sc := by
  rintro ⟨a0, a1⟩ ⟨p0, p1⟩
  exact putKeys_sc a0 a1 p0 p1
 det := by
  rintro ⟨a0, a1⟩ ρ ⟨b0, b1⟩ σ s h hm hm'
  simp only [injA, injB, kcells_iff, bcells_row] at h
  have q0 : ρ 0 = σ 0 := by simp_all
  have e0 := (hm 0 (by decide)).symm.trans ((congrArg s.get q0).trans (hm' 0 (by decide)))
  simp only [objL, List.getD_cons_zero, List.getD_cons_succ, injA, injB, kcells_iff, bcells_row] at e0
  have q1 : ρ 1 = σ 1 := by simp_all
  have e1 := (hm 1 (by decide)).symm.trans ((congrArg s.get q1).trans (hm' 1 (by decide)))
  simp only [objL, List.getD_cons_zero, List.getD_cons_succ, injA, injB, kcells_iff, bcells_row] at e1
  have q : ∀ a, a < 2 → ρ a = σ a := all2 q0 q1
  clear hm hm'
  exact ⟨by first | rfl | (simp_all [Prod.ext_iff]; done) | exact e0, q⟩
 par := by
  intro x ρ σ h
  have h0 := h 0 (by decide); have h1 := h 1 (by decide)
  exact ⟨by first | rfl | simp only [h0, h1], by first | exact fun _ _ => rfl | (intro a ha; simp only [h0, h1])⟩
noncomputable def con_putKeys : Con Try.prog 0 := sm_putKeys.con
theorem con_putKeys_at (l0 : List UInt8) (ks : List Key) (i0 : Nat) (i1 : Nat) (h0 : l0.length ≤ 100000000) (h1 : okK ks) (s : St) (hn : nodupB [i0, i1] = true) (m0 : s.get i0 = some (.cells [slL i1 1 l0.length])) (m1 : s.get i1 = some (rowL Z1n l0)) : con_putKeys.rel [.pointer (some ⟨i0, 0, none⟩), inlL Z1o 2 ks] s (.tuple #[]) ((s.set i0 (.cells [slL i1 1 ((l0 ++ keysB ks).length)])).set i1 (rowL Z1n (l0 ++ keysB ks))) :=
 sm_putKeys.at_ (l0, ks) [i0, i1] s _ ⟨h0, h1⟩ rfl hn rfl (all2 m0 m1) rfl rfl
theorem rkeys_fn : Try.cfg.fn 61 = some Try.f61 := Z0
theorem rkeys_sc (ks : List Key) (h0 : okK ks) : SC Try.prog 0 61 [inlL Z1o 2 ks] (St.empty 0) fun v s' => ∃ σ : Nat → Nat, (∀ a, a < 0 → σ a = a) ∧ (∀ a, 0 ≤ a → a < 0 + 1 → 0 ≤ σ a ∧ σ a < s'.n) ∧ (∀ a b, a < 0 + 1 → b < 0 + 1 → σ a = σ b → a = b) ∧ v = slL (σ 0) 1 ((keysB ks).length) ∧ s'.n ≤ 400 ∧ ∀ a, a < 0 + 1 → s'.get (σ a) = some (objL [rowL Z1n (keysB ks)] a) := by
 obtain ⟨rc, hS, hC⟩ := rc_con (Z20 Try.cfgOk 300) [con_rcount, con_rnum] Z0;have hC62 := hC con_rcount (.head _);have hC63 := hC con_rnum (.tail _ (.head _));refine sc_body Try.cfgOk rkeys_fn rfl ?_;refine Z1q ?_;refine kK Try.cfgOk hS ?_;refine Z1q ?_;refine Z1p Try.cfgOk hS ?_;refine aK 1 ?_;refine aM (lenB Try.cfg (St.empty 0) 22 (inlL Z1o 2 ks)) (.int .i64 ((ks.length : Nat) : Int)) (len_inl tokC Z0) ?_;refine aE (v := .int .u64 (IntKind.wrap .u64 ((ks.length : Nat) : Int))) (.int .u64 ((ks.length : Nat) : Int)) (congrArg (Value.int .u64) ((wrap_u64 _).trans (congrArg Nat.cast (u64_nat (by first | omega | (have q := h0.1; omega)))))) ?_;refine aC 62 [.int .u64 ((ks.length : Nat) : Int)] (slL 0 1 ((uv ks.length).length)) _ rfl (hC62 _ _ _ _ (con_rcount_at ks.length 0 Zt _ Z0 Z0 )) ?_;refine aN ?_;refine Z1q (Z1q ?_);refine kK Try.cfgOk hS ?_;refine Z27 ?_;refine sk_live 33 ((fun a : Nat × (List UInt8) => [(0, inlL Z1o 2 ks), (3, slL 0 1 a.2.length), (4, .int .i64 ((a.1 : Nat) : Int))]) (0, uv ks.length)) Z0 ⟨Z0, Z0, Z0, trivial⟩ fun m1 => ?_
 refine sk_st ((fun a : Nat × (List UInt8) => ((St.empty 0).new (rowL Z1n a.2))) (0, uv ks.length)) Z0 ?_;refine (sk_while (k := 1) (N := 400) (live := (fun a : Nat × (List UInt8) => [(0, inlL Z1o 2 ks), (3, slL 0 1 a.2.length), (4, .int .i64 ((a.1 : Nat) : Int))])) (M := (fun a : Nat × (List UInt8) => ((St.empty 0).new (rowL Z1n a.2)))) (fun a : Nat × (List UInt8) => (a.1 ≤ ks.length) ∧ (a.2 = uv ks.length ++ catB kb (ks.take a.1)) ∧ (a.2.length ≤ 10 + 20 * a.1) ∧ (ks.length ≤ 6000)) (fun a : Nat × (List UInt8) => ks.length - a.1) (fun (a : Nat × (List UInt8)) (o : Out) (lv : List (Nat × Value)) (M : St) => (o = .exit 0 ∧ (¬ a.1 < ks.length) ∧ lv = [(0, inlL Z1o 2 ks), (3, slL 0 1 a.2.length), (4, .int .i64 ((a.1 : Nat) : Int))] ∧ M = ((St.empty 0).new (rowL Z1n a.2)))) (Nat.zero_le _) (fun a ha => ?_) (fun a ha => ?_) (fun a m ha => ?_) (fun a m ha => ?_) (0, uv ks.length) m1 ?_).up ?_
 ·exact ⟨Z0, ((Z1r 0).new _), (selfs (all_cons (o := rowL Z1n a.2) Z0 (OSub.arr (subs_clo (Z1t Z1x))) (Z1u)))⟩
 ·exact ⟨sub_clo rfl, .slice ⟨Z9, rfl⟩, sub_clo rfl, trivial⟩
 ·exact ⟨Z0, Z0, Z0, trivial⟩
 ·obtain ⟨i, l⟩ := a;obtain ⟨i0, i1, i2, i3⟩ := ha;dsimp only at i0 i1 i2 i3;refine Z1q (Z1q ?_);refine Z1p Try.cfgOk hS ?_;refine aK 2 ?_;refine aM (lenB Try.cfg (St.empty 0) 22 (inlL Z1o 2 ks)) (.int .i64 ((ks.length : Nat) : Int)) (len_inl tokC Z0) ?_;refine aT (fun h2 => ?_) (fun h2 => ?_)
  ·have c3e : (decide ((((i : Nat) : Int) : Int) < ((ks.length : Nat) : Int))) = true := Eq.trans Z0 h2;clear h2;have c3 : (((i : Nat) : Int) : Int) < ((ks.length : Nat) : Int) := of_decide_eq_true c3e;clear c3e;refine Z24 ?_;refine kT ?_;refine Z21 (Z1q (Z27 (Z1q ?_)));refine Z1p Try.cfgOk hS ?_;refine aK 3 ?_;refine aM (Z23 Try.cfg 22 (inlL Z1o 2 ks) (.int .i64 ((i : Nat) : Int))) (elt (flatL Z1o ks) (i * 2)) (idx_inlL tokC Z0 Zu) ?_;refine aM (fieldAddrV Try.cfg 30 (elt (flatL Z1o ks) (i * 2)) 0) (elt (flatL Z1o ks) (i * 2)) (fld_elt (o := i * 2) (off := 0) tokC Z0) ?_;have hx4l : i < ks.length := by omega
   refine Exists.elim (get_ex hx4l) fun x4 hx4 => ?_
   clear hx4l;refine aM (loadV Try.cfg (St.empty 0) 3 (elt (flatL Z1o ks) (i * 2))) (.int .i64 x4.1) (load_el1 (o := 0) tokC Z0 kcells_len hx4 rfl) ?_;refine aE (v := .int .u64 (IntKind.wrap .u64 x4.1)) (.int .u64 ((u64 x4.1 : Nat) : Int)) (congrArg (Value.int .u64) (wrap_u64 _)) ?_;refine aC 62 [.int .u64 ((u64 x4.1 : Nat) : Int)] (slL 1 1 ((uv (u64 x4.1)).length)) _ rfl (hC62 _ _ _ _ (con_rcount_at (u64 x4.1) 1 Zt _ Z0 Z0 )) ?_;refine al_opF (v := slL 0 1 (l ++ uv (u64 x4.1)).length) (s1 := (((St.empty 0).new (rowL Z1n l)).new (rowL Z1n (uv (u64 x4.1)))).set 0 (rowL Z1n (l ++ uv (u64 x4.1)))) Z0 Z0 (Eq.trans (b := appendV Try.cfg (((St.empty 0).new (rowL Z1n l)).new (rowL Z1n (uv (u64 x4.1)))) 42 (slL 0 1 l.length) (slL 1 1 ((uv (u64 x4.1)).length))) Z0 (app_rowL (l := l) (l2 := uv (u64 x4.1)) (bytes := 1) tokC Z0 Z1z bcells_one Z0 Z0 (firstV_rowL Z1z Z0) (by have q := uv_len10 (u64_lt x4.1); omega))) ?_;refine aN ?_;refine Z1p Try.cfgOk hS ?_;refine aK 3 ?_;refine aM (Z23 Try.cfg 22 (inlL Z1o 2 ks) (.int .i64 ((i : Nat) : Int))) (elt (flatL Z1o ks) (i * 2)) (idx_inlL tokC Z0 Zu) ?_;refine aM (fieldAddrV Try.cfg 30 (elt (flatL Z1o ks) (i * 2)) 1) (elt (flatL Z1o ks) (i * 2 + 1)) (fld_elt (o := i * 2) (off := 1) tokC Z0) ?_;refine aM (loadV Try.cfg (St.empty 0) 3 (elt (flatL Z1o ks) (i * 2 + 1))) (.int .i64 x4.2) (load_el1 (o := 1) tokC Z0 kcells_len hx4 rfl) ?_;refine aC 63 [.int .i64 x4.2] (slL 2 1 ((uv (fold x4.2)).length)) _ rfl (hC63 _ _ _ _ (con_rnum_at x4.2 2 Zt _ Z0 Z0 )) ?_;refine al_opF (v := slL 0 1 ((l ++ uv (u64 x4.1)) ++ uv (fold x4.2)).length) (s1 := ((((St.empty 0).new (rowL Z1n (l ++ uv (u64 x4.1)))).new (rowL Z1n (uv (u64 x4.1)))).new (rowL Z1n (uv (fold x4.2)))).set 0 (rowL Z1n ((l ++ uv (u64 x4.1)) ++ uv (fold x4.2)))) Z0 Z0 (Eq.trans (b := appendV Try.cfg ((((St.empty 0).new (rowL Z1n (l ++ uv (u64 x4.1)))).new (rowL Z1n (uv (u64 x4.1)))).new (rowL Z1n (uv (fold x4.2)))) 42 (slL 0 1 ((l ++ uv (u64 x4.1)).length)) (slL 2 1 ((uv (fold x4.2)).length))) Z0 (app_rowL (l := (l ++ uv (u64 x4.1))) (l2 := uv (fold x4.2)) (bytes := 1) tokC Z0 Z1z bcells_one Z0 Z0 (firstV_rowL Z1z Z0) (by have q := uv_len10 (fold_lt (n := x4.2) (h0.at_ Z4)); have q2 := fun n => uv_len10 (u64_lt n); simp only [List.length_append]; have q3 := q2 x4.1; omega))) ?_;refine aN ?_;refine Z1p Try.cfgOk hS ?_;refine aK 1 ?_;refine aE (v := .int .i64 (IntKind.wrap .i64 (((i : Nat) : Int) + 1))) (.int .i64 ((i + 1 : Nat) : Int)) (congrArg (Value.int .i64) (wrap_to Z5 Z5)) ?_;refine aN ?_;refine .inl ⟨(i + 1, ((l ++ uv (u64 x4.1)) ++ uv (fold x4.2))), rfl, ⟨?_, ?_, ?_, ?_⟩, ?_, ⟨Z0, ⟨Z0, Z0, Z0, trivial⟩, ⟨sub_clo rfl, .slice ⟨Z9, rfl⟩, sub_clo rfl, trivial⟩, Zle, ⟨Z0, ((Z1r 0).new _), (selfs (all_cons (o := rowL Z1n ((l ++ uv (u64 x4.1)) ++ uv (fold x4.2))) Z0 (OSub.arr (subs_clo (Z1t Z1x))) (Z1u)))⟩, Z1w Z0⟩⟩
   ·(try dsimp only); omega
   ·(try dsimp only); rw [i1, catB_succ Z4]; simp only [kb, List.append_assoc]
   ·(try dsimp only); exact Nat.le_trans (kb_len (h0.at_ Z4)) Z5
   ·(try dsimp only); assumption
   ·omega
  ·have c3e : (decide ((((i : Nat) : Int) : Int) < ((ks.length : Nat) : Int))) = false := Eq.trans Z0 h2;clear h2;have c3 : ¬ (((i : Nat) : Int) : Int) < ((ks.length : Nat) : Int) := of_decide_eq_false c3e;clear c3e;refine Z24 ?_;refine kF ?_;refine sk_exit ?_;dsimp only;refine .inr ⟨_, _, (fun h => Zo), ⟨rfl, ?_, rfl, rfl⟩, ⟨Z0, ⟨Z0, Z0, Z0, trivial⟩, ⟨sub_clo rfl, .slice ⟨Z9, rfl⟩, sub_clo rfl, trivial⟩, Zle, ⟨Z0, ((Z1r 0).new _), (selfs (all_cons (o := rowL Z1n l) Z0 (OSub.arr (subs_clo (Z1t Z1x))) (Z1u)))⟩, Z1w Z0⟩⟩
   ·omega
 ·exact ⟨Zi, Z0b, by ((try dsimp only); first | done | (exact Nat.le_trans (uv_len10 (by have := h0.1; omega)) Z5)), by ((try dsimp only); first | done | (exact h0.1))⟩
 rintro o e1 s1 ⟨a, lv1, M1, m1, ha, ⟨rfl, hx, rfl, rfl⟩, rfl, rfl⟩;obtain ⟨i, l⟩ := a;obtain ⟨i0, i1, i2, i3⟩ := ha;dsimp only at hx i0 i1 i2 i3;dsimp only;try rw [if_pos rfl]
 refine Z1q ?_;refine kK Try.cfgOk hS ?_;refine Z1v ?_;exact ⟨[slL 0 1 (List.length (α := UInt8) l)], Z0, rhoL [0], all0 , new_rho rfl Z0, nodup_rho (ids := [0]) rfl, (show (slL 0 1 (List.length (α := UInt8) l) : Value) = slL 0 1 ((keysB ks).length) by rw [i1, List.take_of_length_le Z5, keysB]), Zle, all1 (Eq.trans (b := some (rowL Z1n l)) Z0 (congrArg some (show ((rowL Z1n l) : AObj) = rowL Z1n (keysB ks) by rw [i1, List.take_of_length_le Z5, keysB])))⟩
noncomputable def sm_rkeys : SmallN Try.prog 0 61 ((List Key)) where
 k := 0
 m := 1
 A := fun z9 ρ => [inlL Z1o 2 z9]
 M := fun z9 ρ => objL []
 M1 := fun z9 ρ => objL [rowL Z1n (keysB z9)]
 V := fun z9 ρ => slL (ρ 0) 1 ((keysB z9).length)
 Pre := fun z9 => (okK z9)
 ch := []
 N := 400
 s0 := fun z9 => (St.empty 0)
 hch := by decide
 hsame := fun x ρ => all0
 hG := rfl
 hn := fun x => rfl
 hwf := fun x => (Z1r 0)
 hget := fun x => all0
 noloop := fun x ρ => all0
 inA := fun x ρ R hR => .cons (sub_clo rfl) .nil
 inM := fun x ρ R hR => all0
 outM := fun x σ ρ R hR => all1 (OSub.arr (subs_clo (Z1t Z1x)))
 outV := fun x σ ρ R hR => .slice (hR 0 _ (by decide))
 dom := by
  intro x ρ a ha
  cases ha
 sc := by
  rintro x p0
  exact rkeys_sc x p0
 det := by
  rintro x ρ y σ s h hm hm'
  simp only [injA, injB, kcells_iff] at h
  have q : ∀ a, a < 0 → ρ a = σ a := all0
  clear hm hm'
  exact ⟨by first | rfl | exact h | (simp_all [Prod.ext_iff]; done) | exact e0, q⟩
 par := by
  intro x ρ σ h
  have h0 := h 0 (by decide)
  exact ⟨by first | rfl | simp only [h0], by first | exact fun _ _ => rfl | (intro a ha; simp only [h0])⟩
noncomputable def con_rkeys : Con Try.prog 0 := sm_rkeys.con
theorem con_rkeys_at (ks : List Key) (i0 : Nat) (h0 : okK ks) (s : St) (hn : nodupB [] = true)  (n0 : i0 = s.n + 0) : con_rkeys.rel [inlL Z1o 2 ks] s (slL i0 1 ((keysB ks).length)) (s.new (rowL Z1n (keysB ks))) :=
 sm_rkeys.at_ ks [i0] s _ h0 rfl hn rfl (all0 ) (new_all (p := fun a b => rhoL [i0] a = s.n + b) (all1 n0)) rfl rfl
end Go.Proofs.Ytekeepgjegkedaa