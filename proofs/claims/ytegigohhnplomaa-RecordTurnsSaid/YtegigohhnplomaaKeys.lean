/- The bytes of keys. -/
import Derived.Test.YtegigohhnplomaaRefCount
import Derived.Test.YtegigohhnplomaaKit
set_option linter.unusedVariables false
set_option linter.unusedSimpArgs false
set_option linter.unnecessarySimpa false
set_option maxHeartbeats 4000000
set_option maxRecDepth 100000
namespace Go.Proofs.Ytegigohhnplomaa
open Go.Ai
def kb (k : Key) : List UInt8 := uv (u64 k.1) ++ uv (fold k.2)
def keysB (l : List Key) : List UInt8 := uv l.length ++ catB kb l
def okK (l : List Key) : Prop := l.length ≤ 6000 ∧ ∀ k ∈ l, in64 k.2
theorem okK.at_ {l : List Key} (h : okK l) {i : Nat} {x : Key} (hi : l[i]? = some x) : in64 x.2 := h.2 x (List.mem_of_getElem? hi)
theorem kb_len {k : Key} (h : in64 k.2) {l : List UInt8} : (l ++ uv (u64 k.1) ++ uv (fold k.2)).length ≤ l.length + 20 := app_leF h (Nat.add_le_add_right (app_le (Nat.le_refl _)) 10)
theorem putKeys_fn : Try.cfg.fn 65 = some Try.f65 := Z1
theorem putKeys_sc (l0 : List UInt8) (ks : List Key) (h0 : l0.length ≤ 100000000) (h1 : okK ks) : SC Try.prog 0 65 [.pointer (some ⟨0, 0, none⟩), inlL Z1v 2 ks] (((St.empty 0).new (.cells [slL 1 1 l0.length])).new (rowL Z1s l0)) fun v s' => v = .tuple #[] ∧ s'.n ≤ 400 ∧ ∀ a, a < 2 → s'.get a = some (objL [.cells [slL 1 1 ((l0 ++ keysB ks).length)], rowL Z1s (l0 ++ keysB ks)] a) := by
 obtain ⟨rc, hS, hC⟩ := rc_con (Z24 Try.cfgOk 300) [con_wcount, con_wnum] Z1;have hC35 := hC con_wcount (.head _);have hC41 := hC con_wnum (.tail _ (.head _));refine Z2d Try.cfgOk putKeys_fn rfl ?_;refine Z1u ?_;refine Z1t Try.cfgOk hS ?_;refine aK 2 ?_;refine aM (lenB Try.cfg (St.empty 0) 25 (inlL Z1v 2 ks)) (.int .i64 ((ks.length : Nat) : Int)) (len_inl tokC Z1) ?_;refine aE (v := .int .u64 (IntKind.wrap .u64 ((ks.length : Nat) : Int))) (.int .u64 ((ks.length : Nat) : Int)) (congrArg (Value.int .u64) ((wrap_u64 _).trans (congrArg Nat.cast (u64_nat (by first | omega | (have q := h1.1; omega)))))) ?_;refine aC 35 [.pointer (some ⟨0, 0, none⟩), .int .u64 ((ks.length : Nat) : Int)] (.tuple #[]) _ rfl (hC35 _ _ _ _ (con_wcount_at l0 ks.length 0 1 Zp Zp _ Z1 Z1 Z1 )) ?_;refine Z29 ?_;refine Z1u ?_;refine Z1t Try.cfgOk hS ?_;refine aK 1 ?_;refine aM (lenB Try.cfg (St.empty 0) 25 (inlL Z1v 2 ks)) (.int .i64 ((ks.length : Nat) : Int)) (len_inl tokC Z1) ?_;refine aN ?_;refine Z2f ?_;refine sk_live 27 ((fun a : Nat × (List UInt8) => [(0, .pointer (some ⟨0, 0, none⟩)), (11, inlL Z1v 2 ks), (12, .int .i64 ((ks.length : Nat) : Int)), (13, .int .i64 ((a.1 : Nat) : Int))]) (0, (l0 ++ uv ks.length))) Z1 ⟨Z1, Z1, Z1, Z1, trivial⟩ fun m1 => ?_
 refine sk_st ((fun a : Nat × (List UInt8) => (((St.empty 0).new (.cells [slL 1 1 a.2.length])).new (rowL Z1s a.2))) (0, (l0 ++ uv ks.length))) Z1 ?_;refine (sk_while (k := 2) (N := 400) (live := (fun a : Nat × (List UInt8) => [(0, .pointer (some ⟨0, 0, none⟩)), (11, inlL Z1v 2 ks), (12, .int .i64 ((ks.length : Nat) : Int)), (13, .int .i64 ((a.1 : Nat) : Int))])) (M := (fun a : Nat × (List UInt8) => (((St.empty 0).new (.cells [slL 1 1 a.2.length])).new (rowL Z1s a.2)))) (fun a : Nat × (List UInt8) => (a.1 ≤ ks.length) ∧ (a.2 = l0 ++ (uv ks.length ++ catB kb (ks.take a.1))) ∧ (a.2.length ≤ l0.length + 10 + 20 * a.1) ∧ (ks.length ≤ 6000)) (fun a : Nat × (List UInt8) => ks.length - a.1) (fun (a : Nat × (List UInt8)) (o : Out) (lv : List (Nat × Value)) (M : St) => (o = .exit 0 ∧ (¬ a.1 < ks.length) ∧ lv = [(0, .pointer (some ⟨0, 0, none⟩)), (11, inlL Z1v 2 ks), (12, .int .i64 ((ks.length : Nat) : Int)), (13, .int .i64 ((a.1 : Nat) : Int))] ∧ M = (((St.empty 0).new (.cells [slL 1 1 a.2.length])).new (rowL Z1s a.2)))) (Nat.zero_le _) (fun a ha => ?_) (fun a ha => ?_) (fun a m ha => ?_) (fun a m ha => ?_) (0, (l0 ++ uv ks.length)) m1 ?_).up ?_
 ·exact ⟨Z1, (((Z1x 0).new _).new _), (selfs (all_cons (o := .cells [slL 1 1 a.2.length]) Z1 (OSub.cells (.cons (.slice ⟨Ze, rfl⟩) .nil)) (all_cons (o := rowL Z1s a.2) Z1 (OSub.arr (subs_clo (Z20 Z22))) (Z25))))⟩
 ·exact ⟨.ptr ⟨Ze, rfl⟩, sub_clo rfl, sub_clo rfl, sub_clo rfl, trivial⟩
 ·exact ⟨Z1, Z1, Z1, Z1, trivial⟩
 ·obtain ⟨i, l⟩ := a;obtain ⟨i0, i1, i2, i3⟩ := ha;dsimp only at i0 i1 i2 i3;refine Z1u ?_;refine Z1t Try.cfgOk hS ?_;refine aT (fun h2 => ?_) (fun h2 => ?_)
  ·have c3e : (decide ((((i : Nat) : Int) : Int) < ((ks.length : Nat) : Int))) = true := Eq.trans Z1 h2;clear h2;have c3 : (((i : Nat) : Int) : Int) < ((ks.length : Nat) : Int) := of_decide_eq_true c3e;clear c3e;refine Z29 ?_;refine Z1u ?_;refine kT ?_;refine Z26 (Z1u (Z2f (Z1u ?_)));refine Z1t Try.cfgOk hS ?_;refine aM (indexAddrV Try.cfg 25 (inlL Z1v 2 ks) (.int .i64 ((i : Nat) : Int))) (elt (flatL Z1v ks) (i * 2)) (idx_inlL tokC Z1 Z0g) ?_;have hx4l : i < ks.length := by omega
   refine Exists.elim (get_ex hx4l) fun x4 hx4 => ?_
   clear hx4l;refine aM (loadV Try.cfg (St.empty 0) 48 (elt (flatL Z1v ks) (i * 2))) (.agg #[.int .i64 x4.1, .int .i64 x4.2]) (load_el tokC Z1 kcells_len hx4) ?_;refine aN ?_;refine Z1u ?_;refine Z1t Try.cfgOk hS ?_;refine aK 3 ?_;refine aE (v := .int .u64 (IntKind.wrap .u64 x4.1)) (.int .u64 ((u64 x4.1 : Nat) : Int)) (congrArg (Value.int .u64) (wrap_u64 _)) ?_;refine aC 35 [.pointer (some ⟨0, 0, none⟩), .int .u64 ((u64 x4.1 : Nat) : Int)] (.tuple #[]) _ rfl (hC35 _ _ _ _ (con_wcount_at l (u64 x4.1) 0 1 Zp Zp _ Z1 Z1 Z1 )) ?_;refine Z29 ?_;refine Z1t Try.cfgOk hS ?_;refine aK 3 ?_;refine aC 41 [.pointer (some ⟨0, 0, none⟩), .int .i64 x4.2] (.tuple #[]) _ rfl (hC41 _ _ _ _ (con_wnum_at (l ++ uv (u64 x4.1)) x4.2 0 1 Zp Zp _ Z1 Z1 Z1 )) ?_;refine Z29 ?_;refine Z1t Try.cfgOk hS ?_;refine aE (v := .int .i64 (IntKind.wrap .i64 (((i : Nat) : Int) + 1))) (.int .i64 ((i + 1 : Nat) : Int)) (congrArg (Value.int .i64) (wrap_to Z5 Z5)) ?_;refine aN ?_;refine .inl ⟨(i + 1, ((l ++ uv (u64 x4.1)) ++ uv (fold x4.2))), rfl, ⟨?_, ?_, ?_, ?_⟩, ?_, ⟨Z1, ⟨Z1, Z1, Z1, Z1, trivial⟩, ⟨.ptr ⟨Ze, rfl⟩, sub_clo rfl, sub_clo rfl, sub_clo rfl, trivial⟩, Zle, ⟨Z1, (((Z1x 0).new _).new _), (selfs (all_cons (o := .cells [slL 1 1 (((l ++ uv (u64 x4.1)) ++ uv (fold x4.2)).length)]) Z1 (OSub.cells (.cons (.slice ⟨Ze, rfl⟩) .nil)) (all_cons (o := rowL Z1s ((l ++ uv (u64 x4.1)) ++ uv (fold x4.2))) Z1 (OSub.arr (subs_clo (Z20 Z22))) (Z25))))⟩, Z2b Z1⟩⟩
   ·(try dsimp only); omega
   ·(try dsimp only); rw [i1, catB_succ Z2]; simp only [kb, List.append_assoc]
   ·(try dsimp only); exact Nat.le_trans (kb_len (h1.at_ Z2)) Z5
   ·(try dsimp only); assumption
   ·omega
  ·have c3e : (decide ((((i : Nat) : Int) : Int) < ((ks.length : Nat) : Int))) = false := Eq.trans Z1 h2;clear h2;have c3 : ¬ (((i : Nat) : Int) : Int) < ((ks.length : Nat) : Int) := of_decide_eq_false c3e;clear c3e;refine Z29 ?_;refine Z1u ?_;refine kF ?_;refine sk_exit ?_;dsimp only;refine .inr ⟨_, _, (fun h => Zw), ⟨rfl, ?_, rfl, rfl⟩, ⟨Z1, ⟨Z1, Z1, Z1, Z1, trivial⟩, ⟨.ptr ⟨Ze, rfl⟩, sub_clo rfl, sub_clo rfl, sub_clo rfl, trivial⟩, Zle, ⟨Z1, (((Z1x 0).new _).new _), (selfs (all_cons (o := .cells [slL 1 1 l.length]) Z1 (OSub.cells (.cons (.slice ⟨Ze, rfl⟩) .nil)) (all_cons (o := rowL Z1s l) Z1 (OSub.arr (subs_clo (Z20 Z22))) (Z25))))⟩, Z2b Z1⟩⟩
   ·omega
 ·exact ⟨Zy, Z0p, by ((try dsimp only); first | done | (exact app_leN Z1p Z5)), by ((try dsimp only); first | done | (exact h1.1))⟩
 rintro o e1 s1 ⟨a, lv1, M1, m1, ha, ⟨rfl, hx, rfl, rfl⟩, rfl, rfl⟩;obtain ⟨i, l⟩ := a;obtain ⟨i0, i1, i2, i3⟩ := ha;dsimp only at hx i0 i1 i2 i3;dsimp only;try rw [if_pos rfl]
 exact ⟨[], Z1, rfl, Zle, all2 (Eq.trans (b := some (.cells [slL 1 1 l.length])) Z1 (congrArg some (show ((.cells [slL 1 1 l.length]) : AObj) = .cells [slL 1 1 ((l0 ++ keysB ks).length)] by rw [i1, List.take_of_length_le Z5, keysB]))) (Eq.trans (b := some (rowL Z1s l)) Z1 (congrArg some (show ((rowL Z1s l) : AObj) = rowL Z1s (l0 ++ keysB ks) by rw [i1, List.take_of_length_le Z5, keysB])))⟩
noncomputable def sm_putKeys : Small Try.prog 0 65 ((List UInt8) × (List Key)) where
 k := 2
 A := fun z9 ρ => [.pointer (some ⟨(ρ 0), 0, none⟩), inlL Z1v 2 z9.2]
 M := fun z9 ρ => objL [.cells [slL (ρ 1) 1 z9.1.length], rowL Z1s z9.1]
 M1 := fun z9 ρ => objL [.cells [slL (ρ 1) 1 ((z9.1 ++ keysB z9.2).length)], rowL Z1s (z9.1 ++ keysB z9.2)]
 V := fun z9 ρ => .tuple #[]
 Pre := fun z9 => (z9.1.length ≤ 100000000) ∧ (okK z9.2)
 ch := [0, 1]
 N := 400
 s0 := fun z9 => (((St.empty 0).new (.cells [slL 1 1 z9.1.length])).new (rowL Z1s z9.1))
 hch := by decide
 hsame := fun x ρ => all2 (fun h => absurd (by decide) h) (fun h => absurd (by decide) h)
 hG := rfl
 hn := fun x => rfl
 hwf := fun x => (((Z1x 0).new _).new _)
 hget := fun x => all2 (by kernel_rfl) (by kernel_rfl)
 noloop := fun x ρ => all2 (fun h => h.elim) (fun h => h.elim)
 inA := fun x ρ R hR => .cons (.ptr (hR 0 _ (by decide))) (.cons (sub_clo rfl) .nil)
 inM := fun x ρ R hR => all2 (OSub.cells (.cons (.slice (hR 1 _ (by decide))) .nil)) (OSub.arr (subs_clo (Z20 Z22)))
 outM := fun x ρ R hR => all2 (OSub.cells (.cons (.slice (hR 1 _ (by decide))) .nil)) (OSub.arr (subs_clo (Z20 Z22)))
 outV := fun x ρ R hR => .tuple .nil
 dom := by
  intro x ρ a ha
  simp only [List.mem_cons, List.mem_singleton, List.not_mem_nil, or_false] at ha
  rcases ha with rfl | rfl
  ·refine .inl fun β y h => ?_
   obtain ⟨_, _, _, h, _⟩ := h.cons_inv
   exact h.dom_ptr
  ·exact .inr fun h => h
 sc := by
  rintro ⟨a0, a1⟩ ⟨p0, p1⟩
  exact putKeys_sc a0 a1 p0 p1
 det := by
  rintro ⟨a0, a1⟩ ρ ⟨b0, b1⟩ σ s h hm hm'
  simp only [injA, injB, kcells_iff, Z27] at h
  have q0 : ρ 0 = σ 0 := by simp_all
  have e0 := (hm 0 (by decide)).symm.trans ((congrArg s.get q0).trans (hm' 0 (by decide)))
  simp only [objL, List.getD_cons_zero, List.getD_cons_succ, injA, injB, kcells_iff, Z27] at e0
  have q1 : ρ 1 = σ 1 := by simp_all
  have e1 := (hm 1 (by decide)).symm.trans ((congrArg s.get q1).trans (hm' 1 (by decide)))
  simp only [objL, List.getD_cons_zero, List.getD_cons_succ, injA, injB, kcells_iff, Z27] at e1
  have q : ∀ a, a < 2 → ρ a = σ a := all2 q0 q1
  clear hm hm'
  exact ⟨by first | rfl | (simp_all [Prod.ext_iff]; done) | exact e0, q⟩
 par := by
  intro x ρ σ h
  have h0 := h 0 (by decide); have h1 := h 1 (by decide)
  exact ⟨by first | rfl | simp only [h0, h1], by first | exact fun _ _ => rfl | (intro a ha; simp only [h0, h1])⟩
noncomputable def con_putKeys : Con Try.prog 0 := sm_putKeys.con
theorem con_putKeys_at (l0 : List UInt8) (ks : List Key) (i0 : Nat) (i1 : Nat) (h0 : l0.length ≤ 100000000) (h1 : okK ks) (s : St) (hn : nodupB [i0, i1] = true) (m0 : s.get i0 = some (.cells [slL i1 1 l0.length])) (m1 : s.get i1 = some (rowL Z1s l0)) : con_putKeys.rel [.pointer (some ⟨i0, 0, none⟩), inlL Z1v 2 ks] s (.tuple #[]) ((s.set i0 (.cells [slL i1 1 ((l0 ++ keysB ks).length)])).set i1 (rowL Z1s (l0 ++ keysB ks))) :=
 sm_putKeys.at_ (l0, ks) [i0, i1] s _ ⟨h0, h1⟩ rfl hn rfl (all2 m0 m1) rfl rfl
end Go.Proofs.Ytegigohhnplomaa