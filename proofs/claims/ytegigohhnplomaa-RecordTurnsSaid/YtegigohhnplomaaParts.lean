/- The writer: bytes, flags, parts; the bytes of a program. -/
import Derived.Test.YtegigohhnplomaaWriter
import Derived.Test.YtegigohhnplomaaCheck
import Derived.Test.YtegigohhnplomaaKit
set_option linter.unusedVariables false
set_option linter.unusedSimpArgs false
set_option linter.unnecessarySimpa false
set_option maxHeartbeats 4000000
set_option maxRecDepth 100000
namespace Go.Proofs.Ytegigohhnplomaa
open Go.Ai
theorem waddT_fn : Try.cfg.fn 60 = some Try.f60 := Z1
theorem waddT_sc (l : List UInt8) (l2 : List UInt8) (h0 : l.length + l2.length ≤ 2 * 1000000000) : SC Try.prog 0 60 [.pointer (some ⟨0, 0, none⟩), inlL Z1s 1 l2] (((St.empty 0).new (.cells [slL 1 1 l.length])).new (rowL Z1s l)) fun v s' => v = .tuple #[] ∧ s'.n ≤ 400 ∧ ∀ a, a < 2 → s'.get a = some (objL [.cells [slL 1 1 ((l ++ l2).length)], rowL Z1s (l ++ l2)] a) := by
 have hS := Z24 Try.cfgOk 300;refine Z2d Try.cfgOk waddT_fn rfl ?_;refine Z1u ?_;refine kK Try.cfgOk hS ?_;refine kT ?_;refine Z1t Try.cfgOk hS ?_;refine aK 6 ?_;refine al_opF (v := slL 1 1 (l ++ l2).length) (s1 := (((St.empty 0).new (.cells [slL 1 1 l.length])).new (rowL Z1s l)).set 1 (rowL Z1s (l ++ l2))) Z1 Z1 (Eq.trans (b := appendV Try.cfg (((St.empty 0).new (.cells [slL 1 1 l.length])).new (rowL Z1s l)) 34 (slL 1 1 l.length) (inlL Z1s 1 l2)) Z1 (app_rowL (l := l) (l2 := l2) (bytes := 1) tokC Z1 Z2g bcells_one Z1 (lenV_inl tokC) (firstV_inlL tokC Z2g) Zi)) ?_;refine aN ?_;exact ⟨[], Z1, rfl, Zle, all2 Z1 Z1⟩
noncomputable def sm_waddT : Small Try.prog 0 60 ((List UInt8) × (List UInt8)) where
 k := 2
 A := fun z9 ρ => [.pointer (some ⟨(ρ 0), 0, none⟩), inlL Z1s 1 z9.2]
 M := fun z9 ρ => objL [.cells [slL (ρ 1) 1 z9.1.length], rowL Z1s z9.1]
 M1 := fun z9 ρ => objL [.cells [slL (ρ 1) 1 ((z9.1 ++ z9.2).length)], rowL Z1s (z9.1 ++ z9.2)]
 V := fun z9 ρ => .tuple #[]
 Pre := fun z9 => (z9.1.length + z9.2.length ≤ 2 * 1000000000)
 ch := [0, 1]
 N := 400
 s0 := fun z9 => (((St.empty 0).new (.cells [slL 1 1 z9.1.length])).new (rowL Z1s z9.1))
 hch := by decide
 hsame := fun x ρ => all2 (fun h => absurd (by decide) h) (fun h => absurd (by decide) h)
 hG := rfl
 hn := fun x => rfl
 hwf := fun x => (((Z1x 0).new _).new _)
 hget := fun x => all2 (by kernel_rfl) (by kernel_rfl)
 noloop := fun x ρ => all2 (fun h => h.elim) (fun h => h.elim)
 inA := fun x ρ R hR => .cons (.ptr (hR 0 _ (by decide))) (.cons (sub_clo rfl) .nil)
 inM := fun x ρ R hR => all2 (OSub.cells (.cons (.slice (hR 1 _ (by decide))) .nil)) (OSub.arr (subs_clo (Z20 Z22)))
 outM := fun x ρ R hR => all2 (OSub.cells (.cons (.slice (hR 1 _ (by decide))) .nil)) (OSub.arr (subs_clo (Z20 Z22)))
 outV := fun x ρ R hR => .tuple .nil
 dom := by
  intro x ρ a ha
  simp only [List.mem_cons, List.mem_singleton, List.not_mem_nil, or_false] at ha
  rcases ha with rfl | rfl
  ·refine .inl fun β y h => ?_
   obtain ⟨_, _, _, h, _⟩ := h.cons_inv
   exact h.dom_ptr
  ·exact .inr fun h => h
 sc := by
  rintro ⟨a0, a1⟩ p0
  exact waddT_sc a0 a1 p0
 det := by
  rintro ⟨a0, a1⟩ ρ ⟨b0, b1⟩ σ s h hm hm'
  simp only [injA, injB, Z28, Z27] at h
  have q0 : ρ 0 = σ 0 := by simp_all
  have e0 := (hm 0 (by decide)).symm.trans ((congrArg s.get q0).trans (hm' 0 (by decide)))
  simp only [objL, List.getD_cons_zero, List.getD_cons_succ, injA, injB, Z28, Z27] at e0
  have q1 : ρ 1 = σ 1 := by simp_all
  have e1 := (hm 1 (by decide)).symm.trans ((congrArg s.get q1).trans (hm' 1 (by decide)))
  simp only [objL, List.getD_cons_zero, List.getD_cons_succ, injA, injB, Z28, Z27] at e1
  have q : ∀ a, a < 2 → ρ a = σ a := all2 q0 q1
  clear hm hm'
  exact ⟨by first | rfl | (simp_all [Prod.ext_iff]; done) | exact e0, q⟩
 par := by
  intro x ρ σ h
  have h0 := h 0 (by decide); have h1 := h 1 (by decide)
  exact ⟨by first | rfl | simp only [h0, h1], by first | exact fun _ _ => rfl | (intro a ha; simp only [h0, h1])⟩
noncomputable def con_waddT : Con Try.prog 0 := sm_waddT.con
theorem con_waddT_at (l : List UInt8) (l2 : List UInt8) (i0 : Nat) (i1 : Nat) (h0 : l.length + l2.length ≤ 2 * 1000000000) (s : St) (hn : nodupB [i0, i1] = true) (m0 : s.get i0 = some (.cells [slL i1 1 l.length])) (m1 : s.get i1 = some (rowL Z1s l)) : con_waddT.rel [.pointer (some ⟨i0, 0, none⟩), inlL Z1s 1 l2] s (.tuple #[]) ((s.set i0 (.cells [slL i1 1 ((l ++ l2).length)])).set i1 (rowL Z1s (l ++ l2))) :=
 sm_waddT.at_ (l, l2) [i0, i1] s _ h0 rfl hn rfl (all2 m0 m1) rfl rfl
theorem wbyte_fn : Try.cfg.fn 61 = some Try.f61 := Z1
theorem wbyte_sc (l : List UInt8) (x : UInt8) (h0 : l.length ≤ 1000000000) : SC Try.prog 0 61 [.pointer (some ⟨0, 0, none⟩), .int .u8 ((x.toNat : Nat) : Int)] (((St.empty 0).new (.cells [slL 1 1 l.length])).new (rowL Z1s l)) fun v s' => v = .tuple #[] ∧ s'.n ≤ 400 ∧ ∀ a, a < 2 → s'.get a = some (objL [.cells [slL 1 1 ((l ++ [x]).length)], rowL Z1s (l ++ [x])] a) := by
 obtain ⟨rc, hS, hC⟩ := rc_con (Z24 Try.cfgOk 300) [con_wadd] Z1;have hC60 := hC con_wadd (.head _);refine Z2d Try.cfgOk wbyte_fn rfl ?_;refine Z1t Try.cfgOk hS ?_;refine aK 3 ?_;refine aC 60 [.pointer (some ⟨0, 0, none⟩), .slice (some ⟨2, 0, some 1⟩) 1 1] (.tuple #[]) _ rfl (hC60 _ _ _ _ (con_wadd_at l ([x]) 0 1 2 Z09 _ Z1 Z1 Z1 Z1 )) ?_;refine Z29 ?_;exact ⟨[], Z1, rfl, Zle, all2 (Eq.trans (b := some (.cells [slL 1 1 ((l ++ ([x])).length)])) Z1 (congrArg some (show ((.cells [slL 1 1 ((l ++ ([x])).length)]) : AObj) = .cells [slL 1 1 ((l ++ [x]).length)] by rfl))) (Eq.trans (b := some (rowL Z1s (l ++ ([x])))) Z1 (congrArg some (show ((rowL Z1s (l ++ ([x]))) : AObj) = rowL Z1s (l ++ [x]) by rfl)))⟩
noncomputable def sm_wbyte : Small Try.prog 0 61 ((List UInt8) × UInt8) where
 k := 2
 A := fun z9 ρ => [.pointer (some ⟨(ρ 0), 0, none⟩), .int .u8 ((z9.2.toNat : Nat) : Int)]
 M := fun z9 ρ => objL [.cells [slL (ρ 1) 1 z9.1.length], rowL Z1s z9.1]
 M1 := fun z9 ρ => objL [.cells [slL (ρ 1) 1 ((z9.1 ++ [z9.2]).length)], rowL Z1s (z9.1 ++ [z9.2])]
 V := fun z9 ρ => .tuple #[]
 Pre := fun z9 => (z9.1.length ≤ 1000000000)
 ch := [0, 1]
 N := 400
 s0 := fun z9 => (((St.empty 0).new (.cells [slL 1 1 z9.1.length])).new (rowL Z1s z9.1))
 hch := by decide
 hsame := fun x ρ => all2 (fun h => absurd (by decide) h) (fun h => absurd (by decide) h)
 hG := rfl
 hn := fun x => rfl
 hwf := fun x => (((Z1x 0).new _).new _)
 hget := fun x => all2 (by kernel_rfl) (by kernel_rfl)
 noloop := fun x ρ => all2 (fun h => h.elim) (fun h => h.elim)
 inA := fun x ρ R hR => .cons (.ptr (hR 0 _ (by decide))) (.cons (sub_clo rfl) .nil)
 inM := fun x ρ R hR => all2 (OSub.cells (.cons (.slice (hR 1 _ (by decide))) .nil)) (OSub.arr (subs_clo (Z20 Z22)))
 outM := fun x ρ R hR => all2 (OSub.cells (.cons (.slice (hR 1 _ (by decide))) .nil)) (OSub.arr (subs_clo (Z20 Z22)))
 outV := fun x ρ R hR => .tuple .nil
 dom := by
  intro x ρ a ha
  simp only [List.mem_cons, List.mem_singleton, List.not_mem_nil, or_false] at ha
  rcases ha with rfl | rfl
  ·refine .inl fun β y h => ?_
   obtain ⟨_, _, _, h, _⟩ := h.cons_inv
   exact h.dom_ptr
  ·exact .inr fun h => h
 sc := by
  rintro ⟨a0, a1⟩ p0
  exact wbyte_sc a0 a1 p0
 det := by
  rintro ⟨a0, a1⟩ ρ ⟨b0, b1⟩ σ s h hm hm'
  simp only [injA, injB, Z27] at h
  have q0 : ρ 0 = σ 0 := by simp_all
  have e0 := (hm 0 (by decide)).symm.trans ((congrArg s.get q0).trans (hm' 0 (by decide)))
  simp only [objL, List.getD_cons_zero, List.getD_cons_succ, injA, injB, Z27] at e0
  have q1 : ρ 1 = σ 1 := by simp_all
  have e1 := (hm 1 (by decide)).symm.trans ((congrArg s.get q1).trans (hm' 1 (by decide)))
  simp only [objL, List.getD_cons_zero, List.getD_cons_succ, injA, injB, Z27] at e1
  have q : ∀ a, a < 2 → ρ a = σ a := all2 q0 q1
  clear hm hm'
  exact ⟨by first | rfl | (simp_all [Prod.ext_iff]; done) | exact e0, q⟩
 par := by
  intro x ρ σ h
  have h0 := h 0 (by decide); have h1 := h 1 (by decide)
  exact ⟨by first | rfl | simp only [h0, h1], by first | exact fun _ _ => rfl | (intro a ha; simp only [h0, h1])⟩
noncomputable def con_wbyte : Con Try.prog 0 := sm_wbyte.con
theorem con_wbyte_at (l : List UInt8) (x : UInt8) (i0 : Nat) (i1 : Nat) (h0 : l.length ≤ 1000000000) (s : St) (hn : nodupB [i0, i1] = true) (m0 : s.get i0 = some (.cells [slL i1 1 l.length])) (m1 : s.get i1 = some (rowL Z1s l)) : con_wbyte.rel [.pointer (some ⟨i0, 0, none⟩), .int .u8 ((x.toNat : Nat) : Int)] s (.tuple #[]) ((s.set i0 (.cells [slL i1 1 ((l ++ [x]).length)])).set i1 (rowL Z1s (l ++ [x]))) :=
 sm_wbyte.at_ (l, x) [i0, i1] s _ h0 rfl hn rfl (all2 m0 m1) rfl rfl
theorem wflag_fn : Try.cfg.fn 36 = some Try.f36 := Z1
theorem wflag_sc (l : List UInt8) (fl : Bool) (h0 : l.length ≤ 1000000000) : SC Try.prog 0 36 [.pointer (some ⟨0, 0, none⟩), .bool fl] (((St.empty 0).new (.cells [slL 1 1 l.length])).new (rowL Z1s l)) fun v s' => v = .tuple #[] ∧ s'.n ≤ 400 ∧ ∀ a, a < 2 → s'.get a = some (objL [.cells [slL 1 1 ((l ++ [bif fl then 1 else 0]).length)], rowL Z1s (l ++ [bif fl then 1 else 0])] a) := by
 obtain ⟨rc, hS, hC⟩ := rc_con (Z24 Try.cfgOk 300) [con_wadd] Z1;have hC60 := hC con_wadd (.head _);cases fl
 ·
  refine Z2d Try.cfgOk wflag_fn rfl ?_;refine Z1u ?_;refine kK Try.cfgOk hS ?_;refine kF ?_;refine Z1t Try.cfgOk hS ?_;refine aK 2 ?_;refine aC 60 [.pointer (some ⟨0, 0, none⟩), .slice (some ⟨2, 0, some 1⟩) 1 1] (.tuple #[]) _ rfl (hC60 _ _ _ _ (con_wadd_at l ([0]) 0 1 2 Z09 _ Z1 Z1 Z1 Z1 )) ?_;refine Z29 ?_;exact ⟨[], Z1, rfl, Zle, all2 (Eq.trans (b := some (.cells [slL 1 1 ((l ++ ([0])).length)])) Z1 (congrArg some (show ((.cells [slL 1 1 ((l ++ ([0])).length)]) : AObj) = .cells [slL 1 1 ((l ++ [bif false then 1 else 0]).length)] by rfl))) (Eq.trans (b := some (rowL Z1s (l ++ ([0])))) Z1 (congrArg some (show ((rowL Z1s (l ++ ([0]))) : AObj) = rowL Z1s (l ++ [bif false then 1 else 0]) by rfl)))⟩
 ·
  refine Z2d Try.cfgOk wflag_fn rfl ?_;refine Z1u ?_;refine kK Try.cfgOk hS ?_;refine kT ?_;refine Z1t Try.cfgOk hS ?_;refine aK 2 ?_;refine aC 60 [.pointer (some ⟨0, 0, none⟩), .slice (some ⟨2, 0, some 1⟩) 1 1] (.tuple #[]) _ rfl (hC60 _ _ _ _ (con_wadd_at l ([1]) 0 1 2 Z09 _ Z1 Z1 Z1 Z1 )) ?_;refine Z29 ?_;exact ⟨[], Z1, rfl, Zle, all2 (Eq.trans (b := some (.cells [slL 1 1 ((l ++ ([1])).length)])) Z1 (congrArg some (show ((.cells [slL 1 1 ((l ++ ([1])).length)]) : AObj) = .cells [slL 1 1 ((l ++ [bif true then 1 else 0]).length)] by rfl))) (Eq.trans (b := some (rowL Z1s (l ++ ([1])))) Z1 (congrArg some (show ((rowL Z1s (l ++ ([1]))) : AObj) = rowL Z1s (l ++ [bif true then 1 else 0]) by rfl)))⟩
noncomputable def sm_wflag : Small Try.prog 0 36 ((List UInt8) × Bool) where
 k := 2
 A := fun z9 ρ => [.pointer (some ⟨(ρ 0), 0, none⟩), .bool z9.2]
 M := fun z9 ρ => objL [.cells [slL (ρ 1) 1 z9.1.length], rowL Z1s z9.1]
 M1 := fun z9 ρ => objL [.cells [slL (ρ 1) 1 ((z9.1 ++ [bif z9.2 then 1 else 0]).length)], rowL Z1s (z9.1 ++ [bif z9.2 then 1 else 0])]
 V := fun z9 ρ => .tuple #[]
 Pre := fun z9 => (z9.1.length ≤ 1000000000)
 ch := [0, 1]
 N := 400
 s0 := fun z9 => (((St.empty 0).new (.cells [slL 1 1 z9.1.length])).new (rowL Z1s z9.1))
 hch := by decide
 hsame := fun x ρ => all2 (fun h => absurd (by decide) h) (fun h => absurd (by decide) h)
 hG := rfl
 hn := fun x => rfl
 hwf := fun x => (((Z1x 0).new _).new _)
 hget := fun x => all2 (by kernel_rfl) (by kernel_rfl)
 noloop := fun x ρ => all2 (fun h => h.elim) (fun h => h.elim)
 inA := fun x ρ R hR => .cons (.ptr (hR 0 _ (by decide))) (.cons (sub_clo rfl) .nil)
 inM := fun x ρ R hR => all2 (OSub.cells (.cons (.slice (hR 1 _ (by decide))) .nil)) (OSub.arr (subs_clo (Z20 Z22)))
 outM := fun x ρ R hR => all2 (OSub.cells (.cons (.slice (hR 1 _ (by decide))) .nil)) (OSub.arr (subs_clo (Z20 Z22)))
 outV := fun x ρ R hR => .tuple .nil
 dom := by
  intro x ρ a ha
  simp only [List.mem_cons, List.mem_singleton, List.not_mem_nil, or_false] at ha
  rcases ha with rfl | rfl
  ·refine .inl fun β y h => ?_
   obtain ⟨_, _, _, h, _⟩ := h.cons_inv
   exact h.dom_ptr
  ·exact .inr fun h => h
 sc := by
  rintro ⟨a0, a1⟩ p0
  exact wflag_sc a0 a1 p0
 det := by
  rintro ⟨a0, a1⟩ ρ ⟨b0, b1⟩ σ s h hm hm'
  simp only [injA, injB, Z27] at h
  have q0 : ρ 0 = σ 0 := by simp_all
  have e0 := (hm 0 (by decide)).symm.trans ((congrArg s.get q0).trans (hm' 0 (by decide)))
  simp only [objL, List.getD_cons_zero, List.getD_cons_succ, injA, injB, Z27] at e0
  have q1 : ρ 1 = σ 1 := by simp_all
  have e1 := (hm 1 (by decide)).symm.trans ((congrArg s.get q1).trans (hm' 1 (by decide)))
  simp only [objL, List.getD_cons_zero, List.getD_cons_succ, injA, injB, Z27] at e1
  have q : ∀ a, a < 2 → ρ a = σ a := all2 q0 q1
  clear hm hm'
  exact ⟨by first | rfl | (simp_all [Prod.ext_iff]; done) | exact e0, q⟩
 par := by
  intro x ρ σ h
  have h0 := h 0 (by decide); have h1 := h 1 (by decide)
  exact ⟨by first | rfl | simp only [h0, h1], by first | exact fun _ _ => rfl | (intro a ha; simp only [h0, h1])⟩
noncomputable def con_wflag : Con Try.prog 0 := sm_wflag.con
theorem con_wflag_at (l : List UInt8) (fl : Bool) (i0 : Nat) (i1 : Nat) (h0 : l.length ≤ 1000000000) (s : St) (hn : nodupB [i0, i1] = true) (m0 : s.get i0 = some (.cells [slL i1 1 l.length])) (m1 : s.get i1 = some (rowL Z1s l)) : con_wflag.rel [.pointer (some ⟨i0, 0, none⟩), .bool fl] s (.tuple #[]) ((s.set i0 (.cells [slL i1 1 ((l ++ [bif fl then 1 else 0]).length)])).set i1 (rowL Z1s (l ++ [bif fl then 1 else 0]))) :=
 sm_wflag.at_ (l, fl) [i0, i1] s _ h0 rfl hn rfl (all2 m0 m1) rfl rfl
theorem wsized_fn : Try.cfg.fn 64 = some Try.f64 := Z1
theorem wsized_sc (l : List UInt8) (b : List UInt8) (h0 : l.length + b.length ≤ 1000000000 - 10) : SC Try.prog 0 64 [.pointer (some ⟨0, 0, none⟩), inlL Z1s 1 b] (((St.empty 0).new (.cells [slL 1 1 l.length])).new (rowL Z1s l)) fun v s' => v = .tuple #[] ∧ s'.n ≤ 400 ∧ ∀ a, a < 2 → s'.get a = some (objL [.cells [slL 1 1 ((l ++ (uv b.length ++ b)).length)], rowL Z1s (l ++ (uv b.length ++ b))] a) := by
 obtain ⟨rc, hS, hC⟩ := rc_con (Z24 Try.cfgOk 300) [con_wcount, con_waddT] Z1;have hC35 := hC con_wcount (.head _);have hC60 := hC con_waddT (.tail _ (.head _));refine Z2d Try.cfgOk wsized_fn rfl ?_;refine Z1u ?_;refine Z1t Try.cfgOk hS ?_;refine aK 2 ?_;refine aM (lenB Try.cfg (St.empty 0) 34 (inlL Z1s 1 b)) (.int .i64 ((b.length : Nat) : Int)) (len_inl tokC Z1) ?_;refine aE (v := .int .u64 (IntKind.wrap .u64 ((b.length : Nat) : Int))) (.int .u64 ((b.length : Nat) : Int)) (congrArg (Value.int .u64) ((wrap_u64 _).trans (congrArg Nat.cast (u64_nat Z0c)))) ?_;refine aC 35 [.pointer (some ⟨0, 0, none⟩), .int .u64 ((b.length : Nat) : Int)] (.tuple #[]) _ rfl (hC35 _ _ _ _ (con_wcount_at l b.length 0 1 Z0j Z0j _ Z1 Z1 Z1 )) ?_;refine Z29 ?_;refine Z1t Try.cfgOk hS ?_;refine aK 2 ?_;refine aC 60 [.pointer (some ⟨0, 0, none⟩), inlL Z1s 1 b] (.tuple #[]) _ rfl (hC60 _ _ _ _ (con_waddT_at (l ++ uv b.length) b 0 1 Z0j _ Z1 Z1 Z1 )) ?_;refine Z29 ?_;exact ⟨[], Z1, rfl, Zle, all2 (Eq.trans (b := some (.cells [slL 1 1 (((l ++ uv b.length) ++ b).length)])) Z1 (congrArg some (show ((.cells [slL 1 1 (((l ++ uv b.length) ++ b).length)]) : AObj) = .cells [slL 1 1 ((l ++ (uv b.length ++ b)).length)] by rw [List.append_assoc]))) (Eq.trans (b := some (rowL Z1s ((l ++ uv b.length) ++ b))) Z1 (congrArg some (show ((rowL Z1s ((l ++ uv b.length) ++ b)) : AObj) = rowL Z1s (l ++ (uv b.length ++ b)) by rw [List.append_assoc])))⟩
noncomputable def sm_wsized : Small Try.prog 0 64 ((List UInt8) × (List UInt8)) where
 k := 2
 A := fun z9 ρ => [.pointer (some ⟨(ρ 0), 0, none⟩), inlL Z1s 1 z9.2]
 M := fun z9 ρ => objL [.cells [slL (ρ 1) 1 z9.1.length], rowL Z1s z9.1]
 M1 := fun z9 ρ => objL [.cells [slL (ρ 1) 1 ((z9.1 ++ (uv z9.2.length ++ z9.2)).length)], rowL Z1s (z9.1 ++ (uv z9.2.length ++ z9.2))]
 V := fun z9 ρ => .tuple #[]
 Pre := fun z9 => (z9.1.length + z9.2.length ≤ 1000000000 - 10)
 ch := [0, 1]
 N := 400
 s0 := fun z9 => (((St.empty 0).new (.cells [slL 1 1 z9.1.length])).new (rowL Z1s z9.1))
 hch := by decide
 hsame := fun x ρ => all2 (fun h => absurd (by decide) h) (fun h => absurd (by decide) h)
 hG := rfl
 hn := fun x => rfl
 hwf := fun x => (((Z1x 0).new _).new _)
 hget := fun x => all2 (by kernel_rfl) (by kernel_rfl)
 noloop := fun x ρ => all2 (fun h => h.elim) (fun h => h.elim)
 inA := fun x ρ R hR => .cons (.ptr (hR 0 _ (by decide))) (.cons (sub_clo rfl) .nil)
 inM := fun x ρ R hR => all2 (OSub.cells (.cons (.slice (hR 1 _ (by decide))) .nil)) (OSub.arr (subs_clo (Z20 Z22)))
 outM := fun x ρ R hR => all2 (OSub.cells (.cons (.slice (hR 1 _ (by decide))) .nil)) (OSub.arr (subs_clo (Z20 Z22)))
 outV := fun x ρ R hR => .tuple .nil
 dom := by
  intro x ρ a ha
  simp only [List.mem_cons, List.mem_singleton, List.not_mem_nil, or_false] at ha
  rcases ha with rfl | rfl
  ·refine .inl fun β y h => ?_
   obtain ⟨_, _, _, h, _⟩ := h.cons_inv
   exact h.dom_ptr
  ·exact .inr fun h => h
 sc := by
  rintro ⟨a0, a1⟩ p0
  exact wsized_sc a0 a1 p0
 det := by
  rintro ⟨a0, a1⟩ ρ ⟨b0, b1⟩ σ s h hm hm'
  simp only [injA, injB, Z28, Z27] at h
  have q0 : ρ 0 = σ 0 := by simp_all
  have e0 := (hm 0 (by decide)).symm.trans ((congrArg s.get q0).trans (hm' 0 (by decide)))
  simp only [objL, List.getD_cons_zero, List.getD_cons_succ, injA, injB, Z28, Z27] at e0
  have q1 : ρ 1 = σ 1 := by simp_all
  have e1 := (hm 1 (by decide)).symm.trans ((congrArg s.get q1).trans (hm' 1 (by decide)))
  simp only [objL, List.getD_cons_zero, List.getD_cons_succ, injA, injB, Z28, Z27] at e1
  have q : ∀ a, a < 2 → ρ a = σ a := all2 q0 q1
  clear hm hm'
  exact ⟨by first | rfl | (simp_all [Prod.ext_iff]; done) | exact e0, q⟩
 par := by
  intro x ρ σ h
  have h0 := h 0 (by decide); have h1 := h 1 (by decide)
  exact ⟨by first | rfl | simp only [h0, h1], by first | exact fun _ _ => rfl | (intro a ha; simp only [h0, h1])⟩
noncomputable def con_wsized : Con Try.prog 0 := sm_wsized.con
theorem con_wsized_at (l : List UInt8) (b : List UInt8) (i0 : Nat) (i1 : Nat) (h0 : l.length + b.length ≤ 1000000000 - 10) (s : St) (hn : nodupB [i0, i1] = true) (m0 : s.get i0 = some (.cells [slL i1 1 l.length])) (m1 : s.get i1 = some (rowL Z1s l)) : con_wsized.rel [.pointer (some ⟨i0, 0, none⟩), inlL Z1s 1 b] s (.tuple #[]) ((s.set i0 (.cells [slL i1 1 ((l ++ (uv b.length ++ b)).length)])).set i1 (rowL Z1s (l ++ (uv b.length ++ b)))) :=
 sm_wsized.at_ (l, b) [i0, i1] s _ h0 rfl hn rfl (all2 m0 m1) rfl rfl
theorem wbytes_fn : Try.cfg.fn 38 = some Try.f38 := Z1
theorem wbytes_sc (l : List UInt8) (b : List UInt8) (h0 : l.length + b.length ≤ 1000000000 - 10) : SC Try.prog 0 38 [.pointer (some ⟨0, 0, none⟩), inlL Z1s 1 b] (((St.empty 0).new (.cells [slL 1 1 l.length])).new (rowL Z1s l)) fun v s' => v = .tuple #[] ∧ s'.n ≤ 400 ∧ ∀ a, a < 2 → s'.get a = some (objL [.cells [slL 1 1 ((l ++ (uv b.length ++ b)).length)], rowL Z1s (l ++ (uv b.length ++ b))] a) := by
 obtain ⟨rc, hS, hC⟩ := rc_con (Z24 Try.cfgOk 300) [con_wsized] Z1;have hC64 := hC con_wsized (.head _);refine Z2d Try.cfgOk wbytes_fn rfl ?_;refine Z1t Try.cfgOk hS ?_;refine aK 2 ?_;refine aC 64 [.pointer (some ⟨0, 0, none⟩), inlL Z1s 1 b] (.tuple #[]) _ rfl (hC64 _ _ _ _ (con_wsized_at l b 0 1 Zm _ Z1 Z1 Z1 )) ?_;refine Z29 ?_;exact ⟨[], Z1, rfl, Zle, all2 Z1 Z1⟩
noncomputable def sm_wbytes : Small Try.prog 0 38 ((List UInt8) × (List UInt8)) where
 k := 2
 A := fun z9 ρ => [.pointer (some ⟨(ρ 0), 0, none⟩), inlL Z1s 1 z9.2]
 M := fun z9 ρ => objL [.cells [slL (ρ 1) 1 z9.1.length], rowL Z1s z9.1]
 M1 := fun z9 ρ => objL [.cells [slL (ρ 1) 1 ((z9.1 ++ (uv z9.2.length ++ z9.2)).length)], rowL Z1s (z9.1 ++ (uv z9.2.length ++ z9.2))]
 V := fun z9 ρ => .tuple #[]
 Pre := fun z9 => (z9.1.length + z9.2.length ≤ 1000000000 - 10)
 ch := [0, 1]
 N := 400
 s0 := fun z9 => (((St.empty 0).new (.cells [slL 1 1 z9.1.length])).new (rowL Z1s z9.1))
 hch := by decide
 hsame := fun x ρ => all2 (fun h => absurd (by decide) h) (fun h => absurd (by decide) h)
 hG := rfl
 hn := fun x => rfl
 hwf := fun x => (((Z1x 0).new _).new _)
 hget := fun x => all2 (by kernel_rfl) (by kernel_rfl)
 noloop := fun x ρ => all2 (fun h => h.elim) (fun h => h.elim)
 inA := fun x ρ R hR => .cons (.ptr (hR 0 _ (by decide))) (.cons (sub_clo rfl) .nil)
 inM := fun x ρ R hR => all2 (OSub.cells (.cons (.slice (hR 1 _ (by decide))) .nil)) (OSub.arr (subs_clo (Z20 Z22)))
 outM := fun x ρ R hR => all2 (OSub.cells (.cons (.slice (hR 1 _ (by decide))) .nil)) (OSub.arr (subs_clo (Z20 Z22)))
 outV := fun x ρ R hR => .tuple .nil
 dom := by
  intro x ρ a ha
  simp only [List.mem_cons, List.mem_singleton, List.not_mem_nil, or_false] at ha
  rcases ha with rfl | rfl
  ·refine .inl fun β y h => ?_
   obtain ⟨_, _, _, h, _⟩ := h.cons_inv
   exact h.dom_ptr
  ·exact .inr fun h => h
 sc := by
  rintro ⟨a0, a1⟩ p0
  exact wbytes_sc a0 a1 p0
 det := by
  rintro ⟨a0, a1⟩ ρ ⟨b0, b1⟩ σ s h hm hm'
  simp only [injA, injB, Z28, Z27] at h
  have q0 : ρ 0 = σ 0 := by simp_all
  have e0 := (hm 0 (by decide)).symm.trans ((congrArg s.get q0).trans (hm' 0 (by decide)))
  simp only [objL, List.getD_cons_zero, List.getD_cons_succ, injA, injB, Z28, Z27] at e0
  have q1 : ρ 1 = σ 1 := by simp_all
  have e1 := (hm 1 (by decide)).symm.trans ((congrArg s.get q1).trans (hm' 1 (by decide)))
  simp only [objL, List.getD_cons_zero, List.getD_cons_succ, injA, injB, Z28, Z27] at e1
  have q : ∀ a, a < 2 → ρ a = σ a := all2 q0 q1
  clear hm hm'
  exact ⟨by first | rfl | (simp_all [Prod.ext_iff]; done) | exact e0, q⟩
 par := by
  intro x ρ σ h
  have h0 := h 0 (by decide); have h1 := h 1 (by decide)
  exact ⟨by first | rfl | simp only [h0, h1], by first | exact fun _ _ => rfl | (intro a ha; simp only [h0, h1])⟩
noncomputable def con_wbytes : Con Try.prog 0 := sm_wbytes.con
theorem con_wbytes_at (l : List UInt8) (b : List UInt8) (i0 : Nat) (i1 : Nat) (h0 : l.length + b.length ≤ 1000000000 - 10) (s : St) (hn : nodupB [i0, i1] = true) (m0 : s.get i0 = some (.cells [slL i1 1 l.length])) (m1 : s.get i1 = some (rowL Z1s l)) : con_wbytes.rel [.pointer (some ⟨i0, 0, none⟩), inlL Z1s 1 b] s (.tuple #[]) ((s.set i0 (.cells [slL i1 1 ((l ++ (uv b.length ++ b)).length)])).set i1 (rowL Z1s (l ++ (uv b.length ++ b)))) :=
 sm_wbytes.at_ (l, b) [i0, i1] s _ h0 rfl hn rfl (all2 m0 m1) rfl rfl
theorem wcloneN_fn : Try.cfg.fn 43 = some Try.f43 := Z1
theorem wcloneN_sc (l : List UInt8) (h0 : l.length ≤ 2 * 1000000000) (h1 : ¬ l = []) : SC Try.prog 0 43 [slL 0 1 l.length] ((St.empty 0).new (rowL Z1s l)) fun v s' => ∃ σ : Nat → Nat, (∀ a, a < 1 → σ a = a) ∧ (∀ a, 1 ≤ a → a < 1 + 1 → 1 ≤ σ a ∧ σ a < s'.n) ∧ (∀ a b, a < 1 + 1 → b < 1 + 1 → σ a = σ b → a = b) ∧ v = slL (σ 1) 1 l.length ∧ s'.n ≤ 400 ∧ ∀ a, a < 1 + 1 → s'.get (σ a) = some (objL [rowL Z1s l, rowL Z1s l] a) := by
 have hS := Z24 Try.cfgOk 300;refine Z2d Try.cfgOk wcloneN_fn rfl ?_;refine Z1u ?_;refine kK Try.cfgOk hS ?_;refine Z1u (Z1u ?_);refine Z1t Try.cfgOk hS ?_;refine aK 1 ?_;refine al_nilT (l.length) true rfl Z1 rfl Z1 Z1 (fun h1 => ?_) ?_
 ·have c2 : l = [] := List.eq_nil_of_length_eq_zero h1;clear h1;exact absurd c2 h1
 ·
  refine Z29 ?_;refine kF ?_;refine Z26 (Z1u ?_);refine Z1t Try.cfgOk hS ?_;refine aK 2 ?_;refine al_opF (v := slL 1 1 (([] : List UInt8) ++ l).length) (s1 := (((St.empty 0).new (rowL Z1s l)).new (rowL Z1s ([] : List UInt8))).set 1 (rowL Z1s (([] : List UInt8) ++ l))) Z1 Z1 (Eq.trans (b := appendV Try.cfg (((St.empty 0).new (rowL Z1s l)).new (rowL Z1s ([] : List UInt8))) 34 (slL 1 1 (([] : List UInt8).length)) (slL 0 1 l.length)) Z1 (app_rowL (l := ([] : List UInt8)) (l2 := l) (bytes := 1) tokC Z1 Z2g bcells_one Z1 Z1 (firstV_rowL Z2g Z1) Zi)) ?_;refine aN ?_;refine Z1z ?_;exact ⟨[slL 1 1 (List.length (α := UInt8) (([] : List UInt8) ++ l))], Z1, rhoL [0, 1], all1 rfl , new_rho rfl Z1, nodup_rho (ids := [0, 1]) rfl, (show (slL 1 1 (List.length (α := UInt8) (([] : List UInt8) ++ l)) : Value) = slL 1 1 l.length by rfl), Zle, all2 Z1 (Eq.trans (b := some (rowL Z1s (([] : List UInt8) ++ l))) Z1 (congrArg some (show ((rowL Z1s (([] : List UInt8) ++ l)) : AObj) = rowL Z1s l by rfl)))⟩
noncomputable def sm_wcloneN : SmallN Try.prog 0 43 ((List UInt8)) where
 k := 1
 m := 1
 A := fun z9 ρ => [slL (ρ 0) 1 z9.length]
 M := fun z9 ρ => objL [rowL Z1s z9]
 M1 := fun z9 ρ => objL [rowL Z1s z9, rowL Z1s z9]
 V := fun z9 ρ => slL (ρ 1) 1 z9.length
 Pre := fun z9 => (z9.length ≤ 2 * 1000000000) ∧ (¬ z9 = [])
 ch := []
 N := 400
 s0 := fun z9 => ((St.empty 0).new (rowL Z1s z9))
 hch := by decide
 hsame := fun x ρ => all1 (fun _ => rfl)
 hG := rfl
 hn := fun x => rfl
 hwf := fun x => ((Z1x 0).new _)
 hget := fun x => all1 (by kernel_rfl)
 noloop := fun x ρ => all1 (fun h => h.elim)
 inA := fun x ρ R hR => .cons (.slice (hR 0 _ (by decide))) .nil
 inM := fun x ρ R hR => all1 (OSub.arr (subs_clo (Z20 Z22)))
 outM := fun x σ ρ R hR => all2 (OSub.arr (subs_clo (Z20 Z22))) (OSub.arr (subs_clo (Z20 Z22)))
 outV := fun x σ ρ R hR => .slice (hR 1 _ (by decide))
 dom := by
  intro x ρ a ha
  cases ha
 sc := by
  rintro x ⟨p0, p1⟩
  exact wcloneN_sc x p0 p1
 det := by
  rintro x ρ y σ s h hm hm'
  simp only [injA, injB, Z27] at h
  have q0 : ρ 0 = σ 0 := by simp_all
  have e0 := (hm 0 (by decide)).symm.trans ((congrArg s.get q0).trans (hm' 0 (by decide)))
  simp only [objL, List.getD_cons_zero, List.getD_cons_succ, injA, injB, Z27] at e0
  have q : ∀ a, a < 1 → ρ a = σ a := all1 q0
  clear hm hm'
  exact ⟨by first | rfl | exact h | (simp_all [Prod.ext_iff]; done) | exact e0, q⟩
 par := by
  intro x ρ σ h
  have h0 := h 0 (by decide); have h1 := h 1 (by decide)
  exact ⟨by first | rfl | simp only [h0, h1], by first | exact fun _ _ => rfl | (intro a ha; simp only [h0, h1])⟩
noncomputable def con_wcloneN : Con Try.prog 0 := sm_wcloneN.con
theorem con_wcloneN_at (l : List UInt8) (i0 : Nat) (i1 : Nat) (h0 : l.length ≤ 2 * 1000000000) (h1 : ¬ l = []) (s : St) (hn : nodupB [i0] = true) (m0 : s.get i0 = some (rowL Z1s l)) (n0 : i1 = s.n + 0) : con_wcloneN.rel [slL i0 1 l.length] s (slL i1 1 l.length) (s.new (rowL Z1s l)) :=
 sm_wcloneN.at_ l [i0, i1] s _ ⟨h0, h1⟩ rfl hn rfl (all1 m0) (new_all (p := fun a b => rhoL [i0, i1] a = s.n + b) (all1 n0)) rfl rfl
theorem woutN_fn : Try.cfg.fn 40 = some Try.f40 := Z1
theorem woutN_sc (l : List UInt8) (h0 : l.length ≤ 2 * 1000000000) (h1 : ¬ l = []) : SC Try.prog 0 40 [.pointer (some ⟨0, 0, none⟩)] (((St.empty 0).new (.cells [slL 1 1 l.length])).new (rowL Z1s l)) fun v s' => ∃ σ : Nat → Nat, (∀ a, a < 2 → σ a = a) ∧ (∀ a, 2 ≤ a → a < 2 + 1 → 2 ≤ σ a ∧ σ a < s'.n) ∧ (∀ a b, a < 2 + 1 → b < 2 + 1 → σ a = σ b → a = b) ∧ v = slL (σ 2) 1 l.length ∧ s'.n ≤ 400 ∧ ∀ a, a < 2 + 1 → s'.get (σ a) = some (objL [.cells [slL (σ 1) 1 l.length], rowL Z1s l, rowL Z1s l] a) := by
 obtain ⟨rc, hS, hC⟩ := rc_con (Z24 Try.cfgOk 300) [con_wcloneN] Z1;have hC43 := hC con_wcloneN (.head _);refine Z2d Try.cfgOk woutN_fn rfl ?_;refine Z1u ?_;refine kK Try.cfgOk hS ?_;refine Z1u (Z1u ?_);refine kK Try.cfgOk hS ?_;refine kF ?_;refine Z26 (Z1u ?_);refine Z1t Try.cfgOk hS ?_;refine aK 4 ?_;refine aC 43 [slL 1 1 l.length] (slL 2 1 l.length) _ rfl (hC43 _ _ _ _ (con_wcloneN_at l 1 2 Z17 Z17 _ Z1 Z1 Z1 )) ?_;refine aN ?_;refine Z1z ?_;exact ⟨[slL 2 1 l.length], Z1, rhoL [0, 1, 2], all2 rfl rfl , new_rho rfl Z1, nodup_rho (ids := [0, 1, 2]) rfl, rfl, Zle, all3 Z1 Z1 Z1⟩
noncomputable def sm_woutN : SmallN Try.prog 0 40 ((List UInt8)) where
 k := 2
 m := 1
 A := fun z9 ρ => [.pointer (some ⟨(ρ 0), 0, none⟩)]
 M := fun z9 ρ => objL [.cells [slL (ρ 1) 1 z9.length], rowL Z1s z9]
 M1 := fun z9 ρ => objL [.cells [slL (ρ 1) 1 z9.length], rowL Z1s z9, rowL Z1s z9]
 V := fun z9 ρ => slL (ρ 2) 1 z9.length
 Pre := fun z9 => (z9.length ≤ 2 * 1000000000) ∧ (¬ z9 = [])
 ch := []
 N := 400
 s0 := fun z9 => (((St.empty 0).new (.cells [slL 1 1 z9.length])).new (rowL Z1s z9))
 hch := by decide
 hsame := fun x ρ => all2 (fun _ => rfl) (fun _ => rfl)
 hG := rfl
 hn := fun x => rfl
 hwf := fun x => (((Z1x 0).new _).new _)
 hget := fun x => all2 (by kernel_rfl) (by kernel_rfl)
 noloop := fun x ρ => all2 (fun h => h.elim) (fun h => h.elim)
 inA := fun x ρ R hR => .cons (.ptr (hR 0 _ (by decide))) .nil
 inM := fun x ρ R hR => all2 (OSub.cells (.cons (.slice (hR 1 _ (by decide))) .nil)) (OSub.arr (subs_clo (Z20 Z22)))
 outM := fun x σ ρ R hR => all3 (OSub.cells (.cons (.slice (hR 1 _ (by decide))) .nil)) (OSub.arr (subs_clo (Z20 Z22))) (OSub.arr (subs_clo (Z20 Z22)))
 outV := fun x σ ρ R hR => .slice (hR 2 _ (by decide))
 dom := by
  intro x ρ a ha
  cases ha
 sc := by
  rintro x ⟨p0, p1⟩
  exact woutN_sc x p0 p1
 det := by
  rintro x ρ y σ s h hm hm'
  simp only [injA, injB, Z27] at h
  have q0 : ρ 0 = σ 0 := by simp_all
  have e0 := (hm 0 (by decide)).symm.trans ((congrArg s.get q0).trans (hm' 0 (by decide)))
  simp only [objL, List.getD_cons_zero, List.getD_cons_succ, injA, injB, Z27] at e0
  have q1 : ρ 1 = σ 1 := by simp_all
  have e1 := (hm 1 (by decide)).symm.trans ((congrArg s.get q1).trans (hm' 1 (by decide)))
  simp only [objL, List.getD_cons_zero, List.getD_cons_succ, injA, injB, Z27] at e1
  have q : ∀ a, a < 2 → ρ a = σ a := all2 q0 q1
  clear hm hm'
  exact ⟨by first | rfl | exact h | (simp_all [Prod.ext_iff]; done) | exact e0, q⟩
 par := by
  intro x ρ σ h
  have h0 := h 0 (by decide); have h1 := h 1 (by decide); have h2 := h 2 (by decide)
  exact ⟨by first | rfl | simp only [h0, h1, h2], by first | exact fun _ _ => rfl | (intro a ha; simp only [h0, h1, h2])⟩
noncomputable def con_woutN : Con Try.prog 0 := sm_woutN.con
theorem con_woutN_at (l : List UInt8) (i0 : Nat) (i1 : Nat) (i2 : Nat) (h0 : l.length ≤ 2 * 1000000000) (h1 : ¬ l = []) (s : St) (hn : nodupB [i0, i1] = true) (m0 : s.get i0 = some (.cells [slL i1 1 l.length])) (m1 : s.get i1 = some (rowL Z1s l)) (n0 : i2 = s.n + 0) : con_woutN.rel [.pointer (some ⟨i0, 0, none⟩)] s (slL i2 1 l.length) (s.new (rowL Z1s l)) :=
 sm_woutN.at_ l [i0, i1, i2] s _ ⟨h0, h1⟩ rfl hn rfl (all2 m0 m1) (new_all (p := fun a b => rhoL [i0, i1, i2] a = s.n + b) (all1 n0)) rfl rfl
def encF (x : UInt8) (c : Code) : List UInt8 := if x.toNat = 110 then uv (fold (fld x c)) else uv (u64 (fld x c))
def encC (c : Code) : List UInt8 := UInt8.ofNat (c.1 % 256).toNat :: catB (fun x => encF x c) (shp c.1)
def progB (fu : Int) (co : List Code) : List UInt8 := uv (u64 fu) ++ (uv co.length ++ catB encC co)
def inC (c : Code) : Prop := in64 c.1 ∧ in64 c.2.1 ∧ in64 c.2.2.1 ∧ in64 c.2.2.2.1 ∧ in64 c.2.2.2.2.1 ∧ in64 c.2.2.2.2.2
theorem fld_in {c : Code} (h : inC c) (x : UInt8) : in64 (fld x c) := by
 unfold fld;split
 ·exact h.2.1
 ·split
  ·exact h.2.2.1
  ·split
   ·exact h.2.2.2.1
   ·split
    ·exact h.2.2.2.2.1
    ·exact h.2.2.2.2.2
theorem encF_n {x : UInt8} {c : Code} (h : ((x.toNat : Nat) : Int) = 110) : encF x c = uv (fold (fld x c)) := if_pos Z5
theorem encF_c {x : UInt8} {c : Code} (h : ¬ ((x.toNat : Nat) : Int) = 110) : encF x c = uv (u64 (fld x c)) := if_neg Z5
theorem encF_len {x : UInt8} {c : Code} (h : inC c) : (encF x c).length ≤ 10 := by
 unfold encF;split
 ·exact uv_len10 (fold_lt (fld_in h x))
 ·exact uv_len10 (u64_lt _)
theorem encC_len {c : Code} (h : inC c) : (encC c).length ≤ 51 := by
 have q := catB_len (f := fun x => encF x c) (c := 10) (l := shp c.1) fun x _ => encF_len h
 have q2 := shp_len c.1;simp only [encC, List.length_cons];omega
theorem enc_step {l0 : List UInt8} {c : Code} {j : Nat} {x : UInt8} {l2 : List UInt8} (hx : (shp c.1)[j]? = some x) (e : encF x c = l2) : l0 ++ catB (fun x => encF x c) ((shp c.1).take j) ++ l2 = l0 ++ catB (fun x => encF x c) ((shp c.1).take (j + 1)) := by rw [catB_succ hx, e, List.append_assoc]
end Go.Proofs.Ytegigohhnplomaa