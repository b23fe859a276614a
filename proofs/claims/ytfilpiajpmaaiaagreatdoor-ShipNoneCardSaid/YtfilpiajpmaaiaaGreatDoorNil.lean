/- What a nil replica answers. -/
import Derived.Test.YtfilpiajpmaaiaaGreatDoorLarge
import Derived.Test.YtfilpiajpmaaiaaGreatDoorBase
import Derived.Test.YtfilpiajpmaaiaaGreatDoorAiHit
set_option linter.unusedVariables false
set_option linter.unusedSimpArgs false
set_option linter.unnecessarySimpa false
namespace Go.Proofs.YtfilpiajpmaaiaaGreatDoor
open Go.Ai
theorem rget_sc (ka : Int) (kb : Int)  : SC Tryz.prog 0 6 [.pointer none, .agg #[.int .i64 ka, .int .i64 kb]] (St.empty 0) fun v s' => v = .tuple #[.int .i64 0, .bool false] ∧ s'.n ≤ 400 := sc_valB Tryz.cfgOk 300 400 (by kernel_rfl)
noncomputable def con_rget : Con Tryz.prog 3 := Con.pureG (α := Int × Int) 6 (fun z9 => [.pointer none, .agg #[.int .i64 z9.1, .int .i64 z9.2]]) (fun z9 => .tuple #[.int .i64 0, .bool false]) (fun z9 => True) (by
  rintro ⟨a0, a1⟩ ⟨b0, b1⟩ h
  simp only [List.cons.injEq, and_true, Int.natCast_inj, UInt8.toNat_inj, Value.int.injEq, Value.bool.injEq, Value.string.injEq, Value.agg.injEq, Array.mk.injEq, true_and] at h
  first | exact h | (simp only [Prod.ext_iff, h, and_self, and_true, true_and]; done) | simp_all [Prod.ext_iff]) (fun _ => rfl) (fun _ => rfl) 400 (by
  rintro ⟨a0, a1⟩ _
  exact rget_sc a0 a1 )
theorem con_rget_at (ka : Int) (kb : Int)  (s : St) : con_rget.rel [.pointer none, .agg #[.int .i64 ka, .int .i64 kb]] s (.tuple #[.int .i64 0, .bool false]) s := con_pureG (ka, kb) trivial s
theorem shipof_sc   : SC Tryz.prog 0 7 [.pointer none] (St.empty 0) fun v s' => v = .tuple #[.agg #[.int .i64 0, .slice none 0 0, .slice none 0 0], .iface 43 (.int .i64 1)] ∧ s'.n ≤ 400 := sc_valB Tryz.cfgOk 300 400 (by kernel_rfl)
noncomputable def con_shipof : Con Tryz.prog 3 := Con.pureG (α := Unit) 7 (fun z9 => [.pointer none]) (fun z9 => .tuple #[.agg #[.int .i64 0, .slice none 0 0, .slice none 0 0], .iface 43 (.int .i64 1)]) (fun z9 => True) (by
  intro x y _; rfl) (fun _ => rfl) (fun _ => rfl) 400 (by
  intro x hp; exact shipof_sc)
theorem con_shipof_at   (s : St) : con_shipof.rel [.pointer none] s (.tuple #[.agg #[.int .i64 0, .slice none 0 0, .slice none 0 0], .iface 43 (.int .i64 1)]) s := con_pureG () trivial s
theorem rtake_sc (bs : Int) (tx : List UInt8) (l : List Rec8)  : SC Tryz.prog 0 9 [.pointer none, .agg #[.int .i64 bs, inlL bcells 1 tx, inlL rcells 8 l], .slice none 0 0] (St.empty 0) fun v s' => v = .iface 43 (.int .i64 11) ∧ s'.n ≤ 400 := sc_valB Tryz.cfgOk 300 400 (by kernel_rfl)
noncomputable def con_rtake : Con Tryz.prog 3 := Con.pureG (α := Int × (List UInt8) × (List Rec8)) 9 (fun z9 => [.pointer none, .agg #[.int .i64 z9.1, inlL bcells 1 z9.2.1, inlL rcells 8 z9.2.2], .slice none 0 0]) (fun z9 => .iface 43 (.int .i64 11)) (fun z9 => True) (by
  rintro ⟨a0, a1, a2⟩ ⟨b0, b1, b2⟩ h
  simp only [List.cons.injEq, and_true, Int.natCast_inj, UInt8.toNat_inj, Value.int.injEq, Value.bool.injEq, Value.string.injEq, Value.agg.injEq, Array.mk.injEq, true_and, bcells_iff, rcells_iff] at h
  first | exact h | (simp only [Prod.ext_iff, h, and_self, and_true, true_and]; done) | simp_all [Prod.ext_iff]) (fun _ => rfl) (fun _ => rfl) 400 (by
  rintro ⟨a0, a1, a2⟩ _
  exact rtake_sc a0 a1 a2 )
theorem con_rtake_at (bs : Int) (tx : List UInt8) (l : List Rec8)  (s : St) : con_rtake.rel [.pointer none, .agg #[.int .i64 bs, inlL bcells 1 tx, inlL rcells 8 l], .slice none 0 0] s (.iface 43 (.int .i64 11)) s := con_pureG (bs, tx, l) trivial s
theorem rat_sc   : SC Tryz.prog 0 11 [.pointer none] (St.empty 0) fun v s' => v = .int .i64 0 ∧ s'.n ≤ 400 := sc_valB Tryz.cfgOk 300 400 (by kernel_rfl)
noncomputable def con_rat : Con Tryz.prog 3 := Con.pureG (α := Unit) 11 (fun z9 => [.pointer none]) (fun z9 => .int .i64 0) (fun z9 => True) (by
  intro x y _; rfl) (fun _ => rfl) (fun _ => rfl) 400 (by
  intro x hp; exact rat_sc)
theorem con_rat_at   (s : St) : con_rat.rel [.pointer none] s (.int .i64 0) s := con_pureG () trivial s
theorem rtext_sc   : SC Tryz.prog 0 12 [.pointer none] (St.empty 0) fun v s' => v = .slice none 0 0 ∧ s'.n ≤ 400 := sc_valB Tryz.cfgOk 300 400 (by kernel_rfl)
noncomputable def con_rtext : Con Tryz.prog 3 := Con.pureG (α := Unit) 12 (fun z9 => [.pointer none]) (fun z9 => .slice none 0 0) (fun z9 => True) (by
  intro x y _; rfl) (fun _ => rfl) (fun _ => rfl) 400 (by
  intro x hp; exact rtext_sc)
theorem con_rtext_at   (s : St) : con_rtext.rel [.pointer none] s (.slice none 0 0) s := con_pureG () trivial s
theorem isn_sc (n : Int) (h0 : n = 1 ∨ n = 11) : SC Tryz.prog 0 8 [.iface 43 (.int .i64 n), .int .i64 n] (St.empty 0) fun v s' => v = .bool true ∧ s'.n ≤ 400 := by
  rcases h0 with rfl | rfl
  · exact sc_valB Tryz.cfgOk 300 400 (by kernel_rfl)
  · exact sc_valB Tryz.cfgOk 300 400 (by kernel_rfl)
noncomputable def con_isn : Con Tryz.prog 3 := Con.pureG (α := Int) 8 (fun z9 => [.iface 43 (.int .i64 z9), .int .i64 z9]) (fun z9 => .bool true) (fun z9 => (z9 = 1 ∨ z9 = 11)) (by
  intro x y h
  simp only [List.cons.injEq, and_true, Int.natCast_inj, UInt8.toNat_inj, Value.int.injEq, Value.bool.injEq, Value.string.injEq, Value.agg.injEq, Array.mk.injEq, true_and] at h
  first | exact h | (simp only [Prod.ext_iff, h, and_self, and_true, true_and]; done) | simp_all [Prod.ext_iff]) (fun _ => rfl) (fun _ => rfl) 400 (by
  rintro x p0
  exact isn_sc x p0)
theorem con_isn_at (n : Int) (h0 : n = 1 ∨ n = 11) (s : St) : con_isn.rel [.iface 43 (.int .i64 n), .int .i64 n] s (.bool true) s := con_pureG n h0 s
end Go.Proofs.YtfilpiajpmaaiaaGreatDoor