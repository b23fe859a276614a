/- Rows of keys and of spans are sorted. -/
import Derived.Test.YtfpkfcdeoiofiaaFeet
import Derived.Test.YtfpkfcdeoiofiaaAiSort
set_option linter.unusedVariables false
set_option linter.unusedSimpArgs false
set_option linter.unnecessarySimpa false
namespace Go.Proofs.Ytfpkfcdeoiofiaa
open Go.Ai
open Go.Shelf Go.Sort Go.Proofs
def lay_key_ren : Go.Shelf.Ren := ⟨fun | 6 => 43 | 15 => 49 | 14 => 48 | 28 => 59 | 29 => 60 | 20 => 51 | 21 => 52 | 22 => 53 | 23 => 54 | 24 => 55 | 25 => 56 | 26 => 57 | 27 => 58 | 46 => 69 | 47 => 70 | 48 => 71 | 49 => 72 | 50 => 73 | 57 => 77 | n => n, fun | 22 => 32 | 24 => 43 | 25 => 73 | 3 => 3 | 39 => 99 | 0 => 0 | 53 => 110 | 55 => 112 | 4 => 4 | 46 => 103 | 45 => 102 | 50 => 107 | 5 => 5 | 9 => 9 | 66 => 118 | 70 => 81 | 76 => 125 | 77 => 126 | n => n, fun | n => n⟩
theorem lay_key : SlLaysF0.n6 Try.prog lay_key_ren := {
  mixed := by kernel_rfl,
  f6 := ⟨Try.f43.name, by kernel_rfl, Try.func43.trans (congrArg some (by kernel_rfl))⟩,
  f14 := ⟨Try.f48.name, by kernel_rfl, Try.func48.trans (congrArg some (by kernel_rfl))⟩,
  f15 := Try.func49.trans (congrArg some (by kernel_rfl)),
  f20 := ⟨Try.f51.name, by kernel_rfl, Try.func51.trans (congrArg some (by kernel_rfl))⟩,
  f21 := ⟨Try.f52.name, by kernel_rfl, Try.func52.trans (congrArg some (by kernel_rfl))⟩,
  f22 := ⟨Try.f53.name, by kernel_rfl, Try.func53.trans (congrArg some (by kernel_rfl))⟩,
  f23 := ⟨Try.f54.name, by kernel_rfl, Try.func54.trans (congrArg some (by kernel_rfl))⟩,
  f24 := ⟨Try.f55.name, by kernel_rfl, Try.func55.trans (congrArg some (by kernel_rfl))⟩,
  f25 := ⟨Try.f56.name, by kernel_rfl, Try.func56.trans (congrArg some (by kernel_rfl))⟩,
  f26 := ⟨Try.f57.name, by kernel_rfl, Try.func57.trans (congrArg some (by kernel_rfl))⟩,
  f27 := ⟨Try.f58.name, by kernel_rfl, Try.func58.trans (congrArg some (by kernel_rfl))⟩,
  f28 := Try.func59.trans (congrArg some (by kernel_rfl)),
  f29 := Try.func60.trans (congrArg some (by kernel_rfl)),
  f46 := ⟨Try.f69.name, by kernel_rfl, Try.func69.trans (congrArg some (by kernel_rfl))⟩,
  f47 := Try.func70.trans (congrArg some (by kernel_rfl)),
  f48 := Try.func71.trans (congrArg some (by kernel_rfl)),
  f49 := ⟨Try.f72.name, by kernel_rfl, Try.func72.trans (congrArg some (by kernel_rfl))⟩,
  f50 := ⟨Try.f73.name, by kernel_rfl, Try.func73.trans (congrArg some (by kernel_rfl))⟩,
  f57 := ⟨Try.f77.name, by kernel_rfl, Try.func77.trans (congrArg some (by kernel_rfl))⟩,
  t0 := Try.underlying0,
  a0 := Try.isAgg0,
  z0 := Try.sizeOf0,
  v0 := Try.zeroValue0,
  t3 := Try.underlying3,
  a3 := Try.isAgg3,
  z3 := Try.sizeOf3,
  v3 := Try.zeroValue3,
  t4 := Try.underlying4,
  a4 := Try.isAgg4,
  z4 := Try.sizeOf4,
  v4 := Try.zeroValue4,
  t5 := Try.underlying5,
  a5 := Try.isAgg5,
  z5 := Try.sizeOf5,
  v5 := Try.zeroValue5,
  t9 := Try.underlying9,
  a9 := Try.isAgg9,
  z9 := Try.sizeOf9,
  v9 := Try.zeroValue9,
  t22 := Try.underlying32,
  a22 := Try.isAgg32,
  z22 := Try.sizeOf32,
  v22 := Try.zeroValue32,
  t25 := Try.underlying73,
  a25 := Try.isAgg73,
  z25 := Try.sizeOf73,
  v25 := Try.zeroValue73,
  t39 := Try.underlying99,
  a39 := Try.isAgg99,
  z39 := Try.sizeOf99,
  v39 := Try.zeroValue99,
  t45 := Try.underlying102,
  a45 := Try.isAgg102,
  z45 := Try.sizeOf102,
  v45 := Try.zeroValue102,
  t46 := Try.underlying103,
  a46 := Try.isAgg103,
  z46 := Try.sizeOf103,
  v46 := Try.zeroValue103,
  t50 := Try.underlying107,
  a50 := Try.isAgg107,
  z50 := Try.sizeOf107,
  v50 := Try.zeroValue107,
  t53 := Try.underlying110,
  a53 := Try.isAgg110,
  z53 := Try.sizeOf110,
  v53 := Try.zeroValue110,
  t55 := Try.underlying112,
  a55 := Try.isAgg112,
  z55 := Try.sizeOf112,
  v55 := Try.zeroValue112,
  t66 := Try.underlying118,
  a66 := Try.isAgg118,
  z66 := Try.sizeOf118,
  v66 := Try.zeroValue118,
  t70 := Try.underlying81,
  a70 := Try.isAgg81,
  z70 := Try.sizeOf81,
  v70 := Try.zeroValue81,
  t76 := Try.underlying125,
  a76 := Try.isAgg125,
  z76 := Try.sizeOf125,
  v76 := Try.zeroValue125,
  t77 := Try.underlying126,
  a77 := Try.isAgg126,
  z77 := Try.sizeOf126,
  v77 := Try.zeroValue126 }
def lay_span_ren : Go.Shelf.Ren := ⟨fun | 6 => 45 | 15 => 49 | 14 => 50 | 28 => 59 | 29 => 60 | 20 => 61 | 21 => 62 | 22 => 63 | 23 => 64 | 24 => 65 | 25 => 66 | 26 => 67 | 27 => 68 | 46 => 74 | 47 => 70 | 48 => 71 | 49 => 75 | 50 => 76 | 57 => 78 | n => n, fun | 22 => 33 | 24 => 66 | 25 => 68 | 3 => 3 | 39 => 99 | 0 => 0 | 53 => 110 | 55 => 112 | 4 => 4 | 46 => 103 | 45 => 102 | 50 => 107 | 5 => 5 | 9 => 9 | 66 => 118 | 70 => 81 | 76 => 125 | 77 => 126 | n => n, fun | n => n⟩
theorem lay_span : SlLaysF0.n6 Try.prog lay_span_ren := {
  mixed := by kernel_rfl,
  f6 := ⟨Try.f45.name, by kernel_rfl, Try.func45.trans (congrArg some (by kernel_rfl))⟩,
  f14 := ⟨Try.f50.name, by kernel_rfl, Try.func50.trans (congrArg some (by kernel_rfl))⟩,
  f15 := Try.func49.trans (congrArg some (by kernel_rfl)),
  f20 := ⟨Try.f61.name, by kernel_rfl, Try.func61.trans (congrArg some (by kernel_rfl))⟩,
  f21 := ⟨Try.f62.name, by kernel_rfl, Try.func62.trans (congrArg some (by kernel_rfl))⟩,
  f22 := ⟨Try.f63.name, by kernel_rfl, Try.func63.trans (congrArg some (by kernel_rfl))⟩,
  f23 := ⟨Try.f64.name, by kernel_rfl, Try.func64.trans (congrArg some (by kernel_rfl))⟩,
  f24 := ⟨Try.f65.name, by kernel_rfl, Try.func65.trans (congrArg some (by kernel_rfl))⟩,
  f25 := ⟨Try.f66.name, by kernel_rfl, Try.func66.trans (congrArg some (by kernel_rfl))⟩,
  f26 := ⟨Try.f67.name, by kernel_rfl, Try.func67.trans (congrArg some (by kernel_rfl))⟩,
  f27 := ⟨Try.f68.name, by kernel_rfl, Try.func68.trans (congrArg some (by kernel_rfl))⟩,
  f28 := Try.func59.trans (congrArg some (by kernel_rfl)),
  f29 := Try.func60.trans (congrArg some (by kernel_rfl)),
  f46 := ⟨Try.f74.name, by kernel_rfl, Try.func74.trans (congrArg some (by kernel_rfl))⟩,
  f47 := Try.func70.trans (congrArg some (by kernel_rfl)),
  f48 := Try.func71.trans (congrArg some (by kernel_rfl)),
  f49 := ⟨Try.f75.name, by kernel_rfl, Try.func75.trans (congrArg some (by kernel_rfl))⟩,
  f50 := ⟨Try.f76.name, by kernel_rfl, Try.func76.trans (congrArg some (by kernel_rfl))⟩,
  f57 := ⟨Try.f78.name, by kernel_rfl, Try.func78.trans (congrArg some (by kernel_rfl))⟩,
  t0 := Try.underlying0,
  a0 := Try.isAgg0,
  z0 := Try.sizeOf0,
  v0 := Try.zeroValue0,
  t3 := Try.underlying3,
  a3 := Try.isAgg3,
  z3 := Try.sizeOf3,
  v3 := Try.zeroValue3,
  t4 := Try.underlying4,
  a4 := Try.isAgg4,
  z4 := Try.sizeOf4,
  v4 := Try.zeroValue4,
  t5 := Try.underlying5,
  a5 := Try.isAgg5,
  z5 := Try.sizeOf5,
  v5 := Try.zeroValue5,
  t9 := Try.underlying9,
  a9 := Try.isAgg9,
  z9 := Try.sizeOf9,
  v9 := Try.zeroValue9,
  t22 := Try.underlying33,
  a22 := Try.isAgg33,
  z22 := Try.sizeOf33,
  v22 := Try.zeroValue33,
  t25 := Try.underlying68,
  a25 := Try.isAgg68,
  z25 := Try.sizeOf68,
  v25 := Try.zeroValue68,
  t39 := Try.underlying99,
  a39 := Try.isAgg99,
  z39 := Try.sizeOf99,
  v39 := Try.zeroValue99,
  t45 := Try.underlying102,
  a45 := Try.isAgg102,
  z45 := Try.sizeOf102,
  v45 := Try.zeroValue102,
  t46 := Try.underlying103,
  a46 := Try.isAgg103,
  z46 := Try.sizeOf103,
  v46 := Try.zeroValue103,
  t50 := Try.underlying107,
  a50 := Try.isAgg107,
  z50 := Try.sizeOf107,
  v50 := Try.zeroValue107,
  t53 := Try.underlying110,
  a53 := Try.isAgg110,
  z53 := Try.sizeOf110,
  v53 := Try.zeroValue110,
  t55 := Try.underlying112,
  a55 := Try.isAgg112,
  z55 := Try.sizeOf112,
  v55 := Try.zeroValue112,
  t66 := Try.underlying118,
  a66 := Try.isAgg118,
  z66 := Try.sizeOf118,
  v66 := Try.zeroValue118,
  t70 := Try.underlying81,
  a70 := Try.isAgg81,
  z70 := Try.sizeOf81,
  v70 := Try.zeroValue81,
  t76 := Try.underlying125,
  a76 := Try.isAgg125,
  z76 := Try.sizeOf125,
  v76 := Try.zeroValue125,
  t77 := Try.underlying126,
  a77 := Try.isAgg126,
  z77 := Try.sizeOf126,
  v77 := Try.zeroValue126 }
def cmpK (a b : Key) : Int := orL [cmpI a.1 b.1, cmpI a.2 b.2]
def cmpS (a b : Span) : Int := orL [cmpI a.1 b.1, cmpI a.2.1 b.2.1, cmpI a.2.2 b.2.2]
theorem cmp_or3 {a b c d e f : Int} : orL [cmpI a d, cmpI b e, cmpI c f] < 0 ↔ a < d ∨ a = d ∧ (b < e ∨ b = e ∧ c < f) := by
  simp only [orL, cmpI, List.find?_cons, List.find?_nil]
  repeat' split
  all_goals simp_all
  all_goals omega
theorem ltK (a b : Key) : ltOf cmpK a b = decide (a.1 < b.1 ∨ a.1 = b.1 ∧ a.2 < b.2) := by unfold ltOf cmpK; exact decide_eq_decide.2 cmp_or2
theorem ltS (a b : Span) : ltOf cmpS a b = decide (a.1 < b.1 ∨ a.1 = b.1 ∧ (a.2.1 < b.2.1 ∨ a.2.1 = b.2.1 ∧ a.2.2 < b.2.2)) := by unfold ltOf cmpS; exact decide_eq_decide.2 cmp_or3
theorem swoK : SWO (ltOf cmpK) where
  irrefl x := by rw [ltK]; simp
  trans x y z h1 h2 := by rw [ltK] at *; simp at *; omega
  ntrans x y z h1 h2 := by rw [ltK] at *; simp at *; omega
theorem swoS : SWO (ltOf cmpS) where
  irrefl x := by rw [ltS]; simp
  trans x y z h1 h2 := by rw [ltS] at *; simp at *; omega
  ntrans x y z h1 h2 := by rw [ltS] at *; simp at *; omega
theorem totK (x y : Key) (h1 : ltOf cmpK x y = false) (h2 : ltOf cmpK y x = false) : x = y := by
  rw [ltK] at *; simp at *; exact Prod.ext (by omega) (by omega)
theorem totS (x y : Span) (h1 : ltOf cmpS x y = false) (h2 : ltOf cmpS y x = false) : x = y := by
  rw [ltS] at *; simp at *; exact Prod.ext (by omega) (Prod.ext (by omega) (by omega))
theorem compare_keys (x y : Key) : SC Try.prog 0 30 [.agg ⟨kcells x⟩, .agg ⟨kcells y⟩] (St.empty 0) fun v _ => v = .int .i64 (cmpK x y) := (byKey_sc x.1 x.2 y.1 y.2).up fun _ _ h => h.1
theorem compare_spans (x y : Span) : SC Try.prog 0 24 [.agg ⟨scells x⟩, .agg ⟨scells y⟩] (St.empty 0) fun v _ => v = .int .i64 (cmpS x y) := (bySpan_sc x.1 x.2.1 x.2.2 y.1 y.2.1 y.2.2).up fun _ _ h => h.1
set_option maxHeartbeats 4000000 in
set_option maxRecDepth 100000 in
theorem sortK_sc (l : List Key) (h0 : l.length ≤ 1000000) : SC Try.prog 0 43 [slL 0 2 l.length, .func (.func 30) #[] #[]] ((St.empty 0).new (rowL kcells l)) fun v s' => v = .tuple #[] ∧ s'.n ≤ 400 ∧ ∀ a, a < 1 → s'.get a = some (objL [rowM kcells (l.length * 2) (srt cmpK l)] a) := by
  refine (sort_sc lay_key rfl Try.isAgg43 Try.sizeOf43 kcells_len (by decide) (fun _ => rfl) swoK totK (enters_of Try.func30 (by kernel_rfl) rfl) compare_keys l (by omega)).up fun v s' h => ?_
  obtain ⟨rfl, rfl⟩ := h
  exact ⟨rfl, Nat.le_of_ble_eq_true (by kernel_rfl), all1 (by kernel_rfl)⟩
noncomputable def sm_sortK : Small Try.prog 0 43 ((List Key)) where
  k := 1
  A := fun z9 ρ => [slL (ρ 0) 2 z9.length, .func (.func 30) #[] #[]]
  M := fun z9 ρ => objL [rowL kcells z9]
  M1 := fun z9 ρ => objL [rowM kcells (z9.length * 2) (srt cmpK z9)]
  V := fun z9 ρ => .tuple #[]
  Pre := fun z9 => (z9.length ≤ 1000000)
  ch := [0]
  N := 400
  s0 := fun z9 => ((St.empty 0).new (rowL kcells z9))
  hch := by decide
  hsame := fun x ρ => all1 (fun h => absurd (by decide) h)
  hG := rfl
  hn := fun x => rfl
  hwf := fun x => ((wf_empty 0).new _)
  hget := fun x => all1 (by kernel_rfl)
  noloop := fun x ρ => all1 (fun h => h.elim)
  inA := fun x ρ R hR => .cons (.slice (hR 0 _ (by decide))) (.cons (.func (.same _ (by intro l h; cases h)) .nil .nil) .nil)
  inM := fun x ρ R hR => all1 (OSub.arr (subs_clo (flatL_clo kcells_clo)))
  outM := fun x ρ R hR => all1 (OSub.arr (subs_clo (flatL_clo kcells_clo)))
  outV := fun x ρ R hR => .tuple .nil
  dom := by
    intro x ρ a ha
    obtain rfl := List.mem_singleton.1 ha
    exact .inr fun h => h
  sc := by
    rintro x p0
    exact sortK_sc x p0
  det := by
    rintro x ρ y σ s h hm hm'
    simp only [List.cons.injEq, and_true, Int.natCast_inj, UInt8.toNat_inj, Value.int.injEq, Value.bool.injEq, Value.string.injEq, Value.agg.injEq, Array.mk.injEq, true_and, Value.pointer.injEq, Option.some.injEq, Addr.mk.injEq, Value.func.injEq, AObj.cells.injEq, AObj.arr.injEq, slL_iff, kcells_row] at h
    have q0 : ρ 0 = σ 0 := by simp_all
    have e0 := (hm 0 (by decide)).symm.trans ((congrArg s.get q0).trans (hm' 0 (by decide)))
    simp only [objL, List.getD_cons_zero, List.getD_cons_succ, List.cons.injEq, and_true, Int.natCast_inj, UInt8.toNat_inj, Value.int.injEq, Value.bool.injEq, Value.string.injEq, Value.agg.injEq, Array.mk.injEq, true_and, Value.pointer.injEq, Option.some.injEq, Addr.mk.injEq, Value.func.injEq, AObj.cells.injEq, AObj.arr.injEq, slL_iff, kcells_row] at e0
    have q : ∀ a, a < 1 → ρ a = σ a := all1 q0
    clear hm hm'
    exact ⟨by first | rfl | (simp_all [Prod.ext_iff]; done) | exact e0, q⟩
  par := by
    intro x ρ σ h
    have h0 := h 0 (by decide)
    exact ⟨by first | rfl | simp only [h0], by first | exact fun _ _ => rfl | (intro a ha; simp only [h0])⟩
noncomputable def con_sortK : Con Try.prog 0 := sm_sortK.con
theorem con_sortK_at (l : List Key) (i0 : Nat) (h0 : l.length ≤ 1000000) (s : St) (hn : nodupB [i0] = true) (m0 : s.get i0 = some (rowL kcells l)) : con_sortK.rel [slL i0 2 l.length, .func (.func 30) #[] #[]] s (.tuple #[]) (s.set i0 (rowM kcells (l.length * 2) (srt cmpK l))) :=
  sm_sortK.at_ l [i0] s _ h0 rfl hn rfl (all1 m0) rfl rfl
set_option maxHeartbeats 4000000 in
set_option maxRecDepth 100000 in
theorem sortS_sc (l : List Span) (h0 : l.length ≤ 1000000) : SC Try.prog 0 45 [slL 0 3 l.length, .func (.func 24) #[] #[]] ((St.empty 0).new (rowL scells l)) fun v s' => v = .tuple #[] ∧ s'.n ≤ 400 ∧ ∀ a, a < 1 → s'.get a = some (objL [rowM scells (l.length * 3) (srt cmpS l)] a) := by
  refine (sort_sc lay_span rfl Try.isAgg66 Try.sizeOf66 scells_len (by decide) (fun _ => rfl) swoS totS (enters_of Try.func24 (by kernel_rfl) rfl) compare_spans l (by omega)).up fun v s' h => ?_
  obtain ⟨rfl, rfl⟩ := h
  exact ⟨rfl, Nat.le_of_ble_eq_true (by kernel_rfl), all1 (by kernel_rfl)⟩
noncomputable def sm_sortS : Small Try.prog 0 45 ((List Span)) where
  k := 1
  A := fun z9 ρ => [slL (ρ 0) 3 z9.length, .func (.func 24) #[] #[]]
  M := fun z9 ρ => objL [rowL scells z9]
  M1 := fun z9 ρ => objL [rowM scells (z9.length * 3) (srt cmpS z9)]
  V := fun z9 ρ => .tuple #[]
  Pre := fun z9 => (z9.length ≤ 1000000)
  ch := [0]
  N := 400
  s0 := fun z9 => ((St.empty 0).new (rowL scells z9))
  hch := by decide
  hsame := fun x ρ => all1 (fun h => absurd (by decide) h)
  hG := rfl
  hn := fun x => rfl
  hwf := fun x => ((wf_empty 0).new _)
  hget := fun x => all1 (by kernel_rfl)
  noloop := fun x ρ => all1 (fun h => h.elim)
  inA := fun x ρ R hR => .cons (.slice (hR 0 _ (by decide))) (.cons (.func (.same _ (by intro l h; cases h)) .nil .nil) .nil)
  inM := fun x ρ R hR => all1 (OSub.arr (subs_clo (flatL_clo scells_clo)))
  outM := fun x ρ R hR => all1 (OSub.arr (subs_clo (flatL_clo scells_clo)))
  outV := fun x ρ R hR => .tuple .nil
  dom := by
    intro x ρ a ha
    obtain rfl := List.mem_singleton.1 ha
    exact .inr fun h => h
  sc := by
    rintro x p0
    exact sortS_sc x p0
  det := by
    rintro x ρ y σ s h hm hm'
    simp only [List.cons.injEq, and_true, Int.natCast_inj, UInt8.toNat_inj, Value.int.injEq, Value.bool.injEq, Value.string.injEq, Value.agg.injEq, Array.mk.injEq, true_and, Value.pointer.injEq, Option.some.injEq, Addr.mk.injEq, Value.func.injEq, AObj.cells.injEq, AObj.arr.injEq, slL_iff, scells_row] at h
    have q0 : ρ 0 = σ 0 := by simp_all
    have e0 := (hm 0 (by decide)).symm.trans ((congrArg s.get q0).trans (hm' 0 (by decide)))
    simp only [objL, List.getD_cons_zero, List.getD_cons_succ, List.cons.injEq, and_true, Int.natCast_inj, UInt8.toNat_inj, Value.int.injEq, Value.bool.injEq, Value.string.injEq, Value.agg.injEq, Array.mk.injEq, true_and, Value.pointer.injEq, Option.some.injEq, Addr.mk.injEq, Value.func.injEq, AObj.cells.injEq, AObj.arr.injEq, slL_iff, scells_row] at e0
    have q : ∀ a, a < 1 → ρ a = σ a := all1 q0
    clear hm hm'
    exact ⟨by first | rfl | (simp_all [Prod.ext_iff]; done) | exact e0, q⟩
  par := by
    intro x ρ σ h
    have h0 := h 0 (by decide)
    exact ⟨by first | rfl | simp only [h0], by first | exact fun _ _ => rfl | (intro a ha; simp only [h0])⟩
noncomputable def con_sortS : Con Try.prog 0 := sm_sortS.con
theorem con_sortS_at (l : List Span) (i0 : Nat) (h0 : l.length ≤ 1000000) (s : St) (hn : nodupB [i0] = true) (m0 : s.get i0 = some (rowL scells l)) : con_sortS.rel [slL i0 3 l.length, .func (.func 24) #[] #[]] s (.tuple #[]) (s.set i0 (rowM scells (l.length * 3) (srt cmpS l))) :=
  sm_sortS.at_ l [i0] s _ h0 rfl hn rfl (all1 m0) rfl rfl
end Go.Proofs.Ytfpkfcdeoiofiaa