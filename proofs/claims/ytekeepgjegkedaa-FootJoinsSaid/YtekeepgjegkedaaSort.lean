/- Rows of keys and of spans are sorted. -/
import Derived.Test.YtekeepgjegkedaaFeet
import Derived.Test.YtekeepgjegkedaaAiSort
set_option linter.unusedVariables false
set_option linter.unusedSimpArgs false
set_option linter.unnecessarySimpa false
namespace Go.Proofs.Ytekeepgjegkedaa
open Go.Ai
open Go.Shelf Go.Sort Go.Proofs
def lay_key_ren : Go.Shelf.Ren := ⟨fun | 6 => 69 | 15 => 85 | 14 => 84 | 28 => 100 | 29 => 101 | 20 => 92 | 21 => 93 | 22 => 94 | 23 => 95 | 24 => 96 | 25 => 97 | 26 => 98 | 27 => 99 | 46 => 110 | 47 => 111 | 48 => 112 | 49 => 113 | 50 => 114 | 57 => 118 | n => n, fun | 22 => 22 | 24 => 30 | 25 => 69 | 3 => 3 | 39 => 101 | 0 => 0 | 53 => 128 | 55 => 75 | 4 => 4 | 46 => 121 | 45 => 120 | 50 => 125 | 5 => 5 | 9 => 9 | 66 => 135 | 70 => 138 | 76 => 142 | 77 => 143 | n => n, fun | n => n⟩
theorem lay_key : SlLaysF0.n6 Try.prog lay_key_ren := {
  mixed := by kernel_rfl,
  f6 := ⟨Try.f69.name, by kernel_rfl, Try.func69.trans (congrArg some (by kernel_rfl))⟩,
  f14 := ⟨Try.f84.name, by kernel_rfl, Try.func84.trans (congrArg some (by kernel_rfl))⟩,
  f15 := Try.func85.trans (congrArg some (by kernel_rfl)),
  f20 := ⟨Try.f92.name, by kernel_rfl, Try.func92.trans (congrArg some (by kernel_rfl))⟩,
  f21 := ⟨Try.f93.name, by kernel_rfl, Try.func93.trans (congrArg some (by kernel_rfl))⟩,
  f22 := ⟨Try.f94.name, by kernel_rfl, Try.func94.trans (congrArg some (by kernel_rfl))⟩,
  f23 := ⟨Try.f95.name, by kernel_rfl, Try.func95.trans (congrArg some (by kernel_rfl))⟩,
  f24 := ⟨Try.f96.name, by kernel_rfl, Try.func96.trans (congrArg some (by kernel_rfl))⟩,
  f25 := ⟨Try.f97.name, by kernel_rfl, Try.func97.trans (congrArg some (by kernel_rfl))⟩,
  f26 := ⟨Try.f98.name, by kernel_rfl, Try.func98.trans (congrArg some (by kernel_rfl))⟩,
  f27 := ⟨Try.f99.name, by kernel_rfl, Try.func99.trans (congrArg some (by kernel_rfl))⟩,
  f28 := Try.func100.trans (congrArg some (by kernel_rfl)),
  f29 := Try.func101.trans (congrArg some (by kernel_rfl)),
  f46 := ⟨Try.f110.name, by kernel_rfl, Try.func110.trans (congrArg some (by kernel_rfl))⟩,
  f47 := Try.func111.trans (congrArg some (by kernel_rfl)),
  f48 := Try.func112.trans (congrArg some (by kernel_rfl)),
  f49 := ⟨Try.f113.name, by kernel_rfl, Try.func113.trans (congrArg some (by kernel_rfl))⟩,
  f50 := ⟨Try.f114.name, by kernel_rfl, Try.func114.trans (congrArg some (by kernel_rfl))⟩,
  f57 := ⟨Try.f118.name, by kernel_rfl, Try.func118.trans (congrArg some (by kernel_rfl))⟩,
  t0 := Try.underlying0,
  a0 := Try.isAgg0,
  z0 := Try.sizeOf0,
  v0 := Try.zeroValue0,
  t3 := Try.underlying3,
  a3 := Try.isAgg3,
  z3 := Try.sizeOf3,
  v3 := Try.zeroValue3,
  t4 := Try.underlying4,
  a4 := Try.isAgg4,
  z4 := Try.sizeOf4,
  v4 := Try.zeroValue4,
  t5 := Try.underlying5,
  a5 := Try.isAgg5,
  z5 := Try.sizeOf5,
  v5 := Try.zeroValue5,
  t9 := Try.underlying9,
  a9 := Try.isAgg9,
  z9 := Try.sizeOf9,
  v9 := Try.zeroValue9,
  t22 := Try.underlying22,
  a22 := Try.isAgg22,
  z22 := Try.sizeOf22,
  v22 := Try.zeroValue22,
  t25 := Try.underlying69,
  a25 := Try.isAgg69,
  z25 := Try.sizeOf69,
  v25 := Try.zeroValue69,
  t39 := Try.underlying101,
  a39 := Try.isAgg101,
  z39 := Try.sizeOf101,
  v39 := Try.zeroValue101,
  t45 := Try.underlying120,
  a45 := Try.isAgg120,
  z45 := Try.sizeOf120,
  v45 := Try.zeroValue120,
  t46 := Try.underlying121,
  a46 := Try.isAgg121,
  z46 := Try.sizeOf121,
  v46 := Try.zeroValue121,
  t50 := Try.underlying125,
  a50 := Try.isAgg125,
  z50 := Try.sizeOf125,
  v50 := Try.zeroValue125,
  t53 := Try.underlying128,
  a53 := Try.isAgg128,
  z53 := Try.sizeOf128,
  v53 := Try.zeroValue128,
  t55 := Try.underlying75,
  a55 := Try.isAgg75,
  z55 := Try.sizeOf75,
  v55 := Try.zeroValue75,
  t66 := Try.underlying135,
  a66 := Try.isAgg135,
  z66 := Try.sizeOf135,
  v66 := Try.zeroValue135,
  t70 := Try.underlying138,
  a70 := Try.isAgg138,
  z70 := Try.sizeOf138,
  v70 := Try.zeroValue138,
  t76 := Try.underlying142,
  a76 := Try.isAgg142,
  z76 := Try.sizeOf142,
  v76 := Try.zeroValue142,
  t77 := Try.underlying143,
  a77 := Try.isAgg143,
  z77 := Try.sizeOf143,
  v77 := Try.zeroValue143 }
def lay_span_ren : Go.Shelf.Ren := ⟨fun | 6 => 71 | 15 => 85 | 14 => 86 | 28 => 100 | 29 => 101 | 20 => 102 | 21 => 103 | 22 => 104 | 23 => 105 | 24 => 106 | 25 => 107 | 26 => 108 | 27 => 109 | 46 => 115 | 47 => 111 | 48 => 112 | 49 => 116 | 50 => 117 | 57 => 119 | n => n, fun | 22 => 23 | 24 => 32 | 25 => 58 | 3 => 3 | 39 => 101 | 0 => 0 | 53 => 128 | 55 => 75 | 4 => 4 | 46 => 121 | 45 => 120 | 50 => 125 | 5 => 5 | 9 => 9 | 66 => 135 | 70 => 138 | 76 => 142 | 77 => 143 | n => n, fun | n => n⟩
theorem lay_span : SlLaysF0.n6 Try.prog lay_span_ren := {
  mixed := by kernel_rfl,
  f6 := ⟨Try.f71.name, by kernel_rfl, Try.func71.trans (congrArg some (by kernel_rfl))⟩,
  f14 := ⟨Try.f86.name, by kernel_rfl, Try.func86.trans (congrArg some (by kernel_rfl))⟩,
  f15 := Try.func85.trans (congrArg some (by kernel_rfl)),
  f20 := ⟨Try.f102.name, by kernel_rfl, Try.func102.trans (congrArg some (by kernel_rfl))⟩,
  f21 := ⟨Try.f103.name, by kernel_rfl, Try.func103.trans (congrArg some (by kernel_rfl))⟩,
  f22 := ⟨Try.f104.name, by kernel_rfl, Try.func104.trans (congrArg some (by kernel_rfl))⟩,
  f23 := ⟨Try.f105.name, by kernel_rfl, Try.func105.trans (congrArg some (by kernel_rfl))⟩,
  f24 := ⟨Try.f106.name, by kernel_rfl, Try.func106.trans (congrArg some (by kernel_rfl))⟩,
  f25 := ⟨Try.f107.name, by kernel_rfl, Try.func107.trans (congrArg some (by kernel_rfl))⟩,
  f26 := ⟨Try.f108.name, by kernel_rfl, Try.func108.trans (congrArg some (by kernel_rfl))⟩,
  f27 := ⟨Try.f109.name, by kernel_rfl, Try.func109.trans (congrArg some (by kernel_rfl))⟩,
  f28 := Try.func100.trans (congrArg some (by kernel_rfl)),
  f29 := Try.func101.trans (congrArg some (by kernel_rfl)),
  f46 := ⟨Try.f115.name, by kernel_rfl, Try.func115.trans (congrArg some (by kernel_rfl))⟩,
  f47 := Try.func111.trans (congrArg some (by kernel_rfl)),
  f48 := Try.func112.trans (congrArg some (by kernel_rfl)),
  f49 := ⟨Try.f116.name, by kernel_rfl, Try.func116.trans (congrArg some (by kernel_rfl))⟩,
  f50 := ⟨Try.f117.name, by kernel_rfl, Try.func117.trans (congrArg some (by kernel_rfl))⟩,
  f57 := ⟨Try.f119.name, by kernel_rfl, Try.func119.trans (congrArg some (by kernel_rfl))⟩,
  t0 := Try.underlying0,
  a0 := Try.isAgg0,
  z0 := Try.sizeOf0,
  v0 := Try.zeroValue0,
  t3 := Try.underlying3,
  a3 := Try.isAgg3,
  z3 := Try.sizeOf3,
  v3 := Try.zeroValue3,
  t4 := Try.underlying4,
  a4 := Try.isAgg4,
  z4 := Try.sizeOf4,
  v4 := Try.zeroValue4,
  t5 := Try.underlying5,
  a5 := Try.isAgg5,
  z5 := Try.sizeOf5,
  v5 := Try.zeroValue5,
  t9 := Try.underlying9,
  a9 := Try.isAgg9,
  z9 := Try.sizeOf9,
  v9 := Try.zeroValue9,
  t22 := Try.underlying23,
  a22 := Try.isAgg23,
  z22 := Try.sizeOf23,
  v22 := Try.zeroValue23,
  t25 := Try.underlying58,
  a25 := Try.isAgg58,
  z25 := Try.sizeOf58,
  v25 := Try.zeroValue58,
  t39 := Try.underlying101,
  a39 := Try.isAgg101,
  z39 := Try.sizeOf101,
  v39 := Try.zeroValue101,
  t45 := Try.underlying120,
  a45 := Try.isAgg120,
  z45 := Try.sizeOf120,
  v45 := Try.zeroValue120,
  t46 := Try.underlying121,
  a46 := Try.isAgg121,
  z46 := Try.sizeOf121,
  v46 := Try.zeroValue121,
  t50 := Try.underlying125,
  a50 := Try.isAgg125,
  z50 := Try.sizeOf125,
  v50 := Try.zeroValue125,
  t53 := Try.underlying128,
  a53 := Try.isAgg128,
  z53 := Try.sizeOf128,
  v53 := Try.zeroValue128,
  t55 := Try.underlying75,
  a55 := Try.isAgg75,
  z55 := Try.sizeOf75,
  v55 := Try.zeroValue75,
  t66 := Try.underlying135,
  a66 := Try.isAgg135,
  z66 := Try.sizeOf135,
  v66 := Try.zeroValue135,
  t70 := Try.underlying138,
  a70 := Try.isAgg138,
  z70 := Try.sizeOf138,
  v70 := Try.zeroValue138,
  t76 := Try.underlying142,
  a76 := Try.isAgg142,
  z76 := Try.sizeOf142,
  v76 := Try.zeroValue142,
  t77 := Try.underlying143,
  a77 := Try.isAgg143,
  z77 := Try.sizeOf143,
  v77 := Try.zeroValue143 }
def cmpK (a b : Key) : Int := orL [cmpI a.1 b.1, cmpI a.2 b.2]
def cmpS (a b : Span) : Int := orL [cmpI a.1 b.1, cmpI a.2.1 b.2.1, cmpI a.2.2 b.2.2]
theorem cmp_or3 {a b c d e f : Int} : orL [cmpI a d, cmpI b e, cmpI c f] < 0 ↔ a < d ∨ a = d ∧ (b < e ∨ b = e ∧ c < f) := by
  simp only [orL, cmpI, List.find?_cons, List.find?_nil]
  repeat' split
  all_goals simp_all
  all_goals omega
theorem ltK (a b : Key) : ltOf cmpK a b = decide (a.1 < b.1 ∨ a.1 = b.1 ∧ a.2 < b.2) := by unfold ltOf cmpK; exact decide_eq_decide.2 cmp_or2
theorem ltS (a b : Span) : ltOf cmpS a b = decide (a.1 < b.1 ∨ a.1 = b.1 ∧ (a.2.1 < b.2.1 ∨ a.2.1 = b.2.1 ∧ a.2.2 < b.2.2)) := by unfold ltOf cmpS; exact decide_eq_decide.2 cmp_or3
theorem swoK : SWO (ltOf cmpK) where
  irrefl x := by rw [ltK]; simp
  trans x y z h1 h2 := by rw [ltK] at *; simp at *; omega
  ntrans x y z h1 h2 := by rw [ltK] at *; simp at *; omega
theorem swoS : SWO (ltOf cmpS) where
  irrefl x := by rw [ltS]; simp
  trans x y z h1 h2 := by rw [ltS] at *; simp at *; omega
  ntrans x y z h1 h2 := by rw [ltS] at *; simp at *; omega
theorem totK (x y : Key) (h1 : ltOf cmpK x y = false) (h2 : ltOf cmpK y x = false) : x = y := by
  rw [ltK] at *; simp at *; exact Prod.ext (by omega) (by omega)
theorem totS (x y : Span) (h1 : ltOf cmpS x y = false) (h2 : ltOf cmpS y x = false) : x = y := by
  rw [ltS] at *; simp at *; exact Prod.ext (by omega) (Prod.ext (by omega) (by omega))
theorem compare_keys (x y : Key) : SC Try.prog 0 49 [.agg ⟨kcells x⟩, .agg ⟨kcells y⟩] (St.empty 0) fun v _ => v = .int .i64 (cmpK x y) := (byKey_sc x.1 x.2 y.1 y.2).up fun _ _ h => h.1
theorem compare_spans (x y : Span) : SC Try.prog 0 35 [.agg ⟨scells x⟩, .agg ⟨scells y⟩] (St.empty 0) fun v _ => v = .int .i64 (cmpS x y) := (bySpan_sc x.1 x.2.1 x.2.2 y.1 y.2.1 y.2.2).up fun _ _ h => h.1
set_option maxHeartbeats 4000000 in
set_option maxRecDepth 100000 in
theorem sortK_sc (l : List Key) (h0 : l.length ≤ 1000000) : SC Try.prog 0 69 [slL 0 2 l.length, .func (.func 49) #[] #[]] ((St.empty 0).new (rowL kcells l)) fun v s' => v = .tuple #[] ∧ s'.n ≤ 400 ∧ ∀ a, a < 1 → s'.get a = some (objL [rowM kcells (l.length * 2) (srt cmpK l)] a) := by
  refine (sort_sc lay_key rfl Try.isAgg30 Try.sizeOf30 kcells_len (by decide) (fun _ => rfl) swoK totK (enters_of Try.func49 (by kernel_rfl) rfl) compare_keys l (by omega)).up fun v s' h => ?_
  obtain ⟨rfl, rfl⟩ := h
  exact ⟨rfl, Nat.le_of_ble_eq_true (by kernel_rfl), all1 (by kernel_rfl)⟩
noncomputable def sm_sortK : Small Try.prog 0 69 ((List Key)) where
  k := 1
  A := fun z9 ρ => [slL (ρ 0) 2 z9.length, .func (.func 49) #[] #[]]
  M := fun z9 ρ => objL [rowL kcells z9]
  M1 := fun z9 ρ => objL [rowM kcells (z9.length * 2) (srt cmpK z9)]
  V := fun z9 ρ => .tuple #[]
  Pre := fun z9 => (z9.length ≤ 1000000)
  ch := [0]
  N := 400
  s0 := fun z9 => ((St.empty 0).new (rowL kcells z9))
  hch := by decide
  hsame := fun x ρ => all1 (fun h => absurd (by decide) h)
  hG := rfl
  hn := fun x => rfl
  hwf := fun x => ((wf_empty 0).new _)
  hget := fun x => all1 (by kernel_rfl)
  noloop := fun x ρ => all1 (fun h => h.elim)
  inA := fun x ρ R hR => .cons (.slice (hR 0 _ (by decide))) (.cons (.func (.same _ (by intro l h; cases h)) .nil .nil) .nil)
  inM := fun x ρ R hR => all1 (OSub.arr (subs_clo (flatL_clo kcells_clo)))
  outM := fun x ρ R hR => all1 (OSub.arr (subs_clo (flatL_clo kcells_clo)))
  outV := fun x ρ R hR => .tuple .nil
  dom := by
    intro x ρ a ha
    obtain rfl := List.mem_singleton.1 ha
    exact .inr fun h => h
  sc := by
    rintro x p0
    exact sortK_sc x p0
  det := by
    rintro x ρ y σ s h hm hm'
    simp only [List.cons.injEq, and_true, Int.natCast_inj, UInt8.toNat_inj, Value.int.injEq, Value.bool.injEq, Value.string.injEq, Value.agg.injEq, Array.mk.injEq, true_and, Value.pointer.injEq, Option.some.injEq, Addr.mk.injEq, Value.func.injEq, AObj.cells.injEq, AObj.arr.injEq, slL_iff, kcells_row] at h
    have q0 : ρ 0 = σ 0 := by simp_all
    have e0 := (hm 0 (by decide)).symm.trans ((congrArg s.get q0).trans (hm' 0 (by decide)))
    simp only [objL, List.getD_cons_zero, List.getD_cons_succ, List.cons.injEq, and_true, Int.natCast_inj, UInt8.toNat_inj, Value.int.injEq, Value.bool.injEq, Value.string.injEq, Value.agg.injEq, Array.mk.injEq, true_and, Value.pointer.injEq, Option.some.injEq, Addr.mk.injEq, Value.func.injEq, AObj.cells.injEq, AObj.arr.injEq, slL_iff, kcells_row] at e0
    have q : ∀ a, a < 1 → ρ a = σ a := all1 q0
    clear hm hm'
    exact ⟨by first | rfl | (simp_all [Prod.ext_iff]; done) | exact e0, q⟩
  par := by
    intro x ρ σ h
    have h0 := h 0 (by decide)
    exact ⟨by first | rfl | simp only [h0], by first | exact fun _ _ => rfl | (intro a ha; simp only [h0])⟩
noncomputable def con_sortK : Con Try.prog 0 := sm_sortK.con
theorem con_sortK_at (l : List Key) (i0 : Nat) (h0 : l.length ≤ 1000000) (s : St) (hn : nodupB [i0] = true) (m0 : s.get i0 = some (rowL kcells l)) : con_sortK.rel [slL i0 2 l.length, .func (.func 49) #[] #[]] s (.tuple #[]) (s.set i0 (rowM kcells (l.length * 2) (srt cmpK l))) :=
  sm_sortK.at_ l [i0] s _ h0 rfl hn rfl (all1 m0) rfl rfl
set_option maxHeartbeats 4000000 in
set_option maxRecDepth 100000 in
theorem sortS_sc (l : List Span) (h0 : l.length ≤ 1000000) : SC Try.prog 0 71 [slL 0 3 l.length, .func (.func 35) #[] #[]] ((St.empty 0).new (rowL scells l)) fun v s' => v = .tuple #[] ∧ s'.n ≤ 400 ∧ ∀ a, a < 1 → s'.get a = some (objL [rowM scells (l.length * 3) (srt cmpS l)] a) := by
  refine (sort_sc lay_span rfl Try.isAgg32 Try.sizeOf32 scells_len (by decide) (fun _ => rfl) swoS totS (enters_of Try.func35 (by kernel_rfl) rfl) compare_spans l (by omega)).up fun v s' h => ?_
  obtain ⟨rfl, rfl⟩ := h
  exact ⟨rfl, Nat.le_of_ble_eq_true (by kernel_rfl), all1 (by kernel_rfl)⟩
noncomputable def sm_sortS : Small Try.prog 0 71 ((List Span)) where
  k := 1
  A := fun z9 ρ => [slL (ρ 0) 3 z9.length, .func (.func 35) #[] #[]]
  M := fun z9 ρ => objL [rowL scells z9]
  M1 := fun z9 ρ => objL [rowM scells (z9.length * 3) (srt cmpS z9)]
  V := fun z9 ρ => .tuple #[]
  Pre := fun z9 => (z9.length ≤ 1000000)
  ch := [0]
  N := 400
  s0 := fun z9 => ((St.empty 0).new (rowL scells z9))
  hch := by decide
  hsame := fun x ρ => all1 (fun h => absurd (by decide) h)
  hG := rfl
  hn := fun x => rfl
  hwf := fun x => ((wf_empty 0).new _)
  hget := fun x => all1 (by kernel_rfl)
  noloop := fun x ρ => all1 (fun h => h.elim)
  inA := fun x ρ R hR => .cons (.slice (hR 0 _ (by decide))) (.cons (.func (.same _ (by intro l h; cases h)) .nil .nil) .nil)
  inM := fun x ρ R hR => all1 (OSub.arr (subs_clo (flatL_clo scells_clo)))
  outM := fun x ρ R hR => all1 (OSub.arr (subs_clo (flatL_clo scells_clo)))
  outV := fun x ρ R hR => .tuple .nil
  dom := by
    intro x ρ a ha
    obtain rfl := List.mem_singleton.1 ha
    exact .inr fun h => h
  sc := by
    rintro x p0
    exact sortS_sc x p0
  det := by
    rintro x ρ y σ s h hm hm'
    simp only [List.cons.injEq, and_true, Int.natCast_inj, UInt8.toNat_inj, Value.int.injEq, Value.bool.injEq, Value.string.injEq, Value.agg.injEq, Array.mk.injEq, true_and, Value.pointer.injEq, Option.some.injEq, Addr.mk.injEq, Value.func.injEq, AObj.cells.injEq, AObj.arr.injEq, slL_iff, scells_row] at h
    have q0 : ρ 0 = σ 0 := by simp_all
    have e0 := (hm 0 (by decide)).symm.trans ((congrArg s.get q0).trans (hm' 0 (by decide)))
    simp only [objL, List.getD_cons_zero, List.getD_cons_succ, List.cons.injEq, and_true, Int.natCast_inj, UInt8.toNat_inj, Value.int.injEq, Value.bool.injEq, Value.string.injEq, Value.agg.injEq, Array.mk.injEq, true_and, Value.pointer.injEq, Option.some.injEq, Addr.mk.injEq, Value.func.injEq, AObj.cells.injEq, AObj.arr.injEq, slL_iff, scells_row] at e0
    have q : ∀ a, a < 1 → ρ a = σ a := all1 q0
    clear hm hm'
    exact ⟨by first | rfl | (simp_all [Prod.ext_iff]; done) | exact e0, q⟩
  par := by
    intro x ρ σ h
    have h0 := h 0 (by decide)
    exact ⟨by first | rfl | simp only [h0], by first | exact fun _ _ => rfl | (intro a ha; simp only [h0])⟩
noncomputable def con_sortS : Con Try.prog 0 := sm_sortS.con
theorem con_sortS_at (l : List Span) (i0 : Nat) (h0 : l.length ≤ 1000000) (s : St) (hn : nodupB [i0] = true) (m0 : s.get i0 = some (rowL scells l)) : con_sortS.rel [slL i0 3 l.length, .func (.func 35) #[] #[]] s (.tuple #[]) (s.set i0 (rowM scells (l.length * 3) (srt cmpS l))) :=
  sm_sortS.at_ l [i0] s _ h0 rfl hn rfl (all1 m0) rfl rfl
end Go.Proofs.Ytekeepgjegkedaa