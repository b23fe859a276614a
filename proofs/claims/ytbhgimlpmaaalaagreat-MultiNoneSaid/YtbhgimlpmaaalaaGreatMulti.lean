/- For every record and every number MultiNone answers true and leaves its arguments as they were. No condition. -/
import Derived.Test.YtbhgimlpmaaalaaGreatLaw
namespace Go.Proofs.YtbhgimlpmaaalaaGreat
open Go.ChangeShapes Go.WideShapes Go.ChangeAt Go.RowKit Go.Ai
theorem Tryz.own : ownKnob Tryz.prog.godebug = none := by kernel_rfl
theorem Tryz.laidOut : laidOutB Tryz.prog = true := by kernel_rfl
theorem eight {cs : Array Value} (h : cs.size = 8) : ∃ c0 c1 c2 c3 c4 c5 c6 c7, cs = #[c0, c1, c2, c3, c4, c5, c6, c7] := by
  obtain ⟨l⟩ := cs
  match l, h with
  | [c0, c1, c2, c3, c4, c5, c6, c7], _ => exact ⟨c0, c1, c2, c3, c4, c5, c6, c7, rfl⟩
theorem c3_ : Tryz.prog.cellsOf 3 = 1 := by kernel_rfl
theorem c4_ : Tryz.prog.cellsOf 4 = 1 := by kernel_rfl
theorem c22_ : Tryz.prog.cellsOf 22 = 1 := by kernel_rfl
theorem c24_ : Tryz.prog.cellsOf 24 = 2 := by kernel_rfl
theorem c25_ : Tryz.prog.cellsOf 25 = 1 := by kernel_rfl
theorem c26_ : Tryz.prog.cellsOf 26 = 1 := by kernel_rfl
theorem c28_ : Tryz.prog.cellsOf 28 = 3 := by kernel_rfl
theorem c29_ : Tryz.prog.cellsOf 29 = 1 := by kernel_rfl
theorem c31_ : Tryz.prog.cellsOf 31 = 8 := by kernel_rfl
theorem c175_ : Tryz.prog.cellsOf 175 = 6 := by kernel_rfl
theorem c144_ : Tryz.prog.cellsOf 144 = 2 := by kernel_rfl
theorem c178_ : Tryz.prog.cellsOf 178 = 3 := by kernel_rfl
theorem c146_ : Tryz.prog.cellsOf 146 = 4 := by kernel_rfl
set_option maxRecDepth 100000 in
theorem multiNone_lifted (os : Os) (started : os.Started) (H : Type) (enc : TypeId × Value → H) :
    ReturnsInHanded {} Tryz.checked os 3 .any (Rows.multiNoneSpec.pre6 enc Tryz.prog Tryz.f3 Rows.multiNoneRow.domain false) (Rows.multiNoneSpec.post enc Tryz.prog Tryz.f3 false true false false) := by
  refine returnsInHanded_of_change (C := Tryz.checked) Tryz.own started (by kernel_rfl) Tryz.func3
    (ChangeSpec.witness6 (enc := enc) (C := Tryz.checked) false ⟨#[], #[.agg #[.int .i64 0, .bool false, .int .i64 0, .slice none 0 0, .slice none 0 0, .slice none 0 0, .slice none 0 0, .slice none 0 0], .int .i64 0], []⟩ 8 (by kernel_rfl) (by kernel_rfl) (by kernel_rfl) (by kernel_rfl)) ?_
  intro W base args ds gs before hval0 hW hcnd _
  have hval : ∀ (j : Nat) t v, Tryz.f3.params[j]? = some t → args[j]? = some v → Value.okWide Tryz.prog W .any base t v := hval0
  have hW' := hW
  obtain ⟨p, q, hA0, hV, rfl, hfz, hnd⟩ := hW
  have hA : DataW.TrodAll enc Tryz.prog W 0 (fun _ => true) true Tryz.f3.params.toList args.toList ds p := hA0
  rw [Tryz.params3] at hA hval
  obtain ⟨v0, v1, d0, d1, p0, p1, rfl, rfl, rfl, h0, h1⟩ := trodAll_two hA
  obtain ⟨rfl, rfl⟩ := trodVars_none hV
  obtain ⟨n, rfl, rfl, rfl, _⟩ := open_int Tryz.underlying3 (hval 1 3 v1 rfl rfl) h1
  obtain ⟨cs, rfl, hsz⟩ := okWide_struct Tryz.underlying31 (hval 0 31 v0 rfl rfl)
  have hpos := pos_of_wide Tryz.underlying31 (hval 0 31 _ rfl rfl)
  obtain ⟨fuel, hf⟩ := h0
  rw [c31_] at hsz
  obtain ⟨c0, c1, c2, c3, c4, c5, c6, c7, rfl⟩ := eight hsz
  have hp : ∀ c, c ∈ [c0, c1, c2, c3, c4, c5, c6, c7] → (0 < W.heap.size ∨ ∀ v ∈ [c], ∀ a l k, v ≠ .slice (some a) l k) := by
    intro c hc
    rcases hpos with h | h
    · exact .inl h
    · refine .inr fun v hv => ?_
      obtain rfl := List.mem_singleton.1 hv
      exact h v hc
  obtain ⟨_, _, g0⟩ := trod_field 0 Tryz.underlying31 rfl c3_ hf
  have g0 : DataW.trod enc Tryz.prog W 0 (fun _ => true) true _ 3 [c0] = some _ := g0
  obtain ⟨_, _, g1⟩ := trod_field 1 Tryz.underlying31 rfl c4_ hf
  have g1 : DataW.trod enc Tryz.prog W 0 (fun _ => true) true _ 4 [c1] = some _ := g1
  obtain ⟨_, _, g2⟩ := trod_field 2 Tryz.underlying31 rfl c24_ hf
  have g2 : DataW.trod enc Tryz.prog W 0 (fun _ => true) true _ 24 [c2, c3] = some _ := g2
  obtain ⟨_, _, g3⟩ := trod_field 3 Tryz.underlying31 rfl c28_ hf
  have g3 : DataW.trod enc Tryz.prog W 0 (fun _ => true) true _ 28 [c4, c5, c6] = some _ := g3
  obtain ⟨_, _, g4⟩ := trod_field 4 Tryz.underlying31 rfl c29_ hf
  have g4 : DataW.trod enc Tryz.prog W 0 (fun _ => true) true _ 29 [c7] = some _ := g4
  obtain ⟨_, _, g20⟩ := trod_field 0 Tryz.underlying24 rfl c3_ g2
  have g20 : DataW.trod enc Tryz.prog W 0 (fun _ => true) true _ 3 [c2] = some _ := g20
  obtain ⟨_, _, g21⟩ := trod_field 1 Tryz.underlying24 rfl c22_ g2
  have g21 : DataW.trod enc Tryz.prog W 0 (fun _ => true) true _ 22 [c3] = some _ := g21
  obtain ⟨_, _, g30⟩ := trod_field 0 Tryz.underlying28 rfl c25_ g3
  have g30 : DataW.trod enc Tryz.prog W 0 (fun _ => true) true _ 25 [c4] = some _ := g30
  obtain ⟨_, _, g31⟩ := trod_field 1 Tryz.underlying28 rfl c26_ g3
  have g31 : DataW.trod enc Tryz.prog W 0 (fun _ => true) true _ 26 [c5] = some _ := g31
  obtain ⟨_, _, g32⟩ := trod_field 2 Tryz.underlying28 rfl c25_ g3
  have g32 : DataW.trod enc Tryz.prog W 0 (fun _ => true) true _ 25 [c6] = some _ := g32
  obtain ⟨seq, e_seq, _⟩ := DataW.trod_int Tryz.underlying3 g0
  obtain rfl := List.head_eq_of_cons_eq e_seq
  obtain ⟨val, e_val, _⟩ := DataW.trod_bool Tryz.underlying4 g1
  obtain rfl := List.head_eq_of_cons_eq e_val
  obtain ⟨fuel, e_fuel, _⟩ := DataW.trod_int Tryz.underlying3 g20
  obtain rfl := List.head_eq_of_cons_eq e_fuel
  obtain ⟨β1, a1, n1, z1, r1, m1, w1, v1, _, l1, p1, x1, s1⟩ := lay_flat (n := 5) Tryz.underlying22 (by rw [c175_]; omega) (by kernel_rfl) g21 (hp c3 (by simp)) β00 _ (sr00 _ W) (wf_empty 0) (fun i h => absurd h (dom00 i))
  rw [c175_] at l1 s1
  obtain ⟨β2, a2, n2, z2, r2, m2, w2, v2, _, l2, p2, x2, s2⟩ := lay_flat (n := 5) Tryz.underlying25 (by rw [c144_]; omega) (by kernel_rfl) g30 (hp c4 (by simp)) β1 _ (w1.sr) (w1.wf) (w1.shut)
  rw [c144_] at l2 s2
  obtain ⟨β3, a3, n3, z3, r3, m3, w3, v3, _, l3, p3, x3, s3⟩ := lay_flat (n := 5) Tryz.underlying26 (by rw [c178_]; omega) (by kernel_rfl) g31 (hp c5 (by simp)) β2 _ (w2.sr) (w2.wf) (w2.shut)
  rw [c178_] at l3 s3
  obtain ⟨β4, a4, n4, z4, r4, m4, w4, v4, _, l4, p4, x4, s4⟩ := lay_flat (n := 5) Tryz.underlying25 (by rw [c144_]; omega) (by kernel_rfl) g32 (hp c6 (by simp)) β3 _ (w3.sr) (w3.wf) (w3.shut)
  rw [c144_] at l4 s4
  obtain ⟨β5, a5, n5, z5, r5, m5, w5, v5, _, l5, p5, x5, s5⟩ := lay_flat (n := 5) Tryz.underlying29 (by rw [c146_]; omega) (by kernel_rfl) g4 (hp c7 (by simp)) β4 _ (w4.sr) (w4.wf) (w4.shut)
  rw [c146_] at l5 s5
  have hrec : VRs β5 (recCells seq val fuel a1 a2 a3 a4 a5 n1 n2 n3 n4 n5 z1 z2 z3 z4 z5) [.int .i64 seq, .bool val, .int .i64 fuel, c3, c4, c5, c6, c7] :=
    .cons (.int _ _) (.cons (.bool _) (.cons (.int _ _) (((((v1.mono ((w2.trans w3).trans (w4.trans w5)).le).append (v2.mono (w3.trans (w4.trans w5)).le)).append (v3.mono (w4.trans w5).le)).append (v4.mono w5.le)).append v5)))
  have hcalls := calls_sc (args' := #[.agg #[.int .i64 seq, .bool val, .int .i64 fuel, c3, c4, c5, c6, c7], .int .i64 n]) w5.sr w5.wf w5.shut (.cons (.agg hrec) (.cons (.int _ _) .nil)) (law_sc s1 s2 s3 s4 s5 l1 l2 l3 l4 l5 p1 p2 p3 p4 p5 n)
  refine hcalls.mono fun e W' ⟨he, hw⟩ => ?_
  subst he
  exact ⟨_, rfl, post_true (tb := 4) hW' rfl hw Tryz.laidOut (by kernel_rfl) (by kernel_rfl) (by kernel_rfl) rfl rfl rfl⟩

theorem multiNone_holds : Rows.MultiNoneSaid :=
  OpenClaim.holds_of_wide 3 Tryz.f3 rfl rfl rfl rfl rfl rfl rfl ⟨rfl, rfl, rfl, rfl, rfl⟩ rfl rfl rfl rfl rfl (by kernel_rfl) Tryz.func3 (by kernel_rfl)
    (of_decide_eq_true (by kernel_rfl)) (by unfold Func.isWrapper; first | (rw [if_pos (by decide +kernel)]; kernel_rfl) | (rw [if_neg (by decide +kernel)]; exact ⟨rfl, rfl⟩))
    (fun os started H enc _ => multiNone_lifted os started H enc)
end Go.Proofs.YtbhgimlpmaaalaaGreat
