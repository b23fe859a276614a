/-
  Frames slot by slot; a loop's counter; records of the input.
-/
import Derived.Test.YtfnbgfmmlgbfjaaGreatDoorAiRows
namespace Go.Ai

section
variable {P : Program} {G : Nat} {fid : FuncId} {c : Code} {e e2 : Env} {s : St} {Q : Out → Env → St → Prop}
theorem er_same {β : Bij} {t : Array Value} (hn : e2.n = e.n) (hg : ∀ j, j < e.n → e2.get j = e.get j) (h : ER β e t) : ER β e2 t :=
  ⟨h.size.trans hn.symm, fun j hj => by rw [hg j (hn ▸ hj)]; exact h.at_ j (hn ▸ hj)⟩
/-- the frame told anew, slot by slot -/
theorem sk_same (e2 : Env) (hn : e2.n = e.n) (hg : ∀ j, j < e.n → e2.get j = e.get j) (h : SK P G fid c e2 s Q) : SK P G fid c e s Q :=
  fun hw β own w b t ds n0 h1 h2 h3 h4 h5 h6 h7 h8 h9 => h hw β own w b t ds n0 h1 h2 h3 (er_same hn hg h4) h5 h6 h7 h8 h9
/-- the same of the frame behind -/
theorem SK.norm {Q0 : Out → Env → St → Prop} (h : SK P G fid c e s Q0) (hq : ∀ o e' s', Q0 o e' s' → ∃ e2 : Env, e2.n = e'.n ∧ (∀ j, j < e'.n → e2.get j = e'.get j) ∧ Q o e2 s') : SK P G fid c e s Q := by
  intro hw β own w b t ds n0 h1 h2 h3 h4 h5 h6 h7 h8 h9
  obtain ⟨o, e', s', β', own', w', t', ds', q1, q2, q3, q4, q5, q6, q7, q8⟩ := h hw β own w b t ds n0 h1 h2 h3 h4 h5 h6 h7 h8 h9
  obtain ⟨e2, r1, r2, r3⟩ := hq o e' s' q1
  exact ⟨o, e2, s', β', own', w', t', ds', r3, q2, q3, q4, q5, er_same r1 r2 q6, q7, q8⟩
end

theorem wrap_next {i : Nat} (h : i ≤ 1000000) : IntKind.wrap .i64 ((i : Int) + 1) = ((i + 1 : Nat) : Int) := by
  unfold IntKind.wrap
  have h1 : ((i : Int) + 1) % (2 ^ (IntKind.i64).bits : Int) = (i : Int) + 1 := by
    show ((i : Int) + 1) % (2 ^ 64 : Int) = (i : Int) + 1
    omega
  simp only [h1]
  rw [if_neg]
  · omega
  · intro hx
    simp only [Bool.and_eq_true, decide_eq_true_eq] at hx
    have h2 : (2 ^ 63 : Int) ≤ (i : Int) + 1 := hx.2
    omega

/-- a record of the input: three numbers, five slices -/
structure Rc where
  seq : Int
  val : Bool
  fuel : Int
  a1 : Option Addr
  a2 : Option Addr
  a3 : Option Addr
  a4 : Option Addr
  a5 : Option Addr
  n1 : Nat
  n2 : Nat
  n3 : Nat
  n4 : Nat
  n5 : Nat
  z1 : Nat
  z2 : Nat
  z3 : Nat
  z4 : Nat
  z5 : Nat
def recCells (seq : Int) (val : Bool) (fuel : Int) (a1 a2 a3 a4 a5 : Option Addr) (n1 n2 n3 n4 n5 z1 z2 z3 z4 z5 : Nat) : List Value :=
  [.int .i64 seq, .bool val, .int .i64 fuel, .slice a1 n1 z1, .slice a2 n2 z2, .slice a3 n3 z3, .slice a4 n4 z4, .slice a5 n5 z5]
def Rc.cells (r : Rc) : List Value := recCells r.seq r.val r.fuel r.a1 r.a2 r.a3 r.a4 r.a5 r.n1 r.n2 r.n3 r.n4 r.n5 r.z1 r.z2 r.z3 r.z4 r.z5
def Rc.small (r : Rc) : List Value := recCells r.seq r.val r.fuel (Ai.small 1 r.a1) (Ai.small 2 r.a2) (Ai.small 3 r.a3) (Ai.small 4 r.a4) (Ai.small 5 r.a5) r.n1 r.n2 r.n3 r.n4 r.n5 r.z1 r.z2 r.z3 r.z4 r.z5
def Rc.Ok (g : Nat → Option AObj) (r : Rc) : Prop := SlotG g 6 r.a1 r.n1 r.z1 ∧ SlotG g 2 r.a2 r.n2 r.z2 ∧ SlotG g 3 r.a3 r.n3 r.z3 ∧ SlotG g 2 r.a4 r.n4 r.z4 ∧ SlotG g 4 r.a5 r.n5 r.z5
def bigRec (n1 n2 n3 n4 n5 : Nat) : Bool := decide ((n1 : Int) > 33) || decide ((n2 : Int) > 12) || decide ((n3 : Int) > 12) || decide ((n4 : Int) > 12) || decide ((n5 : Int) > 14)
def Rc.big (r : Rc) : Bool := bigRec r.n1 r.n2 r.n3 r.n4 r.n5
theorem Rc.big_not {r : Rc} (h : r.big = false) : r.n1 ≤ 33 ∧ r.n2 ≤ 12 ∧ r.n3 ≤ 12 ∧ r.n4 ≤ 12 ∧ r.n5 ≤ 14 := by
  unfold Rc.big bigRec at h
  simp only [Bool.or_eq_false_iff, decide_eq_false_iff_not] at h
  omega

/-- is one of the records large, or are there more than so many? -/
def tailV : Nat → List Rc → Bool
  | _, [] => false
  | i, r :: t => (decide ((i : Int) > 10) || r.big) || tailV (i + 1) t
theorem tailV_not : ∀ {t : List Rc} {i : Nat}, tailV i t = false → (∀ r ∈ t, r.big = false) ∧ (t = [] ∨ i + t.length ≤ 11)
  | [], _, _ => ⟨(fun _ h => by cases h), .inl rfl⟩
  | r :: t, i, h => by
    simp only [tailV, Bool.or_eq_false_iff, decide_eq_false_iff_not] at h
    obtain ⟨h1, h2⟩ := tailV_not h.2
    refine ⟨fun x hx => ?_, .inr ?_⟩
    · rcases List.mem_cons.1 hx with rfl | hx
      · exact h.1.2
      · exact h1 x hx
    · rcases h2 with rfl | h2
      · have := h.1.1
        simp; omega
      · rw [List.length_cons]; omega

/-- a record's rows under the numbers 1 to 5 -/
theorem Rc.rows {g : Nat → Option AObj} {r : Rc} (h : r.Ok g) {il ml : Nat} {rl : List Value} (hl : g il = some (.arr rl ml true)) :
    ∃ (ρ : Nat → Nat) (q : Nat → List Value) (mv : Nat → Nat), ρ 0 = il ∧ (∀ j, 1 ≤ j → j < 6 → ∃ row, g (ρ j) = some (.arr row (mv j) true) ∧ ∀ R, Subs R row (q j)) ∧
      SlotS 1 6 (mv 1) (q 1) r.n1 r.z1 (Ai.small 1 r.a1) ∧ SlotS 2 2 (mv 2) (q 2) r.n2 r.z2 (Ai.small 2 r.a2) ∧ SlotS 3 3 (mv 3) (q 3) r.n3 r.z3 (Ai.small 3 r.a3) ∧ SlotS 4 2 (mv 4) (q 4) r.n4 r.z4 (Ai.small 4 r.a4) ∧ SlotS 5 4 (mv 5) (q 5) r.n5 r.z5 (Ai.small 5 r.a5) ∧
      ∀ R : Nat → Option Nat → Nat → Prop, (∀ j, 1 ≤ j → j < 6 → ∀ sp, R (ρ j) sp j) → Subs R r.cells r.small := by
  obtain ⟨h1, h2, h3, h4, h5⟩ := h
  obtain ⟨i1, row1, m1, q1, g1, s1, t1, u1⟩ := slot_small 1 h1 hl
  obtain ⟨i2, row2, m2, q2, g2, s2, t2, u2⟩ := slot_small 2 h2 hl
  obtain ⟨i3, row3, m3, q3, g3, s3, t3, u3⟩ := slot_small 3 h3 hl
  obtain ⟨i4, row4, m4, q4, g4, s4, t4, u4⟩ := slot_small 4 h4 hl
  obtain ⟨i5, row5, m5, q5, g5, s5, t5, u5⟩ := slot_small 5 h5 hl
  refine ⟨fun j => match j with | 0 => il | 1 => i1 | 2 => i2 | 3 => i3 | 4 => i4 | _ => i5, fun j => match j with | 1 => q1 | 2 => q2 | 3 => q3 | 4 => q4 | _ => q5,
    fun j => match j with | 1 => m1 | 2 => m2 | 3 => m3 | 4 => m4 | _ => m5, rfl, fun j hj hj' => ?_, t1, t2, t3, t4, t5, fun R hR => ?_⟩
  · obtain rfl | rfl | rfl | rfl | rfl : j = 1 ∨ j = 2 ∨ j = 3 ∨ j = 4 ∨ j = 5 := by omega
    · exact ⟨row1, g1, s1⟩
    · exact ⟨row2, g2, s2⟩
    · exact ⟨row3, g3, s3⟩
    · exact ⟨row4, g4, s4⟩
    · exact ⟨row5, g5, s5⟩
  · exact .cons (.int _ _) (.cons (.bool _) (.cons (.int _ _) (.cons (u1 R (hR 1 (by omega) (by omega))) (.cons (u2 R (hR 2 (by omega) (by omega))) (.cons (u3 R (hR 3 (by omega) (by omega))) (.cons (u4 R (hR 4 (by omega) (by omega))) (.cons (u5 R (hR 5 (by omega) (by omega))) .nil)))))))
end Go.Ai
