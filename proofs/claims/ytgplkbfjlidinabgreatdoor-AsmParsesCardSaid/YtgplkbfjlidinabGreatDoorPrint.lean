/- The text of a program: asm.Print, walked over the kit's builder. -/
import Derived.Test.YtgplkbfjlidinabGreatDoorCheck
import Derived.WalkKit
import Derived.BigCall
import Derived.Test.YtgplkbfjlidinabGreatDoorKit
set_option linter.unusedVariables false
set_option linter.unusedSimpArgs false
set_option linter.unnecessarySimpa false
set_option maxHeartbeats 4000000
set_option maxRecDepth 100000
namespace Go.Proofs.YtgplkbfjlidinabGreatDoor
open Go.RowKit Go.Ai Go.Proofs
section
variable {P : Program} {G : Nat}
theorem calls_valG {f : FuncId} {args : List Value} {args' : Array Value} {s : St} {β : Bij} {w : World} {V : Value} (hs : SR (okK G) β own00 s.get w) (hG : Glob β G) (hw : s.WF) (hd : Shut β s) (ha : VRs β args args'.toList)
  (hV : ∀ (β : Bij) v', VR β V v' → v' = V) (h : SC P G f args s fun v _ => v = V) : Calls P f args' w fun e w' => e = .returned V ∧ Below w.heap.size w w' := by
 intro cs;obtain ⟨v, s', β', own', w', v', rfl, _, _, h2, h3, h4, _, h6⟩ := h hw β own00 w args' hs hG hd ha cs;obtain rfl := hV _ _ h4;obtain ⟨fr, q1, q2, q3⟩ := h6;exact ⟨.returned _, w', fr, ⟨rfl, h2.os, h2.tape, h2.output, h2.size, fun k hk => (h2.cframe k hk fun i hi => by cases hi).2⟩, q1, q2, q3⟩
theorem vr_tok {α : Type} {f : α → List Value} {sz : Nat} {l : List α} {w : World} {bk o cap : Nat} (hz : 0 < sz) (hf : ∀ x, (f x).length = sz) (hn : l.length ≤ cap)
  (hc : ∀ j v, (flatL f l)[j]? = some v → intV v = true ∧ w.cell? ⟨bk, o + j, none⟩ = some v) : VR (layB P w) (inlL f sz l) (.slice (some ⟨bk, o, none⟩) l.length cap) := by
 refine .junk _ rfl fun i hi => ?_
 have e : dec (code (.slice l.length sz (flatL f l) [])) = some (.slice l.length sz (flatL f l) []) := dec_code _;rw [e] at hi;obtain rfl := Option.some.inj hi;refine .slice hz (flatL_len hf) hn ?_ fun j v hj => .inl ?_
 ·rw [flatL_len hf];simp
  exact Nat.mul_le_mul_right _ hn
 ·rw [List.append_nil] at hj;exact hc j v hj
end
theorem builder_below {T e : TypeId} {B b : Nat} {bs : List Value} {w w' : World} (h : Lib.IsBuilder T e B b bs w) (hb : Below w.heap.size w w') : Lib.IsBuilder T e B b bs w' := by
 have key : ∀ p, Lib.BuilderAt T e B b p bs w → Lib.BuilderAt T e B b p bs w' := by
  rintro p ⟨h1, v, h2, h3, h4⟩;have lt : ∀ {k : Nat} {o : Obj}, w.heap[k]? = some o → k < w.heap.size := fun hk => (Array.getElem?_eq_some_iff.1 hk).1
  refine ⟨h1, v, by rw [hb.block b (lt h2)]; exact h2, ⟨h3.1, ?_⟩, h4⟩;rcases h3.2 with q | ⟨g, cap, cur, q1, q2, q3, q4⟩
  ·exact .inl q
  ·exact .inr ⟨g, cap, cur, q1, q2, by rw [hb.block g (lt q3)]; exact q3, q4⟩
 exact h.imp (key _) (key _)
abbrev Tab (w : World) : Prop := VarsOk Tryz.prog w 135000004004000
theorem tab_glob {w : World} (h : Tab w) : Glob (layG Tryz.prog w 135000004004000) 135000004004000 := glob_lay h
theorem tab_below {w w' : World} (h : Tab w) (hb : Below w.heap.size w w') : Tab w' := h.below hb
theorem str_eq (β : Bij) {b : ByteArray} {v' : Value} (h : VR β (.string b) v') : v' = .string b := Z1l
theorem itoa_calls (n : Int) (h : in64 n) (w : World) (hT : Tab w) : Calls Tryz.prog 21 #[.int .i64 n] w fun e w' => e = .returned (.string (bstr (Lib.itoa n))) ∧ Below w.heap.size w w' :=
 calls_valG (sr_layG (St.empty 0).get w) (tab_glob hT) (Z2d 0) (fun i q => absurd q (dom_layG w i)) (.cons (.int _ _) .nil) (fun β v' => str_eq β) ((itoa__sc n h).up fun _ _ q => q.1)
theorem line_calls (c : Code) (hc : inC c) (hop : 0 ≤ c.1 ∧ c.1 < 16) (w : World) (hT : Tab w) : Calls Tryz.prog 22 #[.agg (Z29 c).toArray] w fun e w' => e = .returned (.tuple #[.string (bstr (lineR c)), .nilIface]) ∧ Below w.heap.size w w' := by
  obtain ⟨op, qa, qb, qc, qt, qn⟩ := c;refine calls_valG (sr_layG (St.empty 0).get w) (tab_glob hT) (Z2d 0) (fun i q => absurd q (dom_layG w i)) (.cons (.agg ?_) .nil) (fun β v' h => ?_) ((lineGood_sc op qa qb qc qt qn hc hop).up fun _ _ q => q.1)
  · exact .cons (.int _ _) (.cons (.int _ _) (.cons (.int _ _) (.cons (.int _ _) (.cons (.int _ _) (.cons (.int _ _) .nil)))))
  · cases h with
    | tuple h =>
      rename_i a;obtain ⟨a⟩ := a;obtain ⟨x, l, e, h1, h⟩ := h.cons_inv;obtain ⟨y, l, rfl, h2, h⟩ := h.cons_inv;obtain rfl := h.nil_inv;simp only at e;subst e;cases h1; cases h2; rfl
theorem check_calls (fu : Int) (co : List Code) (h : checkP fu co) (hl : co.length ≤ 1000000) (bk o cap : Nat) (w : World) (hT : Tab w) (hn : co.length ≤ cap) (hc : ∀ j v, (flatL Z29 co)[j]? = some v → w.cell? ⟨bk, o + j, none⟩ = some v) :
  Calls Tryz.prog 15 #[.agg #[.int .i64 fu, .slice (some ⟨bk, o, none⟩) co.length cap]] w fun e w' => e = .returned .nilIface ∧ Below w.heap.size w w' := by
 refine calls_valG (sr_layG (St.empty 0).get w) (tab_glob hT) (Z2d 0) (fun i q => absurd q (dom_layG w i)) (.cons (.agg (.cons (.int _ _) (.cons ((vr_tok Zj ccells_len hn fun j v hj => ⟨?_, hc j v hj⟩).mono lay_leG) .nil))) .nil) (fun β v' h => Z1l) ((check_sc fu co hl).up fun _ _ q => q.1.trans (checkV_t h));have := List.mem_of_getElem? hj;simp only [flatL, List.mem_flatten, List.mem_map] at this;obtain ⟨_, ⟨c, _, rfl⟩, hm⟩ := this;simp only [Z29, List.mem_cons, List.not_mem_nil, or_false] at hm;rcases hm with rfl | rfl | rfl | rfl | rfl | rfl <;> rfl
def linesB (l : List Code) : List UInt8 := (l.map fun c => lineR c ++ [10]).flatten
def printR (fu : Int) (co : List Code) : List UInt8 := 102 :: 117 :: 101 :: 108 :: 32 :: (Lib.itoa fu ++ 10 :: linesB co)
theorem lines_succ {l : List Code} {k : Nat} {c : Code} (h : l[k]? = some c) : linesB (l.take (k + 1)) = linesB (l.take k) ++ (lineR c ++ [10]) := by
 unfold linesB;rw [List.take_add_one, h];simp
theorem lines_len : ∀ {l : List Code}, (∀ c ∈ l, inC c) → (linesB l).length ≤ l.length * 201
  | [], _ => by simp [linesB]
  | c :: l, h => by
    have := lines_len fun x hx => h x (List.mem_cons_of_mem _ hx)
    have q := lineR_len (h c (List.mem_cons_self ..));have e : linesB (c :: l) = lineR c ++ [10] ++ linesB l := by simp [linesB]
    rw [e, List.length_append, List.length_append, List.length_cons, List.length_cons, List.length_nil];omega
theorem bld_write (B b : Nat) (bs : List Value) (s : ByteArray) (w : World) (h : Lib.IsBuilder 59 5 B b bs w) (hlen : bs.length + s.size ≤ 140737488355328) (hBw : B ≤ w.heap.size) :
  Calls Tryz.prog 20 #[.pointer (some ⟨b, 0, none⟩), .string s] w fun e w' => e = .returned (.tuple #[.int .i64 s.size, .nilIface]) ∧ (Lib.BuilderAt 59 5 B b (.pointer (some ⟨b, 0, none⟩)) (bs ++ Lib.strCells s) w' ∧ Below B w w') :=
 Any.Builder_WriteString (ρ := join_ren) { join_lays with } join_extra B b bs s w h hlen hBw
theorem bld_string (B b : Nat) (l : List UInt8) (w : World) (h : Lib.IsBuilder 59 5 B b (Lib.byteCells l) w) (hBw : B ≤ w.heap.size) :
  Calls Tryz.prog 23 #[.pointer (some ⟨b, 0, none⟩)] w fun e w' => e = .returned (.string ⟨l.toArray⟩) ∧ Below B w w' :=
 Any.Builder_String_any (ρ := join_ren) { join_lays with } join_extra B b l w h hBw
theorem alloc_cell_old {w : World} {o : Obj} {p : Addr} {v : Value} (h : w.cell? p = some v) : (w.alloc o).cell? p = some v := by
 rw [World.cell?_alloc_old _ _ _ (Nat.ne_of_lt (World.block_lt_of_cell? _ _ h))];exact h
theorem code_cells {co : List Code} {k : Nat} {op qa qb qc qt qn : Int} (h : co[k]? = some (op, qa, qb, qc, qt, qn)) : (flatL Z29 co)[k * 6]? = some (.int .i64 op) ∧ (flatL Z29 co)[k * 6 + 1]? = some (.int .i64 qa) ∧ (flatL Z29 co)[k * 6 + 2]? = some (.int .i64 qb) ∧ (flatL Z29 co)[k * 6 + 3]? = some (.int .i64 qc) ∧ (flatL Z29 co)[k * 6 + 4]? = some (.int .i64 qt) ∧ (flatL Z29 co)[k * 6 + 5]? = some (.int .i64 qn) := by
 have key : ∀ t v, t < 6 → (Z29 (op, qa, qb, qc, qt, qn))[t]? = some v → (flatL Z29 co)[k * 6 + t]? = some v := fun t v ht hv => by
  have := flatL_sub (f := Z29) (l := co) (i := k) (o := t) (w := 1) (sz := 6) ccells_len h Z4;have e := congrArg (fun z => z[0]?) this;simp only [List.getElem?_take, List.getElem?_drop] at e;simpa [hv] using e
 exact ⟨key 0 _ Zj rfl, key 1 _ Zj rfl, key 2 _ Zj rfl, key 3 _ Zj rfl, key 4 _ Zj rfl, key 5 _ Zj rfl⟩
theorem print_walk (fu : Int) (co : List Code) (h : checkP fu co) (hfu : in64 fu) (hco : ∀ c ∈ co, inC c) (bk o cap : Nat) (w : World) (hT : Tab w) (hn : co.length ≤ cap) (hc : ∀ j v, (flatL Z29 co)[j]? = some v → w.cell? ⟨bk, o + j, none⟩ = some v) (hbk : bk < w.heap.size) :
  Calls Tryz.prog 10 #[.agg #[.int .i64 fu, .slice (some ⟨bk, o, none⟩) co.length cap]] w fun e w' => e = .returned (.tuple #[.string (bstr (printR fu co)), .nilIface]) ∧ Below w.heap.size w w' := by
 have hl : co.length ≤ 32 := by have := h.1.2.2; omega
 obtain ⟨w0, hw0⟩ : ∃ w0, w0 = w.alloc (.cells #[.int .i64 fu, .slice (some ⟨bk, o, none⟩) co.length cap] 25) := ⟨_, rfl⟩;have b0 : Below w.heap.size w w0 := by rw [hw0]; exact (Below.refl _ w).alloc (Nat.le_refl _) _
 have hT0 := tab_below hT b0;have hc0 : ∀ j v, (flatL Z29 co)[j]? = some v → w0.cell? ⟨bk, o + j, none⟩ = some v := fun j v hj => by rw [b0.cell (p := ⟨bk, o + j, none⟩) hbk]; exact hc j v hj
 have cC := check_calls fu co h Z4 bk o cap w0 hT0 hn hc0;have hs0 : w.heap.size < w0.heap.size := by rw [hw0]; simp
 have hA0 : w0.cell? ⟨w.heap.size, 0, none⟩ = some (.int .i64 fu) := Z1s
 have hA1 : w0.cell? ⟨w.heap.size, 1, none⟩ = some (.slice (some ⟨bk, o, none⟩) co.length cap) := Z1s
 rw [hw0] at cC;have Hfu := Any.hidJ hfu;clear hc hT hfu
 go_enter Tryz.func10, Tryz.ntmps10
 go_wp2_with (go_at_call 15; refine cC.mono ?_)
 rintro e w1 ⟨rfl, b1⟩;rw [← hw0] at b1;clear cC hw0;have b01 : Below w.heap.size w w1 := b0.trans (b1.mono b0.size);have hT1 := tab_below hT0 b1;have hB0 : (w1.alloc (.cells #[.pointer none, .slice none 0 0] 59)).cell? ⟨w.heap.size, 0, none⟩ = some (.int .i64 fu) := alloc_cell_old (by rw [b1.cell (p := ⟨w.heap.size, 0, none⟩) hs0]; exact hA0);have hB1 : (w1.alloc (.cells #[.pointer none, .slice none 0 0] 59)).cell? ⟨w.heap.size, 1, none⟩ = some (.slice (some ⟨bk, o, none⟩) co.length cap) := alloc_cell_old (by rw [b1.cell (p := ⟨w.heap.size, 1, none⟩) hs0]; exact hA1);have bld : Lib.IsBuilder 59 5 w1.heap.size w1.heap.size [] (w1.alloc (.cells #[.pointer none, .slice none 0 0] 59)) := Lib.fresh_isBuilder 59 5 w1;have ba : Below w1.heap.size w1 (w1.alloc (.cells #[.pointer none, .slice none 0 0] 59)) := (Below.refl _ w1).alloc (Nat.le_refl _) _;have cI := itoa_calls fu Hfu.out _ (tab_below hT1 ba);have H1 := Any.hidJ (And.intro bld (And.intro ba hT1));have Hb := Any.hidJ (And.intro b01 (And.intro b1 (And.intro b0 hT0)));have HA := Any.hidJ (And.intro hA0 hA1);clear bld ba hT1 b1 b01 b0 hT0 hA0 hA1
 go_wp2_with (go_at_call 21; refine cI.mono ?_)
 rintro e w2 ⟨rfl, b2⟩;have hw1 : w.heap.size < (w1.alloc (.cells #[.pointer none, .slice none 0 0] 59)).heap.size := by have := Hb.out.2.1.size; simp; omega
 have hC0 : w2.cell? ⟨w.heap.size, 0, none⟩ = some (.int .i64 fu) := by rw [b2.cell (p := ⟨w.heap.size, 0, none⟩) hw1]; exact hB0
 have hC1 : w2.cell? ⟨w.heap.size, 1, none⟩ = some (.slice (some ⟨bk, o, none⟩) co.length cap) := by rw [b2.cell (p := ⟨w.heap.size, 1, none⟩) hw1]; exact hB1
 have bld2 := builder_below H1.out.1 b2;have hb12 : Below w1.heap.size w1 w2 := H1.out.2.1.trans (b2.mono H1.out.2.1.size);have hil := itoa_len Hfu.out;have hadd : (⟨#[102, 117, 101, 108, 32]⟩ : ByteArray) ++ bstr (Lib.itoa fu) ++ ⟨#[10]⟩ = bstr ([102, 117, 101, 108, 32] ++ Lib.itoa fu ++ [10]) := by
  rw [← bstr_append, ← bstr_append]; rfl
 have hw2 : w1.heap.size ≤ w2.heap.size := hb12.size;have hq1 : ¬ 9223372036854775807 < 5 + (bstr (Lib.itoa fu)).size := by rw [bstr_size]; omega
 have hq2 : ¬ 9223372036854775807 < 5 + (bstr (Lib.itoa fu)).size + 1 := by rw [bstr_size]; omega
 have cW := bld_write w1.heap.size w1.heap.size [] (bstr ([102, 117, 101, 108, 32] ++ Lib.itoa fu ++ [10])) w2 bld2 (by rw [bstr_size]; simp; omega) hw2;have H2 := Any.hidJ (And.intro hb12 hw2);have Hil := Any.hidJ hil;clear hB0 hB1 b2 H1 hw1 bld2 hb12 hw2 hil
 go_wp2_with (go_at_call 20; refine cW.mono ?_)
 rintro e w3 ⟨rfl, h3, b3⟩;clear cW cI hadd hq1 hq2;have hB : w1.heap.size ≤ w3.heap.size := Nat.le_trans H2.out.2 b3.size;have hlt : w.heap.size < w1.heap.size := by have := Hb.out.2.1.size; omega
 have hD1 : w3.cell? ⟨w.heap.size, 1, none⟩ = some (.slice (some ⟨bk, o, none⟩) co.length cap) := by rw [b3.cell (p := ⟨w.heap.size, 1, none⟩) hlt]; exact hC1
 have b13 : Below w1.heap.size w1 w3 := H2.out.1.trans b3;rw [List.nil_append, Lib.strCells_eq] at h3;have H3 := Any.hidJ (And.intro (Or.inr h3 : Lib.IsBuilder 59 5 w1.heap.size w1.heap.size _ w3) b13);have HB := Any.hidJ hB;clear h3 b3 hC0 hC1 hB b13 H2
 go_wp2_with fail
 go_loopw [24] (fun i wr => ∃ k : Nat, k ≤ co.length ∧ i = .int .i64 k ∧ Hid (Lib.IsBuilder 59 5 w1.heap.size w1.heap.size (Lib.byteCells (([102, 117, 101, 108, 32] ++ Lib.itoa fu ++ [10]) ++ linesB (co.take k))) wr) ∧ Hid (Below w1.heap.size w1 wr)) (fun i _ => co.length - (intOf i).toNat)
 case atStart =>
  refine ⟨0, Nat.zero_le _, rfl, Any.hidJ ?_, Any.hidJ H3.out.2⟩;have q := H3.out.1;rw [show linesB (co.take 0) = [] from rfl, List.append_nil];have e : (bstr ([102, 117, 101, 108, 32] ++ Lib.itoa fu ++ [10])).data.toList = [102, 117, 101, 108, 32] ++ Lib.itoa fu ++ [10] := by simp [bstr]
  rw [e] at q;exact q
 case round =>
  obtain ⟨k, hk, rfl, HK, HW⟩ := hrel;by_cases hkn : k < co.length
  ·obtain ⟨⟨op, qa, qb, qc, qt, qn⟩, hck⟩ : ∃ c, co[k]? = some c := ⟨co[k], List.getElem?_eq_getElem hkn⟩;have hin := hco _ (List.mem_of_getElem? hck);have hgood : goodC (op, qa, qb, qc, qt, qn) ((co.length - 1 - k : Nat) : Int) := Classical.byContradiction fun q => h.2 k hkn ⟨_, hck, q⟩
   have hbw : bk < w1.heap.size := by have := Hb.out.2.1.size; omega
   have rd : ∀ t v, (flatL Z29 co)[k * 6 + t]? = some v → wr.cell? ⟨bk, o + k * 6 + t, none⟩ = some v := fun t v hv => by
    rw [HW.out.cell (p := ⟨bk, o + k * 6 + t, none⟩) hbw, Hb.out.2.1.cell (p := ⟨bk, o + k * 6 + t, none⟩) (by show bk < _; omega), Nat.add_assoc];exact hc0 _ _ hv
   obtain ⟨c0, c1, c2, c3, c4, c5⟩ := code_cells hck;have r0 := rd 0 _ c0;have r1 := rd 1 _ c1;have r2 := rd 2 _ c2;have r3 := rd 3 _ c3;have r4 := rd 4 _ c4;have r5 := rd 5 _ c5;rw [Nat.add_zero] at r0;have hTr : Tab wr := tab_below (tab_below Hb.out.2.2.2 Hb.out.2.1) HW.out;have hal : Below wr.heap.size wr (wr.alloc (.cells #[.int .i64 op, .int .i64 qa, .int .i64 qb, .int .i64 qc, .int .i64 qt, .int .i64 qn] 40)) := (Below.refl _ wr).alloc (Nat.le_refl _) _;have cL := line_calls (op, qa, qb, qc, qt, qn) hin (by have := hgood.1; simp only at this ⊢; omega) _ (tab_below hTr hal);have Hal := Any.hidJ hal;have Hlen := Any.hidJ (lineR_len hin);have Hck := Any.hidJ hck;clear rd c0 c1 c2 c3 c4 c5 hin hgood hck hD1 hTr hal
   go_wp2_with (go_at_call 22; refine cL.mono ?_)
   rintro e w4 ⟨rfl, b4⟩;clear cL r0 r1 r2 r3 r4 r5;have b4' : Below wr.heap.size wr w4 := Hal.out.trans (b4.mono Hal.out.size);have bldr := builder_below HK.out b4';have hle : w1.heap.size ≤ wr.heap.size := HW.out.size;have b14 : Below w1.heap.size w1 w4 := HW.out.trans (b4'.mono hle);have hq3 : ¬ 9223372036854775807 < (bstr (lineR (op, qa, qb, qc, qt, qn))).size + 1 := by have := Hlen.out; rw [bstr_size]; omega
   have hadd : bstr (lineR (op, qa, qb, qc, qt, qn)) ++ (⟨#[10]⟩ : ByteArray) = bstr (lineR (op, qa, qb, qc, qt, qn) ++ [10]) := by rw [← bstr_append]; rfl
   have cW := bld_write w1.heap.size w1.heap.size _ (bstr (lineR (op, qa, qb, qc, qt, qn) ++ [10])) w4 bldr (by
    have q := lines_len (l := co.take k) fun x hx => hco x (List.mem_of_mem_take hx)
    have q2 : (co.take k).length ≤ 32 := Z1c
    have q3 := Hil.out;have q4 := Hlen.out;rw [Lib.byteCells_length, bstr_size];simp only [List.length_append, List.length_cons, List.length_nil];omega) b14.size
   have H4 := Any.hidJ b14;clear b4 b4' bldr hle b14
   go_wp2_with (go_at_call 20; refine cW.mono ?_)
   rintro e w5 ⟨rfl, h5, b5⟩;clear cW hadd hq3;have hnew : Lib.byteCells (([102, 117, 101, 108, 32] ++ Lib.itoa fu ++ [10]) ++ linesB (co.take k)) ++ Lib.strCells (bstr (lineR (op, qa, qb, qc, qt, qn) ++ [10])) = Lib.byteCells (([102, 117, 101, 108, 32] ++ Lib.itoa fu ++ [10]) ++ linesB (co.take (k + 1))) := by
    have e : (bstr (lineR (op, qa, qb, qc, qt, qn) ++ [10])).data.toList = lineR (op, qa, qb, qc, qt, qn) ++ [10] := by simp [bstr]
    rw [Lib.strCells_eq, e, ← Lib.byteCells_append, lines_succ Hck.out, List.append_assoc, List.append_assoc, List.append_assoc]
   rw [hnew] at h5;have H5 := Any.hidJ (Or.inr h5 : Lib.IsBuilder 59 5 w1.heap.size w1.heap.size _ w5);have Hb5 := Any.hidJ (H4.out.trans b5);clear h5 b5 hnew
   go_wp2
   exact ⟨⟨k + 1, Z4, by go_num, H5, Hb5⟩, by simp [intOf]; omega⟩
  ·have hke : k = co.length := by omega
   subst hke;have hB' := HK.out;rw [List.take_of_length_le (Nat.le_refl _)] at hB';have hw : w1.heap.size ≤ wr.heap.size := HW.out.size;have cS := bld_string w1.heap.size w1.heap.size _ wr hB' hw;have Hw := Any.hidJ hw;clear hB' hw
   go_wp2_with (go_at_call 23; refine cS.mono ?_)
   rintro e w6 ⟨rfl, b6⟩;have Hb6 := Any.hidJ (HW.out.trans b6);clear cS b6
   go_wp2
   go_ret2
   exact ⟨rfl, Hb.out.1.trans (Hb6.out.mono Hb.out.1.size)⟩
theorem itoa_dig {n : Nat} (h : n < 10) : Lib.itoa (n : Int) = [UInt8.ofNat (48 + n)] := by
 unfold Lib.itoa;rw [if_neg Z4, Int.toNat_natCast, Lib.decDigits.eq_def, dif_pos h]
theorem alive_text : printR 5 [(15, 1, 0, 0, 0, 0)] = [102, 117, 101, 108, 32, 53, 10, 111, 117, 116, 32, 114, 49, 10] := by
 have e5 : Lib.itoa 5 = [53] := itoa_dig (n := 5) Zj;have e1 : Lib.itoa 1 = [49] := itoa_dig (n := 1) Zj;have el : lineR (15, 1, 0, 0, 0, 0) = [111, 117, 116, 32, 114, 49] := by
  show [111, 117, 116] ++ ([32 :: (114 :: Lib.itoa 1)] : List (List UInt8)).flatten = _;rw [e1]; rfl
 unfold printR linesB;rw [e5, List.map_cons, List.map_nil, el];rfl
theorem alive_good : checkP 5 [(15, 1, 0, 0, 0, 0)] := by
 refine ⟨⟨Zj, Zj, Zj⟩, fun i hi ⟨x, hx, hb⟩ => hb ?_⟩;have : i = 0 := Z1z
 subst this;obtain rfl := Option.some.inj hx;refine ⟨Zj, fun y hy => ?_, rfl⟩;have : y = 97 := by simpa [shp] using hy
 subst this;exact ⟨Zj, Zj⟩
theorem alive_walk (w : World) (hT : Tab w) : Calls Tryz.prog 4 #[] w fun e w' => e = .returned (.bool true) ∧ Below w.heap.size w w' := by
 have hal : Below w.heap.size w (w.alloc (.cells #[.int .i64 15, .int .i64 1, .int .i64 0, .int .i64 0, .int .i64 0, .int .i64 0] 40)) := (Below.refl _ w).alloc (Nat.le_refl _) _;have cP := print_walk 5 [(15, 1, 0, 0, 0, 0)] alive_good Z14 (by intro c hc; obtain rfl := List.mem_singleton.1 hc; exact ⟨Z14, Z14, Z14, Z14, Z14, Z14⟩) w.heap.size 0 1
  (w.alloc (.cells #[.int .i64 15, .int .i64 1, .int .i64 0, .int .i64 0, .int .i64 0, .int .i64 0] 40)) (tab_below hT hal) (Nat.le_refl _) (fun j v hj => by
   rw [Lib.cell_of_heap (heap_alloc_new w _), Nat.zero_add];have hj : [Value.int .i64 15, .int .i64 1, .int .i64 0, .int .i64 0, .int .i64 0, .int .i64 0][j]? = some v := hj;simpa using hj) Z0u
 rw [alive_text] at cP;have Hal := Any.hidJ hal;clear hal hT
 go_enter Tryz.func4, Tryz.ntmps4
 go_wp2_with (go_at_call 10; refine cP.mono ?_)
 rintro e w2 ⟨rfl, b2⟩;have Hb := Any.hidJ (Hal.out.trans (b2.mono Hal.out.size));clear cP b2;have heq := bstr_list [102, 117, 101, 108, 32, 53, 10, 111, 117, 116, 32, 114, 49, 10]
 go_wp2
 go_ret
 exact ⟨rfl, Hb.out⟩
theorem alive_sc : SC Tryz.prog 135000004004000 4 [] (St.empty 0) fun v s' => v = .bool true ∧ s'.n ≤ 400 := by
 intro hw β own w args' hs hG hsh ha cs;obtain ⟨args'⟩ := args';obtain rfl : args' = [] := ha.nil_inv;obtain ⟨e, w', fr, ⟨rfl, hb⟩, q1, q2, q3⟩ := alive_walk w (varsOk_of hs hG Zj Z3) cs;obtain ⟨e1, e2⟩ := below_ext hs hb;exact ⟨_, _, β, own, _, _, ⟨rfl, Nat.zero_le _⟩, hw, .refl _, e1, e2, .bool _, enters_of Tryz.func4 Z3 rfl _ _, fr, q1, q2, q3⟩
theorem tok_slice {α : Type} {f : α → List Value} {sz : Nat} {l : List α} {β : Bij} {own : Nat → Option Nat} {st : Nat → Option AObj} {w : World} {K : Go.Code → Prop} {y : Value} (hs : SR K β own st w) (hl : l ≠ []) (hp : ∀ (j : Nat) (v : Value), (flatL f l)[j]? = some v → intV v = true) (hz : ∀ x, (f x).length = sz) (hsz : 0 < sz) (h : VR β (inlL f sz l) y) :
    ∃ bk o cap, y = .slice (some ⟨bk, o, none⟩) l.length cap ∧ l.length ≤ cap ∧ (∀ (j : Nat) (v : Value), (flatL f l)[j]? = some v → w.cell? ⟨bk, o + j, none⟩ = some v) ∧ bk < w.heap.size := by
  have hfl : (flatL f l).length = l.length * sz := flatL_len hz;have hpos : 0 < l.length := List.length_pos_iff.2 hl;have hne : flatL f l ≠ [] := by
    intro e;rw [e] at hfl;have : 0 < l.length * sz := Nat.mul_pos hpos hsz;simp at hfl
    omega
  unfold inlL inl at h;cases h with
  | junk c _ hf =>
    have q := hf _ (dec_code _);generalize ei : Inl.slice l.length sz (flatL f l) [] = i at q
    cases q with
    | none hz' => injection ei with a1 a2 a3 a4; omega
    | empty hz' => injection ei with a1 a2 a3 a4; omega
    | bareNil => cases ei
    | bare => cases ei
    | ptr _ => cases ei
    | slice hz' hl' hn' hc' hI =>
      injection ei with a1 a2 a3 a4;subst a1; subst a2; subst a3; subst a4;have cell : ∀ (j : Nat) (v : Value), (flatL f l)[j]? = some v → w.cell? ⟨_, _ + j, none⟩ = some v := fun j v hj => by
        obtain ⟨_, _, _, _, x, q1, q2⟩ := hs.ice.at_ _ _ _ (hI j v (by rw [List.append_nil]; exact hj));have hi := hp j v hj;cases q2 <;> first | exact q1 | cases hi
      refine ⟨_, _, _, rfl, hn', cell, ?_⟩;obtain ⟨v, hv⟩ : ∃ v, (flatL f l)[0]? = some v := ⟨_, List.getElem?_eq_getElem (List.length_pos_iff.2 hne)⟩;exact (hs.ice.at_ _ _ _ (hI 0 v (by rw [List.append_nil]; exact hv))).lt
theorem code_ints (co : List Code) : ∀ (j : Nat) (v : Value), (flatL Z29 co)[j]? = some v → intV v = true := by
 intro j v hj;have := List.mem_of_getElem? hj;simp only [flatL, List.mem_flatten, List.mem_map] at this;obtain ⟨_, ⟨c, _, rfl⟩, hm⟩ := this;simp only [Z29, List.mem_cons, List.not_mem_nil, or_false] at hm;rcases hm with rfl | rfl | rfl | rfl | rfl | rfl <;> rfl
theorem printGood_sc (fu : Int) (co : List Code) (h0 : checkP fu co) (h1 : in64 fu) (h2 : ∀ c ∈ co, inC c) : SC Tryz.prog 135000004004000 10 [.agg #[.int .i64 fu, inlL Z29 6 co]] (St.empty 0) fun v s' => v = .tuple #[.string (bstr (printR fu co)), .nilIface] ∧ s'.n ≤ 400 := by
  intro hw β own w args' hs hG hsh ha cs;obtain ⟨args'⟩ := args';obtain ⟨x, l, e, hx, hl⟩ := ha.cons_inv;simp only at e; subst e;obtain rfl := hl.nil_inv;have hne : co ≠ [] := by rintro rfl; exact absurd h0.1.2.1 Z0u
  cases hx with
  | agg hx =>
    rename_i a;obtain ⟨a⟩ := a;obtain ⟨x1, l1, e1, g1, hx⟩ := hx.cons_inv;obtain ⟨x2, l2, e2, g2, hx⟩ := hx.cons_inv;obtain rfl := hx.nil_inv;simp only at e1;subst e2; subst e1;obtain rfl := vr_int g1;obtain ⟨bk, o, cap, rfl, hn, hc, hbk⟩ := tok_slice hs hne (code_ints co) ccells_len Zj g2;obtain ⟨e, w', fr, ⟨rfl, hb⟩, q1, q2, q3⟩ := print_walk fu co h0 h1 h2 bk o cap w (varsOk_of hs hG Zj Z3) hn hc hbk cs;obtain ⟨e1, e2⟩ := below_ext hs hb;exact ⟨_, _, β, own, _, _, ⟨rfl, Nat.zero_le _⟩, hw, .refl _, e1, e2, .tuple (.cons (.string _) (.cons .nilIface .nil)), enters_of Tryz.func10 Z3 rfl _ _, fr, q1, q2, q3⟩
end Go.Proofs.YtgplkbfjlidinabGreatDoor