/- With one byte changed no record is decoded. -/
import Derived.Test.YtegigohhnplomaaDecode
import Derived.Test.YtegigohhnplomaaInj
import Derived.Test.YtegigohhnplomaaKit
set_option linter.unusedVariables false
set_option linter.unusedSimpArgs false
set_option linter.unnecessarySimpa false
namespace Go.Proofs.Ytegigohhnplomaa
open Go.Ai
theorem hv_top : ∀ i, i < 16 → ∀ j, j < 16 → hv i >>> 28 = hv j >>> 28 → i = j := Ze
theorem shr28 {x : Nat} (h : x < 4294967296) : (x / 16) >>> 28 = 0 := by rw [Nat.shiftRight_eq_div_pow]; omega
theorem xor_cancel {a b c : Nat} (h : a ^^^ b = a ^^^ c) : b = c := by
 have := congrArg (a ^^^ ·) h;simpa [← Nat.xor_assoc, Nat.xor_self] using this
theorem nib_inj {x y : Nat} (hx : x < 4294967296) (hy : y < 4294967296) (h : nib x = nib y) : x = y := by
 unfold nib at h;have t := congrArg (· >>> 28) h;simp only [Nat.shiftRight_xor_distrib, shr28 hx, shr28 hy, Nat.zero_xor] at t;have e := hv_top _ (Nat.mod_lt x Ze) _ (Nat.mod_lt y Ze) t;rw [e, Nat.xor_comm, Nat.xor_comm (y / 16)] at h;have := xor_cancel h;omega
theorem stepB_inj {x y : Nat} {c d : UInt8} (hx : x < 4294967296) (hy : y < 4294967296) (h : stepB x c = stepB y d) : x ^^^ c.toNat = y ^^^ d.toNat := by
 have a := xor_lt32 hx (byte_lt32 c);have b := xor_lt32 hy (byte_lt32 d);exact nib_inj a b (nib_inj (nib_lt a) (nib_lt b) h)
theorem feed_inj : ∀ (l : List UInt8) {x y : Nat}, x < 4294967296 → y < 4294967296 → feedN x l = feedN y l → x = y
  | [], _, _, _, _, h => h
  | c :: l, x, y, hx, hy, h => by
    have e := stepB_inj (c := c) (d := c) hx hy (feed_inj l (step_lt (c := c) hx) (step_lt (c := c) hy) h);rw [Nat.xor_comm, Nat.xor_comm y] at e;exact xor_cancel e
theorem feed_set : ∀ (l : List UInt8) (k : Nat) {x : Nat} {a z : UInt8}, x < 4294967296 → l[k]? = some a → feedN x (l.set k z) = feedN x l → z = a
  | [], k, _, _, _, _, h, _ => Z1e
  | c :: l, 0, x, a, z, hx, h, e => by
    simp at h
    subst h;have e2 := stepB_inj hx hx (feed_inj l (step_lt (c := z) hx) (step_lt (c := c) hx) e);exact UInt8.toNat_inj.1 (xor_cancel e2)
  | c :: l, k + 1, x, a, z, hx, h, e => feed_set l k (step_lt (c := c) hx) Z0v e
theorem sum_set {l : List UInt8} {k : Nat} {a z : UInt8} (h : l[k]? = some a) (e : sumN (l.set k z) = sumN l) : z = a := by
 unfold sumN addN at e;exact feed_set l k (xor_lt32 ones_lt Ze) h (xor_cancel e)
theorem s4_inj {l m : List UInt8} (h : s4 l = s4 m) : sumN l = sumN m := by
 unfold s4 at h;simp only [List.cons.injEq, and_true] at h;obtain ⟨h1, h2, h3, h4⟩ := h;have b1 : sumN l < 4294967296 := add_lt Ze;have b2 : sumN m < 4294967296 := add_lt Ze;have f : ∀ {x y : Nat}, UInt8.ofNat x = UInt8.ofNat y → x % 256 = y % 256 := fun h => by
  have := congrArg UInt8.toNat h
  rwa [UInt8.toNat_ofNat', UInt8.toNat_ofNat'] at this
 have g1 := f h1;have g2 := f h2;have g3 := f h3;have g4 := f h4;omega
theorem summed_set {p q : List UInt8} {k : Nat} {a z : UInt8} (hk : (p ++ s4 p)[k]? = some a) (hz : z ≠ a) (h : q ++ s4 q = (p ++ s4 p).set k z) : False := by
 have hl := congrArg List.length h;rw [List.length_set, List.length_append, List.length_append, show (s4 q).length = 4 from rfl, show (s4 p).length = 4 from rfl] at hl;by_cases hp : k < p.length
 ·rw [List.set_append_left _ _ hp] at h;obtain ⟨e1, e2⟩ := List.append_inj h (by rw [List.length_set]; omega);rw [List.getElem?_append_left hp] at hk;have := s4_inj e2;rw [e1] at this;exact hz (sum_set hk this)
 ·rw [List.set_append_right _ _ Z5] at h;obtain ⟨e1, e2⟩ := List.append_inj h Z5;rw [e1] at e2;rw [List.getElem?_append_right Z5] at hk;have hlt := (List.getElem?_eq_some_iff.1 hk).1;have := congrArg (fun l : List UInt8 => l[k - p.length]?) e2;simp only [List.getElem?_set_self hlt] at this;rw [hk] at this;exact hz (Option.some.inj this).symm
theorem turn_no {sq : Int} {vl : Bool} {fu : Int} {co : List Code} {rs : List Key} {ss : List Span} {ws : List Key} {wr : List Wr} {k : Nat} {a y : UInt8} (hk : ((([] : List UInt8) ++ encB sq vl fu co rs ss ws wr))[k]? = some a) (hy : ¬ ((y.toNat : Nat) : Int) = 0) : ¬ recP ((([] : List UInt8) ++ encB sq vl fu co rs ss ws wr).set k (a ^^^ y)) := fun h => by
 have e := h.2.2.2;rw [List.nil_append] at hk e;refine summed_set (p := bodyB sq vl fu co rs ss ws wr) hk (z := a ^^^ y) (fun q => hy ?_) e;have q2 := congrArg UInt8.toNat q;rw [UInt8.toNat_xor] at q2;have := xor_cancel (a := a.toNat) (b := y.toNat) (c := 0) (by rw [q2, Nat.xor_zero]);rw [this];rfl
theorem enc_pos {sq : Int} {vl : Bool} {fu : Int} {co : List Code} {rs : List Key} {ss : List Span} {ws : List Key} {wr : List Wr} : 4 ≤ (encB sq vl fu co rs ss ws wr).length := by
 unfold encB;rw [List.length_append, show (s4 (bodyB sq vl fu co rs ss ws wr)).length = 4 from rfl];omega
theorem enc_small {sq : Int} {vl : Bool} {fu : Int} {co : List Code} {rs : List Key} {ss : List Span} {ws : List Key} {wr : List Wr} (hg : goodR_ sq vl fu co rs ss ws wr) (hr : rs.length ≤ 40) (hs : ss.length ≤ 40) (hw : ws.length ≤ 40) (hn : wr.length ≤ 60) (i1 : ∀ k ∈ rs, in64 k.1 ∧ in64 k.2) (i2 : ∀ k ∈ ss, in64 k.1 ∧ in64 k.2.1 ∧ in64 k.2.2) (i3 : ∀ k ∈ ws, in64 k.1 ∧ in64 k.2) (i4 : ∀ c ∈ co, inC c) (i5 : ∀ w ∈ wr, inW w) : (encB sq vl fu co rs ss ws wr).length ≤ 6000 := by
 have hkb : ∀ (l : List Key), l.length ≤ 40 → (∀ k ∈ l, in64 k.1 ∧ in64 k.2) → (keysB l).length ≤ 810 := fun l hl hi => by
  have q := catB_len (f := kb) (c := 20) (l := l) fun x hx => by
   have h1 := uv_len10 (u64_lt x.1);have h2 := uv_len10 (fold_lt (hi x hx).2);simp only [kb, List.length_append];omega
  have q2 := uv_len10 (x := l.length) Z5;simp only [keysB, List.length_append];omega
 have hput : (putP rs ss ws).length ≤ 2830 := by
  unfold putP;split
  ·have a1 := hkb rs hr i1;have a2 := hkb ws hw i3;have q := catB_len (f := sb) (c := 30) (l := ss) fun x hx => by
    have h3 := uv_len10 (u64_lt x.1);have h4 := uv_len10 (fold_lt (i2 x hx).2.1);have h5 := uv_len10 (fold_lt (i2 x hx).2.2);simp only [sb, List.length_append];omega
   have q2 := uv_len10 (x := ss.length) Z5;simp only [footB, spansB, List.length_append];omega
  ·simp
 have q3 := uv_len10 (u64_lt sq);unfold encB;rw [List.length_append, show (s4 (bodyB sq vl fu co rs ss ws wr)).length = 4 from rfl];cases hv : vl
 ·have q1 := progB_len (fu := fu) (by have := ((good_c hv).1 hg).2.2.1.1.2.2; omega) i4;have q4 := uv_len10 (x := (progB fu co).length) Z5;have q5 := uv_len10 (x := (putP rs ss ws).length) Z5;simp only [bodyB, cond_false, List.length_append, List.length_cons, List.length_nil];omega
 ·have q4 := uv_len10 (x := wr.length) Z5;have q := catB_len (f := wrB) (c := 31) (l := wr) fun x hx => by
   have := wrB_len (i5 x hx) (l := []);simpa using this
  simp only [bodyB, cond_true, List.length_append, List.length_cons, List.length_nil];omega
end Go.Proofs.Ytegigohhnplomaa