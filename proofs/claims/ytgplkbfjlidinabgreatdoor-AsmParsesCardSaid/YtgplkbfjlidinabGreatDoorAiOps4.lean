/- The interpreter: what holds of it. -/
import Derived.Test.YtgplkbfjlidinabGreatDoorAiOps1
import Derived.Laws.CopyRow
import Derived.Laws.BytesString
import Derived.Laws.BytesArg
import Derived.Test.YtgplkbfjlidinabGreatDoorKit
set_option linter.unusedVariables false
set_option linter.unusedSimpArgs false
set_option linter.unnecessarySimpa false
/-
  Slice expressions, assertions, conversions.
-/
namespace Go.Ai
inductive OpR (β : Bij) : Option Value → Option Value → Prop where
 | none : OpR β none none
 | some {v v' : Value} (h : VR β v v') : OpR β (some v) (some v')
section
variable {P : Program} {C : Cfg} {K : Code → Prop} (H : CfgOk P C K) {β : Bij} {own : Nat → Option Nat} {s : St} {w : World}
theorem bound_sim {x x' : Option Value} {d y r : Nat} (hv : bound x d y = some r) (hx : OpR β x x') (code : BoundsCode) :
    (x = none ∧ x' = none ∧ r = d) ∨ (∃ v, x = some v ∧ x' = some v ∧ r ≤ y ∧ ∀ m, r ≤ m → (Instr.sliceBound v m code).run P w = .ok r w) := by
  unfold bound at hv;split at hv
  · cases hx; obtain rfl := Option.some.inj hv; exact .inl ⟨rfl, rfl, rfl⟩
  · rename_i k i
    cases hx with
    | some h =>
      obtain rfl := int_inv h;split at hv
      · rename_i hb
        obtain rfl := Option.some.inj hv;refine .inr ⟨_, rfl, rfl, Z4, fun m hm => ?_⟩;simp only [Instr.sliceBound, asIntOf, Sem.run_bind, Sem.run_pure, Result.andThen_ok];rw [if_pos Z4]; rfl
      · cases hv
  · cases hv
theorem bounds_simX {len cap : Nat} {lo hi mx lo' hi' mx' : Option Value} {l h : Nat} (hv : boundsV len lo hi mx = some (l, h)) (h1 : OpR β lo lo') (h2 : OpR β hi hi') (h3 : OpR β mx mx') (hc : len ≤ cap) (b : Bool) :
  ∃ m, (Instr.sliceBounds b len cap lo' hi' mx').run P w = .ok (l, h, m) w ∧ l ≤ h ∧ h ≤ len ∧ h ≤ m ∧ m ≤ cap ∧ (∀ k i, mx = some (.int k i) → (m : Int) = i) ∧ (mx = none → m = cap) := by
 unfold boundsV at hv;split at hv
 ·cases hv
 ·rename_i m hm;split at hv
  ·cases hv
  ·rename_i h0 hh;split at hv
   ·cases hv
   ·rename_i l0 hl;obtain ⟨rfl, rfl⟩ := Prod.mk.inj (Option.some.inj hv);have hm' : ∃ m', m ≤ m' ∧ m ≤ len ∧ m' ≤ cap ∧ ((mx = none ∧ mx' = none ∧ m = len ∧ m' = cap) ∨ (∃ v, mx = some v ∧ mx' = some v ∧ m' = m ∧ ∀ code, (Instr.sliceBound v cap code).run P w = .ok m w)) := by
     rcases bound_sim (P := P) (w := w) hm h3 .index with ⟨rfl, rfl, rfl⟩ | ⟨v, rfl, rfl, hle, hr⟩
     ·exact ⟨cap, hc, Nat.le_refl _, Nat.le_refl _, .inl ⟨rfl, rfl, rfl, rfl⟩⟩
     ·refine ⟨m, Nat.le_refl _, hle, Z4, .inr ⟨v, rfl, rfl, rfl, fun code => ?_⟩⟩;rcases bound_sim (P := P) (w := w) hm h3 code with ⟨h, _⟩ | ⟨v', e, _, _, hr'⟩
      ·cases h
      ·cases e; exact hr' cap Z4
    obtain ⟨m', hmm, hml, hmc, hmx⟩ := hm';have hint : ∀ k i, mx = some (.int k i) → (m : Int) = i := by
     rintro k i rfl;unfold bound at hm;simp only at hm;split at hm
     ·rename_i hb;rw [← Option.some.inj hm];omega
     ·cases hm
    have hl2 : ∀ code, (lo = none ∧ lo' = none ∧ l0 = 0) ∨ (∃ v, lo = some v ∧ lo' = some v ∧ l0 ≤ h0 ∧ (Instr.sliceBound v h0 code).run P w = .ok l0 w) := by
     intro code;rcases bound_sim (P := P) (w := w) hl h1 code with ⟨a, b, c⟩ | ⟨v, a, b, c, d⟩
     ·exact .inl ⟨a, b, c⟩
     ·exact .inr ⟨v, a, b, c, d h0 c⟩
    have hlh : l0 ≤ h0 := by
     rcases hl2 .index with ⟨_, _, rfl⟩ | ⟨_, _, _, h, _⟩
     ·exact Nat.zero_le _
     ·exact h
    rcases hmx with ⟨rfl, rfl, rfl, rfl⟩ | ⟨v, rfl, rfl, rfl, hv3⟩
    ·
     have hh : bound hi m m = some h0 := by
      cases hi <;> exact hh
     have hh2 : ∀ code, (hi = none ∧ hi' = none ∧ h0 = m) ∨ (∃ v, hi = some v ∧ hi' = some v ∧ h0 ≤ m ∧ (Instr.sliceBound v m' code).run P w = .ok h0 w) := by
      intro code;rcases bound_sim (P := P) (w := w) hh h2 code with ⟨a, b, c⟩ | ⟨v, a, b, c, d⟩
      ·exact .inl ⟨a, b, c⟩
      ·exact .inr ⟨v, a, b, c, d m' Z4⟩
     have hhm : h0 ≤ m := by
      rcases hh2 .index with ⟨_, _, rfl⟩ | ⟨_, _, _, h, _⟩
      ·exact Nat.le_refl _
      ·exact h
     refine ⟨m', ?_, hlh, hhm, Z4, Nat.le_refl _, (fun _ _ h => Z02), fun _ => rfl⟩;simp only [Instr.sliceBounds, Sem.run_bind, Sem.run_pure, Result.andThen_ok];rcases hh2 (if b then .sliceAcap else .sliceAlen) with ⟨rfl, rfl, rfl⟩ | ⟨v, rfl, rfl, _, hr⟩
     ·rcases hl2 .sliceB with ⟨rfl, rfl, rfl⟩ | ⟨v, rfl, rfl, _, hr⟩
      ·simp
      ·simp [hr]
     ·rcases hl2 .sliceB with ⟨rfl, rfl, rfl⟩ | ⟨v, rfl, rfl, _, hr'⟩
      ·simp [hr]
      ·simp [hr, hr']
    ·have : ∃ vh, hi = some vh := by
      cases hi with
      | none => simp at hh
      | some v => exact ⟨v, rfl⟩
     obtain ⟨vh, rfl⟩ := this;have hh : bound (some vh) len m' = some h0 := hh;rcases bound_sim (P := P) (w := w) hh h2 .slice3B with ⟨a, _⟩ | ⟨v', a, rfl, hhm, hr⟩
     ·cases a
     ·cases a;refine ⟨m', ?_, hlh, Z4, hhm, hmc, hint, fun h => Z02⟩;simp only [Instr.sliceBounds, Sem.run_bind, Result.andThen_ok, hv3, hr m' hhm];rcases hl2 .slice3C with ⟨rfl, rfl, rfl⟩ | ⟨v, rfl, rfl, _, hr'⟩
      ·simp
      ·simp [hr']
theorem bounds_sim {len cap : Nat} {lo hi mx lo' hi' mx' : Option Value} {l h : Nat} (hv : boundsV len lo hi mx = some (l, h)) (h1 : OpR β lo lo') (h2 : OpR β hi hi') (h3 : OpR β mx mx') (hc : len ≤ cap) (b : Bool) :
  ∃ m, (Instr.sliceBounds b len cap lo' hi' mx').run P w = .ok (l, h, m) w ∧ l ≤ h ∧ h ≤ len ∧ h ≤ m ∧ m ≤ cap :=
 let ⟨m, h1, h2, h3, h4, h5, _⟩ := bounds_simX (P := P) (w := w) hv h1 h2 h3 hc b
 ⟨m, h1, h2, h3, h4, h5⟩
theorem SliceC.cut {c a : Addr} {n cap sz M l h m : Nat} (hc : SliceC c a n cap sz M) (ha : a.spot = none) (h1 : l ≤ h) (h2 : h ≤ n) (h3 : h ≤ m) (h4 : m ≤ cap) :
  SliceC (if m = l then c else c.add (l * sz)) (a.add (l * sz)) (h - l) (m - l) sz (M - l * sz) := by
 rcases hc with ⟨rfl, hn, hm⟩ | ⟨rfl, rfl⟩
 ·by_cases e : m = l
  ·rw [if_pos e];exact .inr ⟨Z4, Z4⟩
  ·rw [if_neg e];refine .inl ⟨rfl, Z4, ?_⟩;rw [Nat.sub_mul];have : m * sz ≤ cap * sz := Nat.mul_le_mul_right sz h4;omega
 ·rw [if_pos Z4];exact .inr ⟨Z4, Z4⟩
include H in
theorem sliceT_sim {t elem : TypeId} {size bytes : Nat} {zero : Option Value} {meth : Array Method} {cmp : Bool} (hty : C.ty t = some ⟨.slice elem, size, bytes, zero, meth, cmp⟩) {et : Ty} (het : C.ty elem = some et) {n : Nat} {cs sp : List Value} {x' : Value} (hx : InlR β.ice (.slice n et.size cs sp) x')
    {lo hi mx lo' hi' mx' : Option Value} {v : Value} (hv : sliceT C.cod n et.size cs sp lo hi mx = some v) (h1 : OpR β lo lo') (h2 : OpR β hi hi') (h3 : OpR β mx mx') :
    ∃ v', (Instr.sliceAt t x' lo' hi' mx').run P w = .ok v' w ∧ VR β v v' := by
  have hz : 0 < et.size := by cases hx <;> assumption
  have key : ∀ (c : Addr) (cap l h m : Nat), (Instr.sliceBounds true n cap lo' hi' mx').run P w = .ok (l, h, m) w → (Instr.sliceAt t (.slice (some c) n cap) lo' hi' mx').run P w = .ok (.slice (some (if m = l then c else c.add (l * et.size))) (h - l) (m - l)) w := by
    intro c cap l h m hm
    simp only [Instr.sliceAt, Instr.slice, Sem.run_bind, run_under H hty, Result.andThen_ok, hm, run_size H het, Sem.run_pure]
    split <;> rfl
  have keyN : ∀ (l h m : Nat), (Instr.sliceBounds true 0 0 lo' hi' mx').run P w = .ok (l, h, m) w → l = 0 → h = 0 → m = 0 → (Instr.sliceAt t (.slice none 0 0) lo' hi' mx').run P w = .ok (.slice none 0 0) w := by
    rintro l h m hm rfl rfl rfl
    simp [Instr.sliceAt, Instr.slice, run_under H hty, hm, run_size H het]
  have part : ∀ (l h : Nat), boundsV n lo hi mx = some (l, h) → ∃ (x'' : Value) (m : Nat), (Instr.sliceAt t x' lo' hi' mx').run P w = .ok x'' w ∧ (∀ k, mx = some (.int k l) → InlR β.ice .bare x'') ∧ InlR β.ice (.slice (h - l) et.size ((cs.drop (l * et.size)).take ((h - l) * et.size)) []) x'' := by
    intro l h hb
    cases hx with
    | none =>
      obtain ⟨m, hm, r1, r2, r3, r4⟩ := bounds_sim (P := P) (w := w) hb h1 h2 h3 (Nat.le_refl 0) true
      refine ⟨_, 0, keyN l h m hm (by omega) (by omega) (by omega), fun _ _ => .bareNil, ?_⟩
      obtain rfl : h = 0 := by omega
      obtain rfl : l = 0 := by omega
      simpa using InlR.none hz
    | @empty _ cap a =>
      obtain ⟨m, hm, r1, r2, r3, r4, r5, _⟩ := bounds_simX (P := P) (w := w) hb h1 h2 h3 (Nat.zero_le cap) true
      obtain rfl : h = 0 := by omega
      obtain rfl : l = 0 := by omega
      refine ⟨_, 0, key a cap 0 0 m hm, fun k e => ?_, by simpa using InlR.empty hz⟩
      have := r5 _ _ e
      obtain rfl : m = 0 := by omega
      exact .bare
    | @slice _ _ cap b o _ _ _ hl hn hc hI =>
      obtain ⟨m, hm, r1, r2, r3, r4, r5, _⟩ := bounds_simX (P := P) (w := w) hb h1 h2 h3 hn true
      refine ⟨_, 0, key _ cap l h m hm, fun k e => ?_, ?_⟩
      · have := r5 _ _ e
        obtain rfl : m = l := by omega
        have : h = m := by omega
        subst this
        rw [if_pos rfl, Nat.sub_self]
        exact .bare
      · by_cases hlh : l = h
        · subst hlh
          rw [Nat.sub_self, Nat.zero_mul, List.take_zero]
          exact .empty hz
        · have hml : m ≠ l := by omega
          rw [if_neg hml, addr_add]
          have hmul : (h - l) * et.size + l * et.size ≤ n * et.size := by
            rw [← Nat.add_mul]; exact Nat.mul_le_mul_right _ (by omega)
          refine .slice hz ?_ (by omega) ?_ fun j v hj => ?_
          · rw [List.length_take, List.length_drop]; omega
          · rw [List.length_take, List.length_drop, List.length_nil]
            have : (h - l) * et.size ≤ (m - l) * et.size := Nat.mul_le_mul_right _ (by omega)
            omega
          · rw [List.append_nil] at hj
            have hjl : j < (h - l) * et.size := by
              have := (List.getElem?_eq_some_iff.1 hj).1
              rw [List.length_take] at this; omega
            rw [List.getElem?_take_of_lt hjl, List.getElem?_drop] at hj
            rw [Nat.add_assoc]
            refine hI _ _ ?_
            rw [List.getElem?_append_left (List.getElem?_eq_some_iff.1 hj).1]
            exact hj
  unfold sliceT at hv
  split at hv
  · rename_i l h hb
    obtain ⟨x'', m, hr, hbare, hs⟩ := part l h hb
    split at hv
    · obtain rfl := Option.some.inj hv
      exact ⟨_, hr, tok_mk H hs⟩
    · rename_i k m0
      split at hv
      · rename_i e
        obtain rfl := Option.some.inj hv
        exact ⟨_, hr, tok_mk H (hbare k (by rw [e]))⟩
      · obtain rfl := Option.some.inj hv
        exact ⟨_, hr, tok_mk H hs⟩
    · cases hv
  · split at hv
    · rename_i k h _
      split at hv
      · rename_i hh
        obtain ⟨hh1, hh2⟩ := hh
        obtain rfl := Option.some.inj hv
        obtain ⟨h, rfl⟩ : ∃ h' : Nat, h = (h' : Int) := ⟨h.toNat, by omega⟩
        have hh1 : n < h := by omega
        have hh2 : h * et.size ≤ n * et.size + sp.length := by exact_mod_cast hh2
        cases h1
        cases h3
        cases h2 with
        | some h2 =>
        obtain rfl := int_inv h2
        have hmul : n * et.size + et.size ≤ h * et.size := by
          have := Nat.mul_le_mul_right et.size (show n + 1 ≤ h from hh1)
          rwa [Nat.succ_mul] at this
        cases hx with
        | none => exfalso; simp at hh2; omega
        | empty => exfalso; simp at hh2; omega
        | @slice _ _ cap b o _ _ _ hl hn hc hI =>
          have hcap : h ≤ cap := by
            have : h * et.size ≤ cap * et.size := by omega
            exact Nat.le_of_mul_le_mul_right this hz
          have hbd : (Instr.sliceBounds true n cap none (some (.int k (h : Int))) none).run P w = .ok (0, h, cap) w := by
            have hc0 : (0 : Int) ≤ (h : Int) ∧ (h : Int) ≤ (cap : Int) := by omega
            simp [Instr.sliceBounds, Instr.sliceBound, asIntOf, hcap]
          refine ⟨_, key _ _ _ _ _ hbd, tok_mk H ?_⟩
          rw [if_neg (by omega), Nat.zero_mul, Int.toNat_natCast, Nat.sub_zero, Nat.sub_zero, addr_add, Nat.add_zero]
          refine .slice hz ?_ hcap ?_ fun j v hj => ?_
          · rw [List.length_take, List.length_append]; omega
          · rw [List.length_take, List.length_nil]
            have : h * et.size ≤ cap * et.size := Nat.mul_le_mul_right _ hcap
            omega
          · rw [List.append_nil] at hj
            have hjl : j < h * et.size := by
              have := (List.getElem?_eq_some_iff.1 hj).1
              rw [List.length_take] at this; omega
            rw [List.getElem?_take_of_lt hjl] at hj
            exact hI _ _ hj
      · cases hv
    · cases hv
include H in
theorem slice_sim {t : TypeId} {x x' : Value} {lo hi mx lo' hi' mx' : Option Value} {v : Value} (hv : sliceV C t x lo hi mx = some v) (hx : VR β x x') (h1 : OpR β lo lo') (h2 : OpR β hi hi') (h3 : OpR β mx mx') :
    ∃ v', (Instr.sliceAt t x' lo' hi' mx').run P w = .ok v' w ∧ VR β v v' := by
  unfold sliceV at hv
  split at hv
  · rename_i b hty
    obtain rfl := string_inv hx
    split at hv
    · rename_i l h hb
      obtain rfl := Option.some.inj hv
      cases h3
      obtain ⟨m, hm, _⟩ := bounds_sim (P := P) (w := w) hb h1 h2 .none (Nat.le_refl _) false
      refine ⟨_, ?_, .string _⟩
      simp [Instr.sliceAt, Instr.slice, run_under H hty, hm]
    · cases hv
  · rename_i elem _ _ _ _ _ a len sz hty
    split at hv
    · rename_i l h a hb
      split at hv
      · rename_i et het
        split at hv
        · rename_i he
          subst he
          have key : ∀ (c : Addr) (cap : Nat), len ≤ cap → ∃ m, (Instr.sliceAt t (.slice (some c) len cap) lo' hi' mx').run P w = .ok (.slice (some (if m = l then c else c.add (l * et.size))) (h - l) (m - l)) w ∧ l ≤ h ∧ h ≤ len ∧ h ≤ m ∧ m ≤ cap ∧ (∀ k i, mx = some (.int k i) → (m : Int) = i) ∧ (mx = none → m = cap) := by
            intro c cap hcap
            obtain ⟨m, hm, r⟩ := bounds_simX (P := P) (w := w) hb h1 h2 h3 hcap true
            refine ⟨m, ?_, r⟩
            simp only [Instr.sliceAt, Instr.slice, Sem.run_bind, run_under H hty, Result.andThen_ok, hm, run_size H het, Sem.run_pure]
            split <;> rfl
          split at hv
          · obtain rfl := Option.some.inj hv
            cases hx with
            | @sliceVir i o hi0 _ hvir hz h00 =>
              obtain ⟨m, hm, r1, r2, r3, r4⟩ := bounds_sim (P := P) (w := w) hb h1 h2 h3 (Nat.le_refl 0) true
              obtain rfl : m = 0 := by omega
              obtain rfl : h = 0 := by omega
              obtain rfl : l = 0 := by omega
              refine ⟨.slice none 0 0, ?_, .sliceVir hvir hz (Nat.le_trans h00 (Nat.le_add_right _ _))⟩
              simp [Instr.sliceAt, Instr.slice, run_under H hty, hm, run_size H het]
            | sliceObj hb' hz hc =>
              have hcap := hc
              rcases hcap with ⟨_, hcap, _⟩ | ⟨rfl, rfl⟩
              · obtain ⟨m, hm, r1, r2, r3, r4, _, r6⟩ := key _ _ hcap
                refine ⟨_, hm, ?_⟩
                have := hc.cut rfl r1 r2 r3 r4
                rw [addr_add] at this
                exact .sliceObj hb' hz this
              · obtain ⟨m, hm, r1, r2, r3, r4, _, r6⟩ := key _ 0 (Nat.le_refl _)
                refine ⟨_, hm, ?_⟩
                have := hc.cut rfl r1 r2 r3 r4
                rw [addr_add] at this
                exact .sliceObj hb' hz this
            | @sliceArr i o hi0 _ _ cap L c hL g1 g2 hz hs hc hbd =>
              have hle : len ≤ cap := by
                rcases hc with ⟨_, hcap, _⟩ | ⟨rfl, rfl⟩
                · exact hcap
                · exact Nat.le_refl _
              obtain ⟨m, hm, r1, r2, r3, r4, _, r6⟩ := key c cap hle
              refine ⟨_, hm, ?_⟩
              have hcut := hc.cut rfl r1 r2 r3 r4
              rw [addr_add, show L.base + (o - L.lo) + l * et.size = L.base + (o + l * et.size - L.lo) from by omega] at hcut
              have hmul : (h - l) * et.size + l * et.size ≤ len * et.size := by
                rw [← Nat.add_mul]; exact Nat.mul_le_mul_right _ (by omega)
              have hlm : l * et.size ≤ len * et.size := Nat.mul_le_mul_right _ (by omega)
              have hb2 : L.base + (o + l * et.size - L.lo) ≤ L.size := by
                rcases hc with ⟨_, hcap, hcm⟩ | ⟨_, _, h0, _⟩
                · have : len * et.size ≤ cap * et.size := Nat.mul_le_mul_right _ hcap
                  omega
                · have : l = 0 := by omega
                  subst this; simpa using hs
              show VR β (.slice (some ⟨i, o + l * et.size, some hi0⟩) (h - l) et.size) _
              have hmc := r6 rfl
              refine .sliceArr hL (by omega) (by omega) hz hb2 ?_ (fun hcd => by
                have hbd := hbd hcd
                have := Nat.sub_mul m l et.size
                have : l * et.size ≤ m * et.size := Nat.mul_le_mul_right _ (by omega)
                subst hmc
                omega)
              rw [show L.size - (L.base + (o + l * et.size - L.lo)) = L.size - (L.base + (o - L.lo)) - l * et.size from by omega]
              exact hcut
          · rename_i k0 m0
            split at hv
            · rename_i e
              obtain rfl := Option.some.inj hv
              cases hx with
              | @sliceVir i o hi0 _ hvir hz h00 =>
                obtain ⟨m, hm, r1, r2, r3, r4⟩ := bounds_sim (P := P) (w := w) hb h1 h2 h3 (Nat.le_refl 0) true
                obtain rfl : m = 0 := by omega
                obtain rfl : h = 0 := by omega
                obtain rfl : l = 0 := by omega
                refine ⟨.slice none 0 0, ?_, tok_mk H .bareNil⟩
                simp [Instr.sliceAt, Instr.slice, run_under H hty, hm, run_size H het]
              | @sliceObj _ _ _ _ _ cap m1 c hb' hz hc =>
                have hle : len ≤ cap := by
                  rcases hc with ⟨_, hcap, _⟩ | ⟨rfl, rfl⟩
                  · exact hcap
                  · exact Nat.le_refl _
                obtain ⟨m, hm, r1, r2, r3, r4, r5, _⟩ := key c cap hle
                have r7 := r5 _ _ rfl
                obtain rfl : m = l := by omega
                obtain rfl : h = m := by omega
                refine ⟨_, hm, tok_mk H ?_⟩
                rw [if_pos rfl, Nat.sub_self]
                exact .bare
              | @sliceArr i o hi0 _ _ cap L c hL g1 g2 hz hs hc hbd =>
                have hle : len ≤ cap := by
                  rcases hc with ⟨_, hcap, _⟩ | ⟨rfl, rfl⟩
                  · exact hcap
                  · exact Nat.le_refl _
                obtain ⟨m, hm, r1, r2, r3, r4, r5, _⟩ := key c cap hle
                have r7 := r5 _ _ rfl
                obtain rfl : m = l := by omega
                obtain rfl : h = m := by omega
                refine ⟨_, hm, tok_mk H ?_⟩
                rw [if_pos rfl, Nat.sub_self]
                exact .bare
            · split at hv
              · cases hv
              rename_i hcd
              obtain rfl := Option.some.inj hv
              cases hx with
              | @sliceVir i o hi0 _ hvir hz h00 =>
                obtain ⟨m, hm, r1, r2, r3, r4⟩ := bounds_sim (P := P) (w := w) hb h1 h2 h3 (Nat.le_refl 0) true
                obtain rfl : m = 0 := by omega
                obtain rfl : h = 0 := by omega
                obtain rfl : l = 0 := by omega
                refine ⟨.slice none 0 0, ?_, .sliceVir hvir hz (Nat.le_trans h00 (Nat.le_add_right _ _))⟩
                simp [Instr.sliceAt, Instr.slice, run_under H hty, hm, run_size H het]
              | sliceObj hb' hz hc =>
                have hcap := hc
                rcases hcap with ⟨_, hcap, _⟩ | ⟨rfl, rfl⟩
                · obtain ⟨m, hm, r1, r2, r3, r4, _, r6⟩ := key _ _ hcap
                  refine ⟨_, hm, ?_⟩
                  have := hc.cut rfl r1 r2 r3 r4
                  rw [addr_add] at this
                  exact .sliceObj hb' hz this
                · obtain ⟨m, hm, r1, r2, r3, r4, _, r6⟩ := key _ 0 (Nat.le_refl _)
                  refine ⟨_, hm, ?_⟩
                  have := hc.cut rfl r1 r2 r3 r4
                  rw [addr_add] at this
                  exact .sliceObj hb' hz this
              | @sliceArr i o hi0 _ _ cap L c hL g1 g2 hz hs hc hbd =>
                have hle : len ≤ cap := by
                  rcases hc with ⟨_, hcap, _⟩ | ⟨rfl, rfl⟩
                  · exact hcap
                  · exact Nat.le_refl _
                obtain ⟨m, hm, r1, r2, r3, r4, _, r6⟩ := key c cap hle
                refine ⟨_, hm, ?_⟩
                have hcut := hc.cut rfl r1 r2 r3 r4
                rw [addr_add, show L.base + (o - L.lo) + l * et.size = L.base + (o + l * et.size - L.lo) from by omega] at hcut
                have hmul : (h - l) * et.size + l * et.size ≤ len * et.size := by
                  rw [← Nat.add_mul]; exact Nat.mul_le_mul_right _ (by omega)
                have hlm : l * et.size ≤ len * et.size := Nat.mul_le_mul_right _ (by omega)
                have hb2 : L.base + (o + l * et.size - L.lo) ≤ L.size := by
                  rcases hc with ⟨_, hcap, hcm⟩ | ⟨_, _, h0, _⟩
                  · have : len * et.size ≤ cap * et.size := Nat.mul_le_mul_right _ hcap
                    omega
                  · have : l = 0 := by omega
                    subst this; simpa using hs
                show VR β (.slice (some ⟨i, o + l * et.size, some hi0⟩) (h - l) et.size) _
                refine .sliceArr hL (by omega) (by omega) hz hb2 ?_ (fun h => absurd h hcd)
                rw [show L.size - (L.base + (o + l * et.size - L.lo)) = L.size - (L.base + (o - L.lo)) - l * et.size from by omega]
                exact hcut
          · cases hv
        · cases hv
      · cases hv
    · rename_i l h hb
      split at hv
      · rename_i he
        obtain ⟨rfl, rfl, rfl, rfl, hsome⟩ := he
        obtain ⟨et, het⟩ := Option.isSome_iff_exists.1 hsome
        obtain rfl := Option.some.inj hv
        cases hx
        obtain ⟨m, hm, _, _, _, r4⟩ := bounds_sim (P := P) (w := w) hb h1 h2 h3 (Nat.le_refl _) true
        obtain rfl : m = 0 := by omega
        refine ⟨_, ?_, .sliceNil⟩
        simp [Instr.sliceAt, Instr.slice, run_under H hty, hm, run_size H het]
      · cases hv
    · cases hv
  · rename_i n elem _ _ _ _ _ a hty
    split at hv
    · rename_i l h et hb het
      split at hv
      · cases hv
      · rename_i hn
        obtain rfl := Option.some.inj hv
        have hz : 0 < et.size := by
          rcases Nat.eq_zero_or_pos et.size with h | h
          · exact absurd (.inl h) hn
          · exact h
        obtain ⟨m, hm, r1, r2, r3, r4⟩ := bounds_sim (P := P) (w := w) hb h1 h2 h3 (Nat.le_refl n) false
        cases hx with
        | ptrArr => exact absurd (.inr rfl) hn
        | @ptrObj i o b hb' =>
          refine ⟨.slice (some (if m = l then ⟨b, o, none⟩ else (⟨b, o, none⟩ : Addr).add (l * et.size))) (h - l) (m - l), ?_, ?_⟩
          · simp only [Instr.sliceAt, Instr.sureAddr, Sem.run_bind, run_under H hty, Result.andThen_ok, hm, run_size H het, Sem.run_pure]
          · have hc : SliceC ⟨b, o, none⟩ ⟨b, o, none⟩ n n et.size (n * et.size) := .inl ⟨rfl, Nat.le_refl _, Nat.le_refl _⟩
            have := hc.cut rfl r1 r2 r3 r4
            rw [addr_add] at this ⊢
            exact .sliceObj hb' hz this
    · cases hv
  · rename_i arr _ _ _ _ _ a hty
    split at hv
    · rename_i n elem _ _ _ _ _ harr
      split at hv
      · rename_i l h et hb het
        split at hv
        · cases hv
        · rename_i hn
          obtain rfl := Option.some.inj hv
          have hz : 0 < et.size := by
            rcases Nat.eq_zero_or_pos et.size with h | h
            · exact absurd (.inl h) hn
            · exact h
          obtain ⟨m, hm, r1, r2, r3, r4⟩ := bounds_sim (P := P) (w := w) hb h1 h2 h3 (Nat.le_refl n) false
          cases hx with
          | ptrArr => exact absurd (.inr rfl) hn
          | @ptrObj i o b hb' =>
            refine ⟨.slice (some (if m = l then ⟨b, o, none⟩ else (⟨b, o, none⟩ : Addr).add (l * et.size))) (h - l) (m - l), ?_, ?_⟩
            · simp only [Instr.sliceAt, Instr.slice, asAddr, Sem.run_bind, run_under H hty, run_under H harr, Result.andThen_ok, hm, run_size H het, Sem.run_pure]
            · have hc : SliceC ⟨b, o, none⟩ ⟨b, o, none⟩ n n et.size (n * et.size) := .inl ⟨rfl, Nat.le_refl _, Nat.le_refl _⟩
              have := hc.cut rfl r1 r2 r3 r4
              rw [addr_add] at this ⊢
              exact .sliceObj hb' hz this
      · cases hv
    · cases hv
  · rename_i elem _ _ _ _ _ c hty
    split at hv
    · rename_i et n sz cs sp het hd
      split at hv
      · rename_i he
        subst he
        exact sliceT_sim H hty het (tok_inv H hx hd) hv h1 h2 h3
      · cases hv
    · cases hv
  · cases hv
include H in
theorem assert_sim {t xt : TypeId} {x x' : Value} {ok : Bool} {v : Value} (hv : assertV C x t ok = some v) (hx : VR β x x') : ∃ v', (Instr.typeAssert x' xt t ok).run P w = .ok v' w ∧ VR β v v' := by
  have zeroR : ∀ {ty : Ty} {z : Value}, C.ty t = some ty → ty.zero = some z → VR β z z := fun h hz => litOk_self β (H.zero _ _ _ h hz)
  have failsR : ∀ {ty : Ty} {a b : Option TypeId} {m : String}, C.ty t = some ty → (if ok = true then ty.zero.map fun z => Value.tuple #[z, .bool false] else none) = some v →
      ∃ v', (do if ok then pure (.tuple #[← zeroValue t, .bool false]) else runtimePanic (.typeAssertion a b t m) : Sem Value).run P w = .ok v' w ∧ VR β v v' := by
    intro ty a b m hty h
    cases ok with
    | false => simp at h
    | true =>
      simp only [if_true] at h
      rw [Option.map_eq_some_iff] at h
      obtain ⟨z, hz, rfl⟩ := h
      exact ⟨_, by simp [run_zero H hty hz], .tuple (.cons (zeroR hty hz) (.cons (.bool _) .nil))⟩
  have holdsR : ∀ {y y' : Value}, VR β y y' → some (if ok = true then Value.tuple #[y, .bool true] else y) = some v → ∃ v', (pure (if ok then .tuple #[y', .bool true] else y') : Sem Value).run P w = .ok v' w ∧ VR β v v' := by
    intro y y' hy h
    obtain rfl := Option.some.inj h
    cases ok with
    | false => exact ⟨_, rfl, hy⟩
    | true => exact ⟨_, rfl, .tuple (.cons hy (.cons (.bool _) .nil))⟩
  unfold assertV at hv
  simp only at hv
  split at hv
  · rename_i hty
    cases hx
    simp only [Instr.typeAssert, Sem.run_bind, run_under H hty, Result.andThen_ok]
    exact failsR hty hv
  · rename_i want _ _ _ _ _ u y hty
    cases hx with
    | iface hx =>
      split at hv
      · rename_i ut hut
        obtain ⟨i, hi, _, _, _, _, hm, _⟩ := run_info (w := w) H hut
        simp only [Instr.typeAssert, Sem.run_bind, run_under H hty, Result.andThen_ok, hi, hm]
        unfold missing at hv
        cases hmm : Instr.missingMethod want ut.methods with
        | none =>
          rw [hmm] at hv
          simp only [Option.isSome_none, Bool.false_eq_true, if_false] at hv
          exact holdsR (.iface hx) hv
        | some m =>
          rw [hmm] at hv
          simp only [Option.isSome_some, if_true] at hv
          exact failsR hty hv
      · cases hv
  · rename_i ty hni hty
    cases hx
    have : ∀ ms, ty.desc ≠ .interface ms := by
      intro ms h
      cases ty
      simp only at h
      subst h
      exact hni _ _ _ _ _ _ rfl
    simp only [Instr.typeAssert, Sem.run_bind, run_under H hty, Result.andThen_ok]
    cases hd : ty.desc <;> first
      | exact failsR hty hv
      | exact absurd hd (this _)
  · rename_i ty u y hni hty
    cases hx with
    | iface hx =>
      have : ∀ ms, ty.desc ≠ .interface ms := by
        intro ms h
        cases ty
        simp only at h
        subst h
        exact hni _ _ _ _ _ _ rfl
      simp only [Instr.typeAssert, Sem.run_bind, run_under H hty, Result.andThen_ok]
      split at hv
      · rename_i e
        cases hd : ty.desc <;> first
          | (simp only [e, if_true]; exact holdsR hx hv)
          | exact absurd hd (this _)
      · rename_i e
        cases hd : ty.desc <;> first
          | (simp only [e, if_false]; exact failsR hty hv)
          | exact absurd hd (this _)
  · cases hv
include H in
theorem conv_sim {a b : TypeId} {x x' v : Value} (hv : convV C a b x = some v) (hx : VR β x x') : ∃ v', (convert a b x').run P w = .ok v' w ∧ VR β v v' := by
 unfold convV at hv
 split at hv
 ·rename_i ta hta htb
  obtain rfl := int_inv hx
  obtain rfl := Option.some.inj hv
  refine ⟨_, ?_, .int _ _⟩
  simp only [convert, Sem.run_bind, run_under H hta, run_under H htb, Result.andThen_ok, Conv.intToInt, Sem.run_pure]
 ·rename_i ta hta htb
  obtain rfl := string_inv hx
  obtain rfl := Option.some.inj hv
  refine ⟨_, ?_, .string _⟩
  simp only [convert, Sem.run_bind, run_under H hta, run_under H htb, Result.andThen_ok, Sem.run_pure]
 ·cases hv
end
end Go.Ai
/-
  Memory: loads, stores, new things.
-/
namespace Go.Ai
def St.WF (s : St) : Prop := ∀ i, s.n ≤ i → s.get i = none
theorem St.WF.lt {s : St} (h : s.WF) {i : Nat} {o : AObj} (hg : s.get i = some o) : i < s.n := by
 by_cases hi : i < s.n
 ·exact hi
 ·rw [h i Z4] at hg; cases hg
theorem St.WF.set {s : St} (h : s.WF) {i : Nat} {o o' : AObj} (hg : s.get i = some o) : (s.set i o').WF := by
 intro j hj;rw [St.get_set];have := h.lt hg;rw [St.n_set] at hj;rw [if_neg Z4];exact h j hj
theorem St.WF.new {s : St} (h : s.WF) (o : AObj) : (s.new o).WF := by
 intro j hj;rw [St.n_new] at hj;rw [St.get_new, if_neg Z4];exact h j Z4
def Bij.setObj (β : Bij) (i b : Nat) : Bij := { β with obj := fun j => if j = i then some b else β.obj j }
def Bij.setArr (β : Bij) (i hi : Nat) (L : ArrLoc) : Bij := { β with arr := fun j k => if j = i ∧ k = hi then some L else β.arr j k }
def upd (own : Nat → Option Nat) (b : Nat) (i : Option Nat) : Nat → Option Nat := fun c => if c = b then i else own c
theorem Bij.le_setObj {β : Bij} {i b : Nat} (h : β.obj i = none) : β.le (β.setObj i b) := by
 refine ⟨fun j c hj => ?_, fun j k L hj => hj, fun _ h => h, fun _ _ _ h => h, fun _ _ h => h⟩;simp only [Bij.setObj];rw [if_neg (by rintro rfl; rw [h] at hj; cases hj)];exact hj
theorem Bij.le_setArr {β : Bij} {i hi : Nat} {L : ArrLoc} (h : β.arr i hi = none ∨ β.arr i hi = some L) : β.le (β.setArr i hi L) := by
 refine ⟨fun j c hj => hj, fun j k M hj => ?_, fun _ h => h, fun _ _ _ h => h, fun _ _ h => h⟩;simp only [Bij.setArr];split
 ·rename_i e;obtain ⟨rfl, rfl⟩ := e;rcases h with h | h
  ·rw [h] at hj; cases hj
  ·rw [h] at hj; exact hj
 ·exact hj
theorem change {K : Code → Prop} {β β' : Bij} {own own' : Nat → Option Nat} {s s' : St} {w w' : World} (h : SR K β own s.get w) (S : Nat → Prop)
  (hS : ∀ j, S j → j < s'.n ∧ (j < s.n → β.dom j)) (nle : s.n ≤ s'.n) (hle : β.le β')
  (hobj : ∀ j, ¬ S j → β'.obj j = β.obj j) (harr : ∀ j, ¬ S j → β'.arr j = β.arr j) (hg : ∀ j, ¬ S j → s'.get j = s.get j)
  (hsz : w.heap.size ≤ w'.heap.size) (hb : ∀ b, b < w.heap.size → (∀ j, own b = some j → ¬ S j) → own' b = own b ∧ w'.heap[b]? = w.heap[b]?)
  (o1 : ∀ j, S j → ∀ b, β'.obj j = some b → own' b = some j ∧ b < w'.heap.size ∧ ∀ o, s'.get j = some o → ObjR β' K o w'.heap[b]?)
  (o2 : ∀ j, S j → ∀ hi L, β'.arr j hi = some L → ∀ cs mv ro, s'.get j = some (.arr cs mv ro) → hi ≤ cs.length ∧ (mv ≤ hi → ArrR β' L cs hi ro w'.heap[L.block]? ∧ L.block < w'.heap.size ∧ own' L.block = (if ro then none else some j)))
  (o5 : ∀ j, S j → ∀ hi hi' L L', β'.arr j hi = some L → β'.arr j hi' = some L' → L.block = L'.block → L = L')
  (o6 : ∀ j, S j → ∀ hi L, β'.arr j hi = some L → L.block < w'.heap.size)
  (o3 : ∀ j, S j → (∃ b, β'.obj j = some b) → ¬ ∃ hi L, β'.arr j hi = some L)
  (o4 : ∀ b i, own' b = some i → b < w'.heap.size) (e1 : w'.os = w.os) (e2 : w'.tape = w.tape) (e3 : w'.output = w.output)
  (hvir : β'.vir = β.vir := by rfl) (hice : β'.ice = β.ice := by rfl) (o7 : ∀ j, S j → (∃ b, β'.obj j = some b) → ¬ β.vir j := by exact fun j _ hj => SR.vir Z2 j hj) (e4 : DrLe w.drawn w'.drawn := by first | exact DrLe.refl _ | assumption) (hfix : β'.fix = β.fix := by rfl) :
  Ext β own s w β' own' s' w' ∧ SR K β' own' s'.get w' := by
 refine ⟨⟨hle, fun j hj => ?_, nle, fun j hj hd => ?_, hsz, fun b hbl ho => ?_, e1, e2, e3, fun j hj => have hs : ¬ S j := fun hs => Nat.not_lt_of_le hj (hS j hs).1; ⟨hobj j hs, harr j hs, by rw [hvir]⟩, fun j hj => .inl (by rw [← hvir]; exact hj), e4⟩, ⟨fun j b hjb => ?_, fun j hi L hjL cs mv ro hc => ?_, fun j hi hi' L L' h1 h2 hbl => ?_, fun j hi L hjL => ?_, fun j hj => ?_, o4, fun j hj => ?_, h.ice.mono hice hsz (fun b hbl ho => let ⟨q1, q2⟩ := hb b hbl fun j hj => (by rw [ho] at hj; cases hj); ⟨q1.trans ho, q2⟩) hfix⟩⟩
 ·by_cases hs : S j
  ·by_cases hn : j < s.n
   ·exact .inl ((hS j hs).2 hn)
   ·exact .inr ⟨Z4, (hS j hs).1⟩
  ·refine .inl ?_;rcases hj with ⟨b, hb⟩ | ⟨hi, L, hL⟩ | hv
   ·exact .inl ⟨b, by rw [← hobj j hs]; exact hb⟩
   ·exact .inr ⟨hi, L, by rw [← harr j hs]; exact hL⟩
   ·exact .vir (by rw [← hvir]; exact hv)
 ·by_cases hs : S j
  ·exact absurd ((hS j hs).2 hj) hd
  ·exact hg j hs
 ·exact hb b hbl fun j hj hs => by have := ho j hj; have := (hS j hs).1; omega
 ·by_cases hs : S j
  ·exact o1 j hs b hjb
  ·rw [hobj j hs] at hjb;obtain ⟨g1, g2, g3⟩ := h.obj j b hjb;obtain ⟨g4, g5⟩ := hb b g2 fun i hi => by rw [g1] at hi; obtain rfl := Option.some.inj hi; exact hs
   refine ⟨g4.trans g1, Nat.lt_of_lt_of_le g2 hsz, fun o ho => ?_⟩;rw [g5];exact (g3 o (by rw [← hg j hs]; exact ho)).mono hle
 ·by_cases hs : S j
  ·exact o2 j hs hi L hjL cs mv ro hc
  ·rw [harr j hs] at hjL;rw [hg j hs] at hc;obtain ⟨g0, gv⟩ := h.arr j hi L hjL cs mv ro hc;refine ⟨g0, fun hv => ?_⟩;obtain ⟨g1, g2, g3⟩ := gv hv;obtain ⟨g4, g5⟩ := hb L.block g2 fun i hi => by
    rw [g3] at hi;split at hi
    ·cases hi
    ·obtain rfl := Option.some.inj hi; exact hs
   rw [g5];exact ⟨g1.mono hle, Nat.lt_of_lt_of_le g2 hsz, g4.trans g3⟩
 ·by_cases hs : S j
  ·exact o5 j hs hi hi' L L' h1 h2 hbl
  ·rw [harr j hs] at h1 h2;exact h.loc j hi hi' L L' h1 h2 hbl
 ·by_cases hs : S j
  ·exact o6 j hs hi L hjL
  ·rw [harr j hs] at hjL;exact Nat.lt_of_lt_of_le (h.blk j hi L hjL) hsz
 ·by_cases hs : S j
  ·exact o3 j hs hj
  ·rw [hobj j hs] at hj;rw [harr j hs];exact h.one j hj
 ·rw [hvir];by_cases hs : S j
  ·exact o7 j hs hj
  ·rw [hobj j hs] at hj;exact h.vir j hj
section
variable {P : Program} {C : Cfg} {K : Code → Prop} (H : CfgOk P C K) {β : Bij} {own : Nat → Option Nat} {s : St} {w : World}
def SimV (P : Program) (K : Code → Prop) (β : Bij) (own : Nat → Option Nat) (s : St) (w : World) (m : Sem Value) (v : Value) (s' : St) : Prop :=
 ∃ β' own' w' v', m.run P w = .ok v' w' ∧ Ext β own s w β' own' s' w' ∧ SR K β' own' s'.get w' ∧ VR β' v v'
def SimU (P : Program) (K : Code → Prop) (β : Bij) (own : Nat → Option Nat) (s : St) (w : World) (m : Sem Unit) (s' : St) : Prop :=
 ∃ β' own' w', m.run P w = .ok () w' ∧ Ext β own s w β' own' s' w' ∧ SR K β' own' s'.get w'
theorem SimV.same (hs : SR K β own s.get w) {m : Sem Value} {v : Value} (h : ∃ v', m.run P w = .ok v' w ∧ VR β v v') : SimV P K β own s w m v s :=
 let ⟨v', h1, h2⟩ := h
 ⟨β, own, w, v', h1, .refl .., hs, h2⟩
theorem Free.obj {s s' : St} (h : Free β s s') (hn : s.n < s'.n) : β.obj s.n = none := by
 cases hb : β.obj s.n with
 | none => rfl
 | some b => rcases h s.n (.inl ⟨b, hb⟩) with h | h <;> omega
theorem Free.arr {s s' : St} (h : Free β s s') (hn : s.n < s'.n) (hi : Nat) : β.arr s.n hi = none := by
 cases hb : β.arr s.n hi with
 | none => rfl
 | some L => rcases h s.n (.inr ⟨hi, L, hb⟩) with h | h <;> omega
theorem Free.vir {s s' : St} (h : Free β s s') (hn : s.n < s'.n) : ¬ β.vir s.n := fun hv => by
 rcases h s.n (.vir hv) with h | h <;> omega
theorem new_obj {s' : St} (hs : SR K β own s.get w) (hf : Free β s s') (o : AObj) (O : Obj) (hn : s.n < s'.n) (ho : ObjR (β.setObj s.n w.heap.size) K o (some O)) :
  Ext β own s w (β.setObj s.n w.heap.size) (upd own w.heap.size (some s.n)) (s.new o) (w.alloc O) ∧ SR K (β.setObj s.n w.heap.size) (upd own w.heap.size (some s.n)) (s.new o).get (w.alloc O) := by
 have h1 := hf.obj hn;have h2 := hf.arr hn;refine change hs (fun j => j = s.n) ?_ Z0x (Bij.le_setObj h1) ?_ ?_ ?_ Z0u ?_ ?_ ?_ ?_ ?_ ?_ ?_ rfl rfl rfl rfl rfl (by rintro j rfl _; exact hf.vir hn)
 ·rintro j rfl; rw [St.n_new]; exact ⟨Z4, fun h => Z4⟩
 ·intro j hj; simp [Bij.setObj, hj]
 ·intro j hj; rfl
 ·intro j hj; rw [St.get_new, if_neg hj]
 ·intro b hb _;refine ⟨by simp [upd]; omega, heap_alloc_old w O b hb⟩
 ·rintro j rfl b hb;simp [Bij.setObj] at hb
  subst hb;refine ⟨by simp [upd], Z0u, fun o' ho' => ?_⟩;rw [St.get_new, if_pos rfl] at ho';obtain rfl := Option.some.inj ho';rw [heap_alloc_new];exact ho
 ·rintro j rfl hi L hL;exfalso;have : β.arr s.n hi = some L := hL;rw [h2] at this; cases this
 ·rintro j rfl hi hi' L L' hL;exfalso;have : β.arr s.n hi = some L := hL;rw [h2] at this; cases this
 ·rintro j rfl hi L hL;exfalso;have : β.arr s.n hi = some L := hL;rw [h2] at this; cases this
 ·rintro j rfl _ ⟨hi, L, hL⟩;have : β.arr s.n hi = some L := hL;rw [h2] at this; cases this
 ·intro b i hb;simp only [upd] at hb;split at hb
  ·rename_i e; subst e; simp
  ·have := hs.small b i hb; simp; omega
theorem new_arr {s' : St} (hs : SR K β own s.get w) (hf : Free β s s') (cs : List Value) (c : Array Value) (t : TypeId) (fr : Nat × Nat) (hn : s.n < s'.n) (hfr : Loose fr c.size) (hle : cs.length ≤ c.size)
  (hc : ∀ (j : Nat) (v : Value), cs[j]? = some v → ∃ v', c[j]? = some v' ∧ VR β v v') :
  Ext β own s w (β.setArr s.n cs.length ⟨w.heap.size, 0, 0, c.size⟩) (upd own w.heap.size (some s.n)) (s.new (.arr cs 0 false)) (w.alloc (.cells c t fr)) ∧
   SR K (β.setArr s.n cs.length ⟨w.heap.size, 0, 0, c.size⟩) (upd own w.heap.size (some s.n)) (s.new (.arr cs 0 false)).get (w.alloc (.cells c t fr)) := by
 have h1 := hf.obj hn;have h2 := hf.arr hn;have hle' : β.le (β.setArr s.n cs.length ⟨w.heap.size, 0, 0, c.size⟩) := Bij.le_setArr (.inl (h2 _));refine change hs (fun j => j = s.n) ?_ Z0x hle' ?_ ?_ ?_ Z0u ?_ ?_ ?_ ?_ ?_ ?_ ?_ rfl rfl rfl
 ·rintro j rfl; rw [St.n_new]; exact ⟨Z4, fun h => Z4⟩
 ·intro j hj; rfl
 ·intro j hj; funext k; simp [Bij.setArr, hj]
 ·intro j hj; rw [St.get_new, if_neg hj]
 ·intro b hb _;exact ⟨by simp [upd]; omega, heap_alloc_old w _ b hb⟩
 ·rintro j rfl b hb;exfalso;have : β.obj s.n = some b := hb;rw [h1] at this; cases this
 ·rintro j rfl hi L hL cs' mv ro hcs;rw [St.get_new, if_pos rfl] at hcs;obtain ⟨rfl, rfl, rfl⟩ := by simpa using hcs
  simp only [Bij.setArr] at hL;split at hL
  ·rename_i e;obtain ⟨_, rfl⟩ := e;obtain rfl := Option.some.inj hL;refine ⟨Nat.le_refl _, fun _ => ⟨⟨Nat.zero_le _, by simpa using hle, c, t, fr, heap_alloc_new w _, fun _ => hfr, rfl, fun j hj0 hj => ?_⟩, Z0u, by simp [upd]⟩⟩;obtain ⟨v, hv⟩ : ∃ v, cs[j]? = some v := ⟨cs[j], by simp [hj]⟩;obtain ⟨v', hv', hr⟩ := hc j v hv;exact ⟨v, v', hv, by simpa using hv', hr.mono hle'⟩
  ·rw [h2] at hL; cases hL
 ·rintro j rfl hi hi' L L' hL hL' _;simp only [Bij.setArr] at hL hL';split at hL
  ·split at hL'
   ·rw [hL] at hL'; exact Option.some.inj hL'
   ·rw [h2] at hL'; cases hL'
  ·rw [h2] at hL; cases hL
 ·rintro j rfl hi L hL;simp only [Bij.setArr] at hL;split at hL
  ·obtain rfl := Option.some.inj hL; simp
  ·rw [h2] at hL; cases hL
 ·rintro j rfl ⟨b, hb⟩;exfalso;have : β.obj s.n = some b := hb;rw [h1] at this; cases this
 ·intro b i hb;simp only [upd] at hb;split at hb
  ·rename_i e; subst e; simp
  ·have := hs.small b i hb; simp; omega
theorem set_obj (hs : SR K β own s.get w) (hw : s.WF) {i b : Nat} {o o0 : AObj} {O : Obj} {w' : World} (hb : β.obj i = some b) (hi : s.get i = some o0) (hO : w'.heap[b]? = some O) (ho : ObjR β K o (some O))
  (hsz : w'.heap.size = w.heap.size) (hoth : ∀ c, c ≠ b → w'.heap[c]? = w.heap[c]?) (e1 : w'.os = w.os) (e2 : w'.tape = w.tape) (e3 : w'.output = w.output) (e4 : DrLe w.drawn w'.drawn := by first | exact DrLe.refl _ | assumption) :
  Ext β own s w β own (s.set i o) w' ∧ SR K β own (s.set i o).get w' := by
 have hlt := hw.lt hi;refine change hs (fun j => j = i) ?_ (Nat.le_refl _) (Bij.le_refl β) (fun _ _ => rfl) (fun _ _ => rfl) ?_ Z4 ?_ ?_ ?_ ?_ ?_ ?_ ?_ e1 e2 e3
 ·rintro j rfl; exact ⟨hlt, fun _ => .inl ⟨b, hb⟩⟩
 ·intro j hj; rw [St.get_set, if_neg hj]
 ·intro c hc hno;refine ⟨rfl, hoth c ?_⟩;rintro rfl;exact hno i (hs.obj i c hb).1 rfl
 ·rintro j rfl c hc;rw [hb] at hc;obtain rfl := Option.some.inj hc;obtain ⟨g1, g2, _⟩ := hs.obj j b hb;refine ⟨g1, Z4, fun o' ho' => ?_⟩;rw [St.get_set, if_pos rfl] at ho';obtain rfl := Option.some.inj ho';rw [hO]; exact ho
 ·rintro j rfl hi L hL;exact absurd ⟨hi, L, hL⟩ (hs.one j ⟨b, hb⟩)
 ·rintro j rfl; exact hs.loc j
 ·rintro j rfl hi L hL; have := hs.blk j hi L hL; omega
 ·rintro j rfl h; exact hs.one j h
 ·intro c j hc; have := hs.small c j hc; omega
theorem cellsAt_sim (hs : SR K β own s.get w) {a : Addr} {n : Nat} {cs : List Value} (h : s.cellsAt a n = some cs) {a' : Addr} (ha : VR β (.pointer (some a)) (.pointer (some a'))) :
    ∃ cs', VRs β cs cs' ∧ cs.length = n ∧ ∀ (j : Nat) (v : Value), cs'[j]? = some v → w.cell? (a'.add j) = some v := by
  unfold St.cellsAt at h;split at h
  · rename_i l hg hsp
    split at h
    · rename_i hle
      obtain rfl := Option.some.inj h;cases ha with
      | ptrArr => cases hsp
      | @ptrObj i o b hb =>
        obtain ⟨_, _, g3⟩ := hs.obj _ _ hb;obtain ⟨c, t, e, hr, _⟩ := g3 _ hg;simp only at hle;refine ⟨(c.toList.drop o).take n, (hr.drop _).take _, Z0d, fun j v hj => ?_⟩;rw [addr_add];rw [List.getElem?_take] at hj;split at hj
        · rw [List.getElem?_drop] at hj
          simp only [World.cell?, e];simpa using hj
        · cases hj
    · cases h
  · rename_i l mv ro hi hg hsp
    split at h
    · rename_i hle
      obtain ⟨hm, hl, hle⟩ := hle;obtain rfl := Option.some.inj h;cases ha with
      | ptrObj hb => cases hsp
      | @ptrArr i o hi' L hL h1 =>
        obtain rfl := Option.some.inj hsp;obtain ⟨⟨g1, g2, c, t, fr, e, _, hcs, g4⟩, _⟩ := (hs.arr _ _ _ hL _ _ _ hg).2 hm;simp only at hle;refine ⟨(c.toList.drop (L.base + (o - L.lo))).take n, ?_, Z0d, fun j v hj => ?_⟩
        · refine .of Z0d fun j v v' hv hv' => ?_
          rw [List.getElem?_take] at hv hv';split at hv
          · rename_i hjn
            rw [if_pos hjn] at hv';rw [List.getElem?_drop] at hv hv';obtain ⟨x, x', hx, hx', hr⟩ := g4 (o + j) Z4 Z4;rw [hx] at hv;obtain rfl := Option.some.inj hv;rw [show L.base + (o + j - L.lo) = L.base + (o - L.lo) + j from Z4] at hx';have : c.toList[L.base + (o - L.lo) + j]? = some x' := by simpa using hx'
            rw [this] at hv';obtain rfl := Option.some.inj hv';exact hr
          · cases hv
        · rw [addr_add]
          rw [List.getElem?_take] at hj;split at hj
          · rw [List.getElem?_drop] at hj
            simp only [World.cell?, e];simpa using hj
          · cases hj
    · cases h
  · cases h
include H in
theorem load_sim (hs : SR K β own s.get w) {t : TypeId} {x x' v : Value} (hv : loadV C s t x = some v) (hx : VR β x x') : ∃ v', (Instr.loadAt t x').run P w = .ok v' w ∧ VR β v v' := by
  unfold loadV at hv
  split at hv
  · rename_i ty a hty
    obtain ⟨a', rfl, _⟩ := ptr_plus (n := 0) hx
    simp only [Instr.loadAt, Instr.sureAddr, loadVar, Sem.run_bind, Sem.run_pure, Result.andThen_ok, run_isAgg H hty]
    split at hv
    · rename_i hagg
      rw [Option.map_eq_some_iff] at hv
      obtain ⟨cs, hcs, rfl⟩ := hv
      obtain ⟨cs', hr, hl, hc⟩ := cellsAt_sim hs hcs hx
      have hl' : cs'.length = ty.size := hr.length.trans hl
      refine ⟨.agg cs'.toArray, ?_, .agg (by simpa using hr)⟩
      rw [if_pos hagg]
      simp only [Sem.run_bind, run_size H hty, Result.andThen_ok]
      have := run_loadCells_list (P := P) w a' cs' hc
      rw [hl'] at this
      rw [this]; rfl
    · rename_i hagg
      split at hv
      · rename_i u hcs
        obtain rfl := Option.some.inj hv
        obtain ⟨cs', hr, hl, hc⟩ := cellsAt_sim hs hcs hx
        obtain ⟨v', l', rfl, hvr, ht⟩ := hr.cons_inv
        obtain rfl := ht.nil_inv
        have h0 := hc 0 v' rfl
        have h0 : w.cell? a' = some v' := by simpa [Addr.add] using h0
        refine ⟨v', ?_, hvr⟩
        rw [if_neg hagg, run_load, h0]
      · cases hv
  · rename_i ty c hty
    split at hv
    · rename_i cs hd
      have hi := tok_inv H hx hd
      cases hi with
      | @ptr b o _ hI =>
      simp only [Instr.loadAt, Instr.sureAddr, loadVar, Sem.run_bind, Sem.run_pure, Result.andThen_ok, run_isAgg H hty]
      split at hv
      · rename_i hagg
        split at hv
        · rename_i hle
          obtain rfl := Option.some.inj hv
          obtain ⟨cs', hr, hl, hc⟩ := ice_cells (cs := cs.take ty.size) hs fun j v hj => by
            have hjl : j < ty.size := by
              have := (List.getElem?_eq_some_iff.1 hj).1
              rw [List.length_take] at this; omega
            rw [List.getElem?_take_of_lt hjl] at hj
            exact hI _ _ hj
          have hl' : cs'.length = ty.size := by rw [hl, List.length_take]; omega
          refine ⟨.agg cs'.toArray, ?_, .agg (by simpa using hr)⟩
          rw [if_pos hagg]
          simp only [Sem.run_bind, run_size H hty, Result.andThen_ok]
          have := run_loadCells_list (P := P) w ⟨b, o, none⟩ cs' fun j v hj => by
            rw [addr_add, hc j (by rw [← hl]; exact (List.getElem?_eq_some_iff.1 hj).1), hj]
          rw [hl'] at this
          rw [this]; rfl
        · cases hv
      · rename_i hagg
        cases cs with
        | nil => cases hv
        | cons u cs =>
          obtain rfl := Option.some.inj hv
          obtain ⟨_, _, _, _, x, h1, h2⟩ := hs.ice.at_ _ _ _ (hI 0 _ rfl)
          refine ⟨x, ?_, h2⟩
          rw [if_neg hagg, run_load]
          rw [Nat.add_zero] at h1
          rw [h1]
    · cases hv
  · cases hv
end
end Go.Ai
/-
  Stores, rows: making, appending, copying; bytes and strings.
-/
namespace Go.Ai
section
variable {P : Program} {C : Cfg} {K : Code → Prop} (H : CfgOk P C K) {β : Bij} {own : Nat → Option Nat} {s s' : St} {w : World}
theorem loose_frozen {fr : Nat × Nat} {n i : Nat} {g : Nat} {c : Array Value} {t : TypeId} (h : w.heap[g]? = some (.cells c t fr)) (hf : Loose fr n) (hi : i < n) : w.frozen? ⟨g, i, none⟩ = false := by
 simp only [World.frozen?, h];rcases hf with h | h
 ·rw [h];by_cases h1 : fr.2 ≤ i
  ·have : ¬ i < fr.2 := by omega
   simp [this]
  ·simp [h1]
 ·have : ¬ fr.1 ≤ i := by omega
  simp [this]
theorem refy_oneCell {v : Value} (h : refy v = true) : v.oneCell' = true := by cases v <;> first | rfl | (simp [refy] at h)
theorem VR.one {v v' : Value} (h : VR β v v') (h1 : Ai.one v = true) : v'.oneCell' = true := by
 cases h <;> first | rfl | (rename_i h _; exact refy_oneCell h) | (simp [Ai.one] at h1)
theorem setRow_self' (w : World) (g : Nat) (cur : Array Value) (t : TypeId) (fr : Nat × Nat) (hg : w.heap[g]? = some (.cells cur t fr)) : w.setRow g cur = w := setRow_self w g cur t fr hg
theorem run_storeCells_loose (g o : Nat) (t : TypeId) (fr : Nat × Nat) : ∀ (vs : List Value) (i : Nat) (cur : Array Value) (w : World), w.heap[g]? = some (.cells cur t fr) → Loose fr cur.size → o + i + vs.length ≤ cur.size → (∀ v ∈ vs, v.oneCell' = true) →
    ∃ cur', (storeCells ⟨g, o, none⟩ vs i).run P w = .ok () (w.setRow g cur') ∧ cur'.toList = splice cur.toList (o + i) vs
  | [], i, cur, w, hg, _, hl, _ => by
    refine ⟨cur, ?_, by simp [splice]⟩;rw [setRow_self' w g cur t fr hg]; rfl
  | v :: rest, i, cur, w, hg, hf, hl, h1 => by
    simp only [List.length_cons] at hl;have hi : o + i < cur.size := Z4
    have hcell : w.cell? ⟨g, o + i, none⟩ = some cur[o + i] := by simp [World.cell?, hg, hi]
    have hfro : w.frozen? ⟨g, o + i, none⟩ = false := loose_frozen hg hf hi;have hst : (store ((⟨g, o, none⟩ : Addr).add i) v).run P w = .ok () (w.setRow g (cur.setIfInBounds (o + i) v)) := by
      rw [addr_add, run_store P w _ v _ (h1 v Z0u), hcell];simp [hfro, setCell_eq_setRow w g (o + i) cur t fr v hg]
    obtain ⟨cur', h2, h3⟩ := run_storeCells_loose g o t fr rest (i + 1) (cur.setIfInBounds (o + i) v) (w.setRow g (cur.setIfInBounds (o + i) v)) (setRow_heap w g cur _ t fr hg) (by simpa using hf) Z0d (fun x hx => h1 x (by simp [hx]));refine ⟨cur', ?_, ?_⟩
    · simp only [storeCells, Sem.run_bind, hst, Result.andThen_ok, h2, setRow_setRow]
    · rw [h3]
      have h4 : o + i + (v :: rest).length ≤ cur.toList.length := Z0d
      apply List.ext_getElem?;intro j;rw [splice_get _ _ _ Z0d, splice_get _ _ _ h4, Array.toList_setIfInBounds, List.getElem?_set];by_cases a1 : o + (i + 1) ≤ j ∧ j < o + (i + 1) + rest.length
      · rw [if_pos a1, if_pos Z0d]
        obtain ⟨m, rfl⟩ : ∃ m, j = o + (i + 1) + m := ⟨j - (o + (i + 1)), Z4⟩;rw [show o + (i + 1) + m - (o + (i + 1)) = m from Z4, show o + (i + 1) + m - (o + i) = m + 1 from Z4];rfl
      · rw [if_neg a1]
        by_cases a2 : o + i = j
        · subst a2
          rw [if_pos rfl, if_pos Z0d, if_pos Z0u];simp
        · rw [if_neg a2, if_neg Z0d]
theorem all_one {vs vs' : List Value} (h : VRs β vs vs') (h1 : vs.all one = true) : ∀ v ∈ vs', v.oneCell' = true := by
 intro v hv;obtain ⟨j, hj⟩ := List.getElem?_of_mem hv;obtain ⟨x, hx, hr⟩ := h.get' hj;exact hr.one (List.all_eq_true.1 h1 x (List.mem_of_getElem? hx))
theorem putCells_sim (hs : SR K β own s.get w) (hw : s.WF) {a a' : Addr} {vs vs' : List Value} (h : s.putCells a vs = some s') (ha : VR β (.pointer (some a)) (.pointer (some a'))) (hv : VRs β vs vs') :
    ∃ w', (storeCells a' vs').run P w = .ok () w' ∧ Ext β own s w β own s' w' ∧ SR K β own s'.get w' ∧ s'.WF ∧ s'.n = s.n := by
  unfold St.putCells at h;have hvl := hv.length;split at h
  · rename_i cs ty hg hsp
    split at h
    · rename_i hb
      obtain ⟨hle, hone⟩ := hb;obtain rfl := Option.some.inj h;cases ha with
      | ptrArr => cases hsp
      | @ptrObj i o b hbj =>
        obtain ⟨_, hbs, g3⟩ := hs.obj _ _ hbj;obtain ⟨c, t, e, hr, hty⟩ := g3 _ hg;have hcl := hr.length;simp only at hle hg;have hsize : o + vs'.length ≤ c.size := by simp at hcl; omega
        obtain ⟨cur', h1, h2⟩ := run_storeCells_loose (P := P) b o t (0, 0) vs' 0 c w e (.inl rfl) (by simpa using hsize) (all_one hv hone);rw [Nat.add_zero] at h2;obtain ⟨x1, x2⟩ := set_obj (w' := w.setRow b cur') (o := .cells (splice cs o vs) ty) (O := .cells cur' t (0, 0)) hs hw hbj hg (setRow_heap w b c cur' t (0, 0) e)
          ⟨cur', t, rfl, by rw [h2]; exact hr.splice o hv, hty⟩ Z0u (fun k hk => setRow_other w b k cur' hk) rfl rfl rfl
        exact ⟨_, h1, x1, x2, hw.set hg, rfl⟩
    · cases h
  · rename_i cs mv hi hg hsp
    split at h
    · rename_i hb
      obtain ⟨hmv, hhi, hle, hone⟩ := hb;obtain rfl := Option.some.inj h;cases ha with
      | ptrObj => cases hsp
      | @ptrArr i o hi' L hL hlo =>
        obtain rfl := Option.some.inj hsp;subst hhi;simp only at hle hg;obtain ⟨_, gv⟩ := hs.arr _ _ _ hL _ _ _ hg;obtain ⟨⟨g1, g2, c, t, fr, e, hfr, hcs, g4⟩, gs, go⟩ := gv hmv;simp only [Bool.false_eq_true, if_false] at go;have hlt := hw.lt hg;obtain ⟨cur', h1, h2⟩ := run_storeCells_loose (P := P) L.block (L.base + (o - L.lo)) t fr vs' 0 c w e (hfr rfl) (by rw [Nat.add_zero]; omega) (all_one hv hone);rw [Nat.add_zero] at h2;have hcur : cur'.size = c.size := by
          have : cur'.toList.length = c.toList.length := by rw [h2]; exact length_splice _ _ _ Z0d
          simpa using this
        have key := change (s' := s.set i (.arr (splice cs o vs) cs.length false)) (w' := w.setRow L.block cur') (β' := β) (own' := own) hs (fun j => j = i) Z11 (Nat.le_refl _) (Bij.le_refl β) (fun _ _ => rfl) (fun _ _ => rfl)
          (fun j hj => Z23) Z0u
          (fun b hb hno => ⟨rfl, setRow_other w L.block b cur' Z1x⟩)
          (by
            rintro j rfl b hb;exact absurd ⟨_, L, hL⟩ (hs.one j ⟨b, hb⟩))
          (by
            rintro j rfl hi2 L2 hL2 cs2 mv2 ro2 hc2;rw [St.get_set, if_pos rfl] at hc2;obtain ⟨rfl, rfl, rfl⟩ := by simpa using hc2
            have hll : (splice cs o vs).length = cs.length := length_splice _ _ _ Z4;have hle2 := (hs.arr _ _ _ hL2 _ _ _ hg).1;refine ⟨by rw [hll]; exact hle2, fun hv2 => ?_⟩;have : hi2 = cs.length := Z4
            subst this;rw [hL] at hL2;obtain rfl := Option.some.inj hL2;refine ⟨⟨g1, g2, cur', t, fr, setRow_heap w L.block c cur' t fr e, fun _ => by rw [hcur]; exact hfr rfl, hcur.trans hcs, fun k hk1 hk2 => ?_⟩, by simpa using gs, by simpa using go⟩;obtain ⟨v, v', hv1, hv2, hvr⟩ := g4 k hk1 hk2;have hcl : L.base + (o - L.lo) + vs'.length ≤ c.toList.length := Z0d
            have e2 : cur'[L.base + (k - L.lo)]? = (splice c.toList (L.base + (o - L.lo)) vs')[L.base + (k - L.lo)]? := by rw [← h2]; simp
            rw [e2, splice_get _ _ _ hcl, splice_get _ _ _ hle];by_cases hin : o ≤ k ∧ k < o + vs.length
            · rw [if_pos hin, if_pos Z4]
              obtain ⟨x, hx⟩ : ∃ x, vs[k - o]? = some x := ⟨vs[k - o]' Z4, by rw [List.getElem?_eq_getElem]⟩;obtain ⟨x', hx', hxr⟩ := hv.get hx;exact ⟨x, x', hx, by rw [show L.base + (k - L.lo) - (L.base + (o - L.lo)) = k - o from Z4]; exact hx', hxr⟩
            · rw [if_neg hin, if_neg Z4]
              exact ⟨v, v', hv1, by simpa using hv2, hvr⟩)
          (by rintro j rfl; exact hs.loc j) (by rintro j rfl hi2 L2 hL2; simpa using hs.blk j hi2 L2 hL2) (by rintro j rfl h; exact hs.one j h) (fun b j hb => by simpa using hs.small b j hb) rfl rfl rfl
        exact ⟨_, h1, key.1, key.2, hw.set hg, rfl⟩
    · cases h
  · cases h
include H in
theorem store_sim (hs : SR K β own s.get w) (hw : s.WF) {t : TypeId} {x x' v v' : Value} (h : storeV C s t x v = some s') (hx : VR β x x') (hv : VR β v v') :
  ∃ w', (Instr.storeAt t x' v').run P w = .ok () w' ∧ Ext β own s w β own s' w' ∧ SR K β own s'.get w' ∧ s'.WF ∧ s'.n = s.n := by
 unfold storeV at h
 split at h
 ·rename_i ty a hty
  split at h
  ·rename_i hsz
   obtain ⟨a', rfl, _⟩ := ptr_plus (n := 0) hx
   obtain ⟨w', h1, r⟩ := putCells_sim (P := P) hs hw h hx hv.cells
   refine ⟨w', ?_, r⟩
   simp only [Instr.storeAt, Instr.sureAddr, storeVar, Sem.run_bind, Sem.run_pure, Result.andThen_ok, run_size H hty]
   rw [if_neg (by rw [hv.cells_size]; exact Classical.not_not.2 hsz)]
   exact h1
  ·cases h
 ·cases h
theorem zeros_get (z : List Value) : ∀ (n j : Nat) (_hz : 0 < z.length), (zeros z n)[j]? = if j < n * z.length then z[j % z.length]? else none
  | 0, j, _ => by simp [zeros]
  | n + 1, j, hz => by
    unfold zeros;by_cases h : j < z.length
    · rw [List.getElem?_append_left h, if_pos (by rw [Nat.succ_mul]; omega), Nat.mod_eq_of_lt h]
    · rw [List.getElem?_append_right Z4, zeros_get z n _ hz]
      have e : (j - z.length) % z.length = j % z.length := by
        conv => rhs; rw [show j = (j - z.length) + z.length from Z4]
        rw [Nat.add_mod_right]
      rw [e];have : (j - z.length < n * z.length) ↔ j < (n + 1) * z.length := by rw [Nat.succ_mul]; omega
      by_cases hj : j < (n + 1) * z.length
      · rw [if_pos hj, if_pos (this.2 hj)]
      · rw [if_neg hj, if_neg (fun x => hj (this.1 x))]
theorem zeros_length (z : List Value) : ∀ n, (zeros z n).length = n * z.length
 | 0 => by simp [zeros]
 | n + 1 => by simp [zeros, zeros_length z n, Nat.succ_mul]; omega
theorem rowZeros (z : Array Value) (m : Nat) (hz : 0 < z.size) (n : Nat) (hm : m = n * z.size) : ((Array.range m).map fun i => z[i % z.size]!).toList = zeros z.toList n := by
 subst hm;apply List.ext_getElem?;intro j;rw [zeros_get _ _ _ (by simpa using hz)];simp only [Array.toList_map, Array.toList_range, List.getElem?_map];by_cases h : j < n * z.size
 ·have hr : (List.range (n * z.size))[j]? = some j := by simp [h]
  rw [hr, if_pos Z15];have : j % z.size < z.size := Nat.mod_lt _ hz;simp [this, getElem!_pos]
 ·have hr : (List.range (n * z.size))[j]? = none := by simp; omega
  rw [hr, if_neg Z15]; rfl
include H in
theorem buildSlice_sim (hs : SR K β own s.get w) (hw : s.WF) (hf : Free β s s') {t : TypeId} {len : Nat} {parts : List (Nat × Value)} {parts' : Array (Nat × Value)} {v : Value} (hv : buildSliceV C s t len parts = some (v, s'))
    (h1 : parts'.toList.map (·.1) = parts.map (·.1)) (h2 : VRs β (parts.map (·.2)) (parts'.toList.map (·.2))) : SimV P K β own s w (Instr.buildSlice t len parts') v s' ∧ s'.WF := by
  unfold buildSliceV at hv
  split at hv
  · rename_i elem _ _ _ _ _ hty
    split at hv
    · rename_i desc sz bytes z meth cmp het
      split at hv
      · rename_i hb
        obtain ⟨hb1, hb2, hb3⟩ := hb
        rw [Option.map_eq_some_iff] at hv
        obtain ⟨cs, hcs, e⟩ := hv
        obtain ⟨rfl, rfl⟩ := Prod.mk.inj e
        have hz0 := H.zero _ _ _ het rfl
        have hrow := rowZeros z.cells (len * sz) (by omega) len (by rw [hb2])
        obtain ⟨r', hr, hrr⟩ := fill_sim (β := β) (place := fun i => some (i * sz, sz)) (place' := fun i => some (i * sz, sz)) (fun _ _ h => h) _ parts'.toList _ ((Array.range (len * sz)).map fun i => z.cells[i % z.cells.size]!) cs
          (by
            rw [hrow]
            refine .of rfl fun j v v' hv hv' => ?_
            rw [hv] at hv'
            obtain rfl := Option.some.inj hv'
            rw [zeros_get _ _ _ (by simp; omega)] at hv
            split at hv
            · obtain ⟨x, hx, hxr⟩ := (litOk_self β hz0).cells.get hv
              rw [hv] at hx
              obtain rfl := Option.some.inj hx
              exact hxr
            · cases hv) h1 h2 hcs
        have hl : cs.length = len * sz := by
          have : ∀ (parts : List (Nat × Value)) (c r : List Value), fillV (fun i => some (i * sz, sz)) c parts = some r → r.length = c.length := by
            intro parts
            induction parts with
            | nil => intro c r h; obtain rfl := Option.some.inj h; rfl
            | cons x rest ih =>
              intro c r h
              obtain ⟨i, v⟩ := x
              unfold fillV at h
              simp only at h
              split at h
              · cases h
              · rename_i hn
                rw [ih _ _ h, length_splice]
                by_cases q : v.cells.size = sz
                · by_cases q2 : i * sz + sz ≤ c.length
                  · simp; omega
                  · exact absurd (by simp; right; omega) hn
                · exact absurd (by simp [q]) hn
          rw [this _ _ _ hcs, zeros_length, hb2]; simp
        have hrl : r'.size = len * sz := by have := hrr.length; simp at this; omega
        obtain ⟨x1, x2⟩ := new_arr hs hf cs r' elem (0, 0) (by rw [St.n_new]; omega) (.inl rfl) (by omega) (fun j v hj => by
          obtain ⟨v', a, b⟩ := hrr.get hj
          exact ⟨v', by simpa using a, b⟩)
        refine ⟨⟨_, _, _, .slice (some ⟨w.heap.size, 0, none⟩) len len, ?_, x1, x2, ?_⟩, hw.new _⟩
        · simp only [Instr.buildSlice, Sem.run_bind, run_under H hty, Result.andThen_ok, run_size H het]
          rw [if_neg (by omega)]
          by_cases hz : len * sz = 0
          · rw [if_pos hz]
            have hl0 : len = 0 := by
              rcases Nat.mul_eq_zero.1 hz with h | h
              · exact h
              · omega
            subst hl0
            simp only [Sem.run_bind, Sem.run_pure, Result.andThen_ok]
            have e1 : ((Array.range (0 * sz)).map fun x => (#[] : Array Value)[x % (#[] : Array Value).size]!) = (Array.range (0 * sz)).map fun i => z.cells[i % z.cells.size]! := by
              apply Array.ext' ; simp
            rw [e1, hr]
            simp [newRow]
          · rw [if_neg hz]
            simp only [Sem.run_bind, run_zero H het rfl, Result.andThen_ok, Sem.run_pure, hr]
            simp [newRow]
        · refine .sliceArr (L := ⟨w.heap.size, 0, 0, r'.size⟩) ?_ (Nat.le_refl _) (by simp) hb3 (by simp) (.inl ⟨rfl, Nat.le_refl _, by simp [hrl]⟩) (fun _ => by simp)
          simp [Bij.setArr, hl]
      · cases hv
    · cases hv
  · cases hv
include H in
theorem makeSlice_sim (hs : SR K β own s.get w) (hw : s.WF) (hf : Free β s s') {t : TypeId} {l c l' c' v : Value} (hv : makeSliceV C s t l c = some (v, s')) (h1 : VR β l l') (h2 : VR β c c') :
  SimV P K β own s w (Instr.makeSlice t l' c') v s' ∧ s'.WF := by
 unfold makeSliceV at hv
 split at hv
 ·rename_i elem _ _ _ _ _ kl l kc c hty
  obtain rfl := int_inv h1
  obtain rfl := int_inv h2
  split at hv
  ·rename_i desc sz bytes z meth cmp het
   split at hv
   ·rename_i hb
    obtain ⟨b1, b2, b3, b4, b5, b6⟩ := hb
    obtain ⟨rfl, rfl⟩ := Prod.mk.inj (Option.some.inj hv)
    have hz0 := H.zero _ _ _ het rfl
    obtain ⟨i, hi, _, _, hby, _⟩ := run_info (w := w) H het
    have wl : IntKind.i64.wrap l = l := by
     unfold IntKind.wrap; simp [IntKind.bits, IntKind.signed]; omega
    have wc : IntKind.i64.wrap c = c := by
     unfold IntKind.wrap; simp [IntKind.bits, IntKind.signed]; omega
    have hrow := rowZeros z.cells (c.toNat * sz) (by omega) c.toNat (by rw [b5])
    have hle : (zeros z.cells.toList l.toNat).length ≤ ((Array.range (c.toNat * sz)).map fun i => z.cells[i % z.cells.size]!).size := by
     rw [zeros_length]
     have := Nat.mul_le_mul_right sz (show l.toNat ≤ c.toNat by omega)
     simp [← b5]; exact this
    obtain ⟨x1, x2⟩ := new_arr hs hf (zeros z.cells.toList l.toNat) ((Array.range (c.toNat * sz)).map fun i => z.cells[i % z.cells.size]!) elem (0, 0) (by rw [St.n_new]; omega) (.inl rfl) hle (fun j v hj => by
     have hj0 := hj
     rw [zeros_get _ _ _ (by simp; omega)] at hj
     split at hj
     ·rename_i hjl
      obtain ⟨x, hx, hxr⟩ := (litOk_self β hz0).cells.get hj
      refine ⟨x, ?_, hxr⟩
      rw [← Array.getElem?_toList, hrow, zeros_get _ _ _ (by simp; omega), if_pos]
      ·exact hx
      ·have := Nat.mul_le_mul_right z.cells.toList.length (show l.toNat ≤ c.toNat by omega)
       omega
     ·cases hj)
    refine ⟨⟨_, _, _, .slice (some ⟨w.heap.size, 0, none⟩) l.toNat c.toNat, ?_, x1, x2, ?_⟩, hw.new _⟩
    ·have hbig : (i.bytes : Int) * c ≤ 281474976710656 := by
      have h0 : ((bytes * c.toNat : Nat) : Int) ≤ (281474976710656 : Nat) := Int.ofNat_le.2 b4
      rw [Int.natCast_mul, Int.toNat_of_nonneg (by omega)] at h0
      rw [hby]; exact h0
     have t2 : decide ((i.bytes : Int) * c > 2 ^ 48) = false := decide_eq_false (by rw [show (2 : Int) ^ 48 = 281474976710656 from rfl]; omega)
     have t1 : decide (c < 0) = false := decide_eq_false (by omega)
     have t3 : decide (l < 0) = false := decide_eq_false (by omega)
     have t4 : decide (l > c) = false := decide_eq_false (by omega)
     simp only [Instr.makeSlice, Sem.run_bind, run_under H hty, Result.andThen_ok, asInt, asIntOf, Sem.run_pure, hi, wl, wc, t1, t2, t3, t4, Bool.or_self, Bool.false_eq_true, if_false]
     simp only [run_askRoom, Result.andThen_ok, run_size H het]
     by_cases hz : c.toNat * sz = 0
     ·have hc0 : c.toNat = 0 := by
       rcases Nat.mul_eq_zero.1 hz with h | h
       ·exact h
       ·omega
      rw [if_pos hz]
      have e1 : ((Array.range (c.toNat * sz)).map fun x => (#[] : Array Value)[x % (#[] : Array Value).size]!) = (Array.range (c.toNat * sz)).map fun i => z.cells[i % z.cells.size]! := by
       rw [hz]; apply Array.ext'; simp
      simp only [Sem.run_bind, Sem.run_pure, Result.andThen_ok]
      rw [e1]
      simp [newRow]
     ·rw [if_neg hz]
      simp only [Sem.run_bind, run_zero H het rfl, Result.andThen_ok, Sem.run_pure]
      simp [newRow]
    ·refine .sliceArr (L := ⟨w.heap.size, 0, 0, ((Array.range (c.toNat * sz)).map fun i => z.cells[i % z.cells.size]!).size⟩) ?_ (Nat.le_refl _) (by simp) b6 (by simp) (.inl ⟨rfl, by omega, by simp⟩) (fun _ => by rw [Nat.zero_add]; exact Nat.mul_le_mul_right _ (by omega))
     simp [Bij.setArr, zeros_length, ← b5]
   ·cases hv
  ·cases hv
 ·cases hv
end
end Go.Ai