/-
  Slice expressions, assertions, conversions.
-/
import Derived.Test.YtfnbgfmmlgbfjaaGreatDoorAiOps3
namespace Go.Ai

inductive OpR (β : Bij) : Option Value → Option Value → Prop where
  | none : OpR β none none
  | some {v v' : Value} (h : VR β v v') : OpR β (some v) (some v')

section
variable {P : Program} {C : Cfg} {K : Code → Prop} (H : CfgOk P C K) {β : Bij} {own : Nat → Option Nat} {s : St} {w : World}

theorem bound_sim {x x' : Option Value} {d y r : Nat} (hv : bound x d y = some r) (hx : OpR β x x') (code : BoundsCode) :
    (x = none ∧ x' = none ∧ r = d) ∨ (∃ v, x = some v ∧ x' = some v ∧ r ≤ y ∧ ∀ m, r ≤ m → (Instr.sliceBound v m code).run P w = .ok r w) := by
  unfold bound at hv
  split at hv
  · cases hx; obtain rfl := Option.some.inj hv; exact .inl ⟨rfl, rfl, rfl⟩
  · rename_i k i
    cases hx with
    | some h =>
      obtain rfl := int_inv h
      split at hv
      · rename_i hb
        obtain rfl := Option.some.inj hv
        refine .inr ⟨_, rfl, rfl, by omega, fun m hm => ?_⟩
        simp only [Instr.sliceBound, asIntOf, Sem.run_bind, Sem.run_pure, Result.andThen_ok]
        rw [if_pos (by omega)]; rfl
      · cases hv
  · cases hv

theorem bounds_sim {len cap : Nat} {lo hi mx lo' hi' mx' : Option Value} {l h : Nat} (hv : boundsV len lo hi mx = some (l, h)) (h1 : OpR β lo lo') (h2 : OpR β hi hi') (h3 : OpR β mx mx') (hc : len ≤ cap) (b : Bool) :
    ∃ m, (Instr.sliceBounds b len cap lo' hi' mx').run P w = .ok (l, h, m) w ∧ l ≤ h ∧ h ≤ len ∧ h ≤ m ∧ m ≤ cap := by
  unfold boundsV at hv
  split at hv
  · cases hv
  · rename_i m hm
    split at hv
    · cases hv
    · rename_i h0 hh
      split at hv
      · cases hv
      · rename_i l0 hl
        obtain ⟨rfl, rfl⟩ := Prod.mk.inj (Option.some.inj hv)
        -- the third bound
        have hm' : ∃ m', m ≤ m' ∧ m ≤ len ∧ m' ≤ cap ∧ ((mx = none ∧ mx' = none ∧ m = len ∧ m' = cap) ∨ (∃ v, mx = some v ∧ mx' = some v ∧ m' = m ∧ ∀ code, (Instr.sliceBound v cap code).run P w = .ok m w)) := by
          rcases bound_sim (P := P) (w := w) hm h3 .index with ⟨rfl, rfl, rfl⟩ | ⟨v, rfl, rfl, hle, hr⟩
          · exact ⟨cap, hc, Nat.le_refl _, Nat.le_refl _, .inl ⟨rfl, rfl, rfl, rfl⟩⟩
          · refine ⟨m, Nat.le_refl _, hle, by omega, .inr ⟨v, rfl, rfl, rfl, fun code => ?_⟩⟩
            rcases bound_sim (P := P) (w := w) hm h3 code with ⟨h, _⟩ | ⟨v', e, _, _, hr'⟩
            · cases h
            · cases e; exact hr' cap (by omega)
        obtain ⟨m', hmm, hml, hmc, hmx⟩ := hm'
        have hl2 : ∀ code, (lo = none ∧ lo' = none ∧ l0 = 0) ∨ (∃ v, lo = some v ∧ lo' = some v ∧ l0 ≤ h0 ∧ (Instr.sliceBound v h0 code).run P w = .ok l0 w) := by
          intro code
          rcases bound_sim (P := P) (w := w) hl h1 code with ⟨a, b, c⟩ | ⟨v, a, b, c, d⟩
          · exact .inl ⟨a, b, c⟩
          · exact .inr ⟨v, a, b, c, d h0 c⟩
        have hlh : l0 ≤ h0 := by
          rcases hl2 .index with ⟨_, _, rfl⟩ | ⟨_, _, _, h, _⟩
          · exact Nat.zero_le _
          · exact h
        rcases hmx with ⟨rfl, rfl, rfl, rfl⟩ | ⟨v, rfl, rfl, rfl, hv3⟩
        · -- no third bound
          have hh : bound hi m m = some h0 := by
            cases hi <;> exact hh
          have hh2 : ∀ code, (hi = none ∧ hi' = none ∧ h0 = m) ∨ (∃ v, hi = some v ∧ hi' = some v ∧ h0 ≤ m ∧ (Instr.sliceBound v m' code).run P w = .ok h0 w) := by
            intro code
            rcases bound_sim (P := P) (w := w) hh h2 code with ⟨a, b, c⟩ | ⟨v, a, b, c, d⟩
            · exact .inl ⟨a, b, c⟩
            · exact .inr ⟨v, a, b, c, d m' (by omega)⟩
          have hhm : h0 ≤ m := by
            rcases hh2 .index with ⟨_, _, rfl⟩ | ⟨_, _, _, h, _⟩
            · exact Nat.le_refl _
            · exact h
          refine ⟨m', ?_, hlh, hhm, by omega, Nat.le_refl _⟩
          simp only [Instr.sliceBounds, Sem.run_bind, Sem.run_pure, Result.andThen_ok]
          rcases hh2 (if b then .sliceAcap else .sliceAlen) with ⟨rfl, rfl, rfl⟩ | ⟨v, rfl, rfl, _, hr⟩
          · rcases hl2 .sliceB with ⟨rfl, rfl, rfl⟩ | ⟨v, rfl, rfl, _, hr⟩
            · simp
            · simp [hr]
          · rcases hl2 .sliceB with ⟨rfl, rfl, rfl⟩ | ⟨v, rfl, rfl, _, hr'⟩
            · simp [hr]
            · simp [hr, hr']
        · have : ∃ vh, hi = some vh := by
            cases hi with
            | none => simp at hh
            | some v => exact ⟨v, rfl⟩
          obtain ⟨vh, rfl⟩ := this
          have hh : bound (some vh) len m' = some h0 := hh
          rcases bound_sim (P := P) (w := w) hh h2 .slice3B with ⟨a, _⟩ | ⟨v', a, rfl, hhm, hr⟩
          · cases a
          · cases a
            refine ⟨m', ?_, hlh, by omega, hhm, hmc⟩
            simp only [Instr.sliceBounds, Sem.run_bind, Result.andThen_ok, hv3, hr m' hhm]
            rcases hl2 .slice3C with ⟨rfl, rfl, rfl⟩ | ⟨v, rfl, rfl, _, hr'⟩
            · simp
            · simp [hr']

theorem SliceC.cut {c a : Addr} {n cap sz M l h m : Nat} (hc : SliceC c a n cap sz M) (ha : a.spot = none) (h1 : l ≤ h) (h2 : h ≤ n) (h3 : h ≤ m) (h4 : m ≤ cap) :
    SliceC (if m = l then c else c.add (l * sz)) (a.add (l * sz)) (h - l) (m - l) sz (M - l * sz) := by
  rcases hc with ⟨rfl, hn, hm⟩ | ⟨rfl, rfl⟩
  · by_cases e : m = l
    · rw [if_pos e]
      exact .inr ⟨by omega, by omega⟩
    · rw [if_neg e]
      refine .inl ⟨rfl, by omega, ?_⟩
      rw [Nat.sub_mul]
      have : m * sz ≤ cap * sz := Nat.mul_le_mul_right sz h4
      omega
  · rw [if_pos (by omega)]
    exact .inr ⟨by omega, by omega⟩

include H in
theorem slice_sim {t : TypeId} {x x' : Value} {lo hi mx lo' hi' mx' : Option Value} {v : Value} (hv : sliceV C t x lo hi mx = some v) (hx : VR β x x') (h1 : OpR β lo lo') (h2 : OpR β hi hi') (h3 : OpR β mx mx') :
    ∃ v', (Instr.sliceAt t x' lo' hi' mx').run P w = .ok v' w ∧ VR β v v' := by
  unfold sliceV at hv
  split at hv
  · rename_i b hty
    obtain rfl := string_inv hx
    split at hv
    · rename_i l h hb
      obtain rfl := Option.some.inj hv
      cases h3
      obtain ⟨m, hm, _⟩ := bounds_sim (P := P) (w := w) hb h1 h2 .none (Nat.le_refl _) false
      refine ⟨_, ?_, .string _⟩
      simp [Instr.sliceAt, Instr.slice, run_under H hty, hm]
    · cases hv
  · rename_i elem _ _ _ _ _ a len sz hty
    split at hv
    · rename_i l h a hb
      split at hv
      · rename_i et het
        split at hv
        · rename_i he
          obtain rfl := Option.some.inj hv
          subst he
          have key : ∀ (c : Addr) (cap : Nat), len ≤ cap → ∃ m, (Instr.sliceAt t (.slice (some c) len cap) lo' hi' mx').run P w = .ok (.slice (some (if m = l then c else c.add (l * et.size))) (h - l) (m - l)) w ∧ l ≤ h ∧ h ≤ len ∧ h ≤ m ∧ m ≤ cap := by
            intro c cap hcap
            obtain ⟨m, hm, r⟩ := bounds_sim (P := P) (w := w) hb h1 h2 h3 hcap true
            refine ⟨m, ?_, r⟩
            simp only [Instr.sliceAt, Instr.slice, Sem.run_bind, run_under H hty, Result.andThen_ok, hm, run_size H het, Sem.run_pure]
            split <;> rfl
          cases hx with
          | sliceObj hb' hz hc =>
            have hcap := hc
            rcases hcap with ⟨_, hcap, _⟩ | ⟨rfl, rfl⟩
            · obtain ⟨m, hm, r1, r2, r3, r4⟩ := key _ _ hcap
              refine ⟨_, hm, ?_⟩
              have := hc.cut rfl r1 r2 r3 r4
              rw [addr_add] at this
              exact .sliceObj hb' hz this
            · obtain ⟨m, hm, r1, r2, r3, r4⟩ := key _ 0 (Nat.le_refl _)
              refine ⟨_, hm, ?_⟩
              have := hc.cut rfl r1 r2 r3 r4
              rw [addr_add] at this
              exact .sliceObj hb' hz this
          | @sliceArr i o hi0 _ _ cap L c hL g1 g2 hz hs hc =>
            have hle : len ≤ cap := by
              rcases hc with ⟨_, hcap, _⟩ | ⟨rfl, rfl⟩
              · exact hcap
              · exact Nat.le_refl _
            obtain ⟨m, hm, r1, r2, r3, r4⟩ := key c cap hle
            refine ⟨_, hm, ?_⟩
            have hcut := hc.cut rfl r1 r2 r3 r4
            rw [addr_add, show L.base + (o - L.lo) + l * et.size = L.base + (o + l * et.size - L.lo) from by omega] at hcut
            have hmul : (h - l) * et.size + l * et.size ≤ len * et.size := by
              rw [← Nat.add_mul]; exact Nat.mul_le_mul_right _ (by omega)
            have hlm : l * et.size ≤ len * et.size := Nat.mul_le_mul_right _ (by omega)
            have hb2 : L.base + (o + l * et.size - L.lo) ≤ L.size := by
              rcases hc with ⟨_, hcap, hcm⟩ | ⟨_, _, h0, _⟩
              · have : len * et.size ≤ cap * et.size := Nat.mul_le_mul_right _ hcap
                omega
              · have : l = 0 := by omega
                subst this; simpa using hs
            show VR β (.slice (some ⟨i, o + l * et.size, some hi0⟩) (h - l) et.size) _
            refine .sliceArr hL (by omega) (by omega) hz hb2 ?_
            rw [show L.size - (L.base + (o + l * et.size - L.lo)) = L.size - (L.base + (o - L.lo)) - l * et.size from by omega]
            exact hcut
        · cases hv
      · cases hv
    · rename_i l h hb
      split at hv
      · rename_i he
        obtain ⟨rfl, rfl, rfl, rfl, hsome⟩ := he
        obtain ⟨et, het⟩ := Option.isSome_iff_exists.1 hsome
        obtain rfl := Option.some.inj hv
        cases hx
        obtain ⟨m, hm, _, _, _, r4⟩ := bounds_sim (P := P) (w := w) hb h1 h2 h3 (Nat.le_refl _) true
        obtain rfl : m = 0 := by omega
        refine ⟨_, ?_, .sliceNil⟩
        simp [Instr.sliceAt, Instr.slice, run_under H hty, hm, run_size H het]
      · cases hv
    · cases hv
  · rename_i n elem _ _ _ _ _ a hty
    split at hv
    · rename_i l h et hb het
      split at hv
      · cases hv
      · rename_i hn
        obtain rfl := Option.some.inj hv
        have hz : 0 < et.size := by
          rcases Nat.eq_zero_or_pos et.size with h | h
          · exact absurd (.inl h) hn
          · exact h
        obtain ⟨m, hm, r1, r2, r3, r4⟩ := bounds_sim (P := P) (w := w) hb h1 h2 h3 (Nat.le_refl n) false
        cases hx with
        | ptrArr => exact absurd (.inr rfl) hn
        | @ptrObj i o b hb' =>
          refine ⟨.slice (some (if m = l then ⟨b, o, none⟩ else (⟨b, o, none⟩ : Addr).add (l * et.size))) (h - l) (m - l), ?_, ?_⟩
          · simp only [Instr.sliceAt, Instr.sureAddr, Sem.run_bind, run_under H hty, Result.andThen_ok, hm, run_size H het, Sem.run_pure]
          · have hc : SliceC ⟨b, o, none⟩ ⟨b, o, none⟩ n n et.size (n * et.size) := .inl ⟨rfl, Nat.le_refl _, Nat.le_refl _⟩
            have := hc.cut rfl r1 r2 r3 r4
            rw [addr_add] at this ⊢
            exact .sliceObj hb' hz this
    · cases hv
  · rename_i arr _ _ _ _ _ a hty
    split at hv
    · rename_i n elem _ _ _ _ _ harr
      split at hv
      · rename_i l h et hb het
        split at hv
        · cases hv
        · rename_i hn
          obtain rfl := Option.some.inj hv
          have hz : 0 < et.size := by
            rcases Nat.eq_zero_or_pos et.size with h | h
            · exact absurd (.inl h) hn
            · exact h
          obtain ⟨m, hm, r1, r2, r3, r4⟩ := bounds_sim (P := P) (w := w) hb h1 h2 h3 (Nat.le_refl n) false
          cases hx with
          | ptrArr => exact absurd (.inr rfl) hn
          | @ptrObj i o b hb' =>
            refine ⟨.slice (some (if m = l then ⟨b, o, none⟩ else (⟨b, o, none⟩ : Addr).add (l * et.size))) (h - l) (m - l), ?_, ?_⟩
            · simp only [Instr.sliceAt, Instr.slice, asAddr, Sem.run_bind, run_under H hty, run_under H harr, Result.andThen_ok, hm, run_size H het, Sem.run_pure]
            · have hc : SliceC ⟨b, o, none⟩ ⟨b, o, none⟩ n n et.size (n * et.size) := .inl ⟨rfl, Nat.le_refl _, Nat.le_refl _⟩
              have := hc.cut rfl r1 r2 r3 r4
              rw [addr_add] at this ⊢
              exact .sliceObj hb' hz this
      · cases hv
    · cases hv
  · cases hv

include H in
theorem assert_sim {t xt : TypeId} {x x' : Value} {ok : Bool} {v : Value} (hv : assertV C x t ok = some v) (hx : VR β x x') : ∃ v', (Instr.typeAssert x' xt t ok).run P w = .ok v' w ∧ VR β v v' := by
  have zeroR : ∀ {ty : Ty} {z : Value}, C.ty t = some ty → ty.zero = some z → VR β z z := fun h hz => litOk_self β (H.zero _ _ _ h hz)
  have failsR : ∀ {ty : Ty} {a b : Option TypeId} {m : String}, C.ty t = some ty → (if ok = true then ty.zero.map fun z => Value.tuple #[z, .bool false] else none) = some v →
      ∃ v', (do if ok then pure (.tuple #[← zeroValue t, .bool false]) else runtimePanic (.typeAssertion a b t m) : Sem Value).run P w = .ok v' w ∧ VR β v v' := by
    intro ty a b m hty h
    cases ok with
    | false => simp at h
    | true =>
      simp only [if_true] at h
      rw [Option.map_eq_some_iff] at h
      obtain ⟨z, hz, rfl⟩ := h
      exact ⟨_, by simp [run_zero H hty hz], .tuple (.cons (zeroR hty hz) (.cons (.bool _) .nil))⟩
  have holdsR : ∀ {y y' : Value}, VR β y y' → some (if ok = true then Value.tuple #[y, .bool true] else y) = some v → ∃ v', (pure (if ok then .tuple #[y', .bool true] else y') : Sem Value).run P w = .ok v' w ∧ VR β v v' := by
    intro y y' hy h
    obtain rfl := Option.some.inj h
    cases ok with
    | false => exact ⟨_, rfl, hy⟩
    | true => exact ⟨_, rfl, .tuple (.cons hy (.cons (.bool _) .nil))⟩
  unfold assertV at hv
  simp only at hv
  split at hv
  · rename_i hty
    cases hx
    simp only [Instr.typeAssert, Sem.run_bind, run_under H hty, Result.andThen_ok]
    exact failsR hty hv
  · rename_i want _ _ _ _ _ u y hty
    cases hx with
    | iface hx =>
      split at hv
      · rename_i ut hut
        obtain ⟨i, hi, _, _, _, _, hm, _⟩ := run_info (w := w) H hut
        simp only [Instr.typeAssert, Sem.run_bind, run_under H hty, Result.andThen_ok, hi, hm]
        unfold missing at hv
        cases hmm : Instr.missingMethod want ut.methods with
        | none =>
          rw [hmm] at hv
          simp only [Option.isSome_none, Bool.false_eq_true, if_false] at hv
          exact holdsR (.iface hx) hv
        | some m =>
          rw [hmm] at hv
          simp only [Option.isSome_some, if_true] at hv
          exact failsR hty hv
      · cases hv
  · rename_i ty hni hty
    cases hx
    have : ∀ ms, ty.desc ≠ .interface ms := by
      intro ms h
      cases ty
      simp only at h
      subst h
      exact hni _ _ _ _ _ _ rfl
    simp only [Instr.typeAssert, Sem.run_bind, run_under H hty, Result.andThen_ok]
    cases hd : ty.desc <;> first
      | exact failsR hty hv
      | exact absurd hd (this _)
  · rename_i ty u y hni hty
    cases hx with
    | iface hx =>
      have : ∀ ms, ty.desc ≠ .interface ms := by
        intro ms h
        cases ty
        simp only at h
        subst h
        exact hni _ _ _ _ _ _ rfl
      simp only [Instr.typeAssert, Sem.run_bind, run_under H hty, Result.andThen_ok]
      split at hv
      · rename_i e
        cases hd : ty.desc <;> first
          | (simp only [e, if_true]; exact holdsR hx hv)
          | exact absurd hd (this _)
      · rename_i e
        cases hd : ty.desc <;> first
          | (simp only [e, if_false]; exact failsR hty hv)
          | exact absurd hd (this _)
  · cases hv

include H in
theorem conv_sim {a b : TypeId} {x x' v : Value} (hv : convV C a b x = some v) (hx : VR β x x') : ∃ v', (convert a b x').run P w = .ok v' w ∧ VR β v v' := by
  unfold convV at hv
  split at hv
  · rename_i ta hta htb
    obtain rfl := int_inv hx
    obtain rfl := Option.some.inj hv
    refine ⟨_, ?_, .int _ _⟩
    simp only [convert, Sem.run_bind, run_under H hta, run_under H htb, Result.andThen_ok, Conv.intToInt, Sem.run_pure]
  · rename_i ta hta htb
    obtain rfl := string_inv hx
    obtain rfl := Option.some.inj hv
    refine ⟨_, ?_, .string _⟩
    simp only [convert, Sem.run_bind, run_under H hta, run_under H htb, Result.andThen_ok, Sem.run_pure]
  · cases hv

end
end Go.Ai
