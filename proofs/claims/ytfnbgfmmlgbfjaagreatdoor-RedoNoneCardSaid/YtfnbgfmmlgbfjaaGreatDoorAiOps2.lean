/-
  '==', and the other operations on values.
-/
import Derived.Test.YtfnbgfmmlgbfjaaGreatDoorAiOps1
namespace Go.Ai

section
variable {P : Program} {C : Cfg} {K : Code → Prop} (H : CfgOk P C K) {β : Bij} {own : Nat → Option Nat} {s : St} {w : World}

include H in
theorem ptrTo_size {e : TypeId} (h : ptrTo C e = true) : ∃ n, (sizeOf e).run P w = .ok n w ∧ n ≠ 0 := by
  unfold ptrTo at h
  split at h
  · rename_i et het
    exact ⟨et.size, run_size H het, by simpa using h⟩
  · cases h

theorem run_sameAddr {a b : Nat} {o p : Nat} {c d : Array Value} {t u : TypeId} (ha : w.heap[a]? = some (.cells c t (0, 0))) (hb : w.heap[b]? = some (.cells d u (0, 0))) :
    (sameAddr ⟨a, o, none⟩ ⟨b, p, none⟩).run P w = .ok (decide (a = b) && decide (o = p)) w := by
  unfold sameAddr
  by_cases e : a = b
  · subst e
    simp
    by_cases h : o = p
    · subst h; simp
    · simp [h]
  · simp [e, World.frozen?, ha, hb, noView, viewAt, World.shape?, mayBeOne, stringish]

include H in
theorem eqB_sim (hs : SR K β own s.get w) {t : TypeId} {ty : Ty} (h : C.ty t = some ty) {x y x' y' : Value} (hx : VR β x x') (hy : VR β y y') {b : Bool} (hv : eqB C s ty.desc x y = some b) (d : Nat) :
    (Op.equalIn (d + 1) t x' y').run P w = .ok b w := by
  have hu := run_under (w := w) H h
  cases ty with
  | mk desc size bytes zero methods cmp =>
  simp only at hv hu
  unfold eqB at hv
  split at hv
  · cases hx; cases hy; obtain rfl := Option.some.inj hv; simp [Op.equalIn, hu]
  · cases hx; cases hy
    split at hv
    · rename_i e; subst e; obtain rfl := Option.some.inj hv; simp [Op.equalIn, hu]
    · cases hv
  · cases hx; cases hy; obtain rfl := Option.some.inj hv; simp [Op.equalIn, hu]
  · cases hx; cases hy <;> (obtain rfl := Option.some.inj hv; simp [Op.equalIn, hu])
  · cases hy; cases hx <;> (obtain rfl := Option.some.inj hv; simp [Op.equalIn, hu])
  · rename_i e a a2
    split at hv
    · rename_i c1 c2 h1 h2 h3 h4
      split at hv
      · rename_i hp
        obtain rfl := Option.some.inj hv
        obtain ⟨n, hn, hn0⟩ := ptrTo_size (w := w) H hp
        cases hx with
        | ptrArr h5 h6 => simp at h3
        | @ptrObj i o b1 h5 =>
          cases hy with
          | ptrArr h6 h7 => simp at h4
          | @ptrObj i2 oo b2 h6 =>
            obtain ⟨o1, _, g1⟩ := hs.obj _ _ h5
            obtain ⟨o2, _, g2⟩ := hs.obj _ _ h6
            obtain ⟨d1, t1, e1, _⟩ := g1 _ h1
            obtain ⟨d2, t2, e2, _⟩ := g2 _ h2
            simp only [Op.equalIn, Sem.run_bind, hu, Result.andThen_ok, hn]
            rw [if_pos hn0, run_sameAddr e1 e2]
            congr 1
            by_cases e : i = i2
            · subst e
              rw [h5] at h6
              obtain rfl := Option.some.inj h6
              by_cases e2 : o = oo <;> simp [e2]
            · have hne : b1 ≠ b2 := by
                rintro rfl
                rw [o1] at o2
                exact e (Option.some.inj o2)
              simp [e, hne]
      · cases hv
    · cases hv
  · cases hx; cases hy <;> (obtain rfl := Option.some.inj hv; simp [Op.equalIn, hu])
  · cases hy; cases hx <;> (obtain rfl := Option.some.inj hv; simp [Op.equalIn, hu])
  · cases hx; cases hy <;> (obtain rfl := Option.some.inj hv; simp [Op.equalIn, hu])
  · cases hy; cases hx <;> (obtain rfl := Option.some.inj hv; simp [Op.equalIn, hu])
  · cases hx; cases hy; obtain rfl := Option.some.inj hv; simp [Op.equalIn, hu]
  · cases hx; cases hy; obtain rfl := Option.some.inj hv; simp [Op.equalIn, hu]
  · cases hx; cases hy; obtain rfl := Option.some.inj hv; simp [Op.equalIn, hu]
  · cases hv

theorem CK.fits_eq {β : Bij} {k : CK} {v v' : Value} (h : k.fits v = true) (hv : VR β v v') : v' = v := by
  cases k <;> cases hv <;> first | rfl | (simp [CK.fits] at h)
theorem fits_eq {β : Bij} : ∀ {ks : List CK} {l l' : List Value}, fitsK ks l = true → VRs β l l' → l' = l
  | [], _, _, h, .nil => rfl
  | [], _, _, h, .cons _ _ => by simp [fitsK] at h
  | _ :: _, _, _, h, .nil => by simp [fitsK] at h
  | k :: ks, _, _, h, .cons hv ht => by
    simp only [fitsK, Bool.and_eq_true] at h
    rw [fits_eq h.2 ht, CK.fits_eq h.1 hv]

theorem eqGuard_other {op : BinOp} (h1 : op ≠ .eql) (h2 : op ≠ .neq) (t : TypeId) (x y : Operand) (a b : Value) : (eqGuard op t x y a b).run P w = .ok () w := by
  cases op <;> first | rfl | exact absurd rfl h1 | exact absurd rfl h2

theorem eqGuard_ok (op : BinOp) (t : TypeId) (x y : Operand) (a b : Value) (h1 : ¬ (a = .nilIface ∧ b = .nilIface)) (h2 : ∀ xs ys, ¬ (a = .agg xs ∧ b = .agg ys)) : (eqGuard op t x y a b).run P w = .ok () w := by
  have e : op = .eql ∨ op = .neq ∨ (op ≠ .eql ∧ op ≠ .neq) := by cases op <;> simp
  rcases e with rfl | rfl | ⟨g1, g2⟩
  · unfold eqGuard
    simp only [Bool.not_true, Bool.false_eq_true, if_false]
    split
    · exact absurd ⟨rfl, rfl⟩ h1
    · exact absurd ⟨rfl, rfl⟩ (h2 _ _)
    · rfl
  · unfold eqGuard
    simp only [Bool.not_true, Bool.false_eq_true, if_false]
    split
    · exact absurd ⟨rfl, rfl⟩ h1
    · exact absurd ⟨rfl, rfl⟩ (h2 _ _)
    · rfl
  · exact eqGuard_other g1 g2 _ _ _ _ _

theorem eqGuard_nil (op : BinOp) (t : TypeId) (x y : Operand) (h : (isConst x || isConst y) = true) : (eqGuard op t x y .nilIface .nilIface).run P w = .ok () w := by
  have e' : op = .eql ∨ op = .neq ∨ (op ≠ .eql ∧ op ≠ .neq) := by cases op <;> simp
  rcases e' with rfl | rfl | ⟨g1, g2⟩
  · cases x <;> cases y <;> first | rfl | exact absurd h Bool.false_ne_true
  · cases x <;> cases y <;> first | rfl | exact absurd h Bool.false_ne_true
  · exact eqGuard_other g1 g2 _ _ _ _ _

theorem eqGuard_step {op : BinOp} (ho : op = .eql ∨ op = .neq) (t : TypeId) (x y : Operand) (h : ¬ (isConst x || isConst y) = true) (hg : (Op.eqGuardIn Op.maxDepth t .nilIface .nilIface).run P w = .ok false w) : (eqGuard op t x y .nilIface .nilIface).run P w = .ok () w := by
  have e : ∀ m : Sem Bool, m.run P w = .ok false w → (do if ← m then unsupported (.noEntry "binop/eql: two nil values of an interface type with methods, neither of them the literal nil") else pure () : Sem Unit).run P w = .ok () w := by
    intro m hm
    rw [Sem.run_bind, hm]; rfl
  rcases ho with rfl | rfl
  · cases x <;> cases y <;> first | exact absurd rfl h | exact e _ hg
  · cases x <;> cases y <;> first | exact absurd rfl h | exact e _ hg

include H in
theorem eqGuard_plain (op : BinOp) {t : TypeId} {ty : Ty} (h : C.ty t = some ty) {ms : Array (String × TypeId)} (hd : ty.desc = .interface ms) (hm : ms.isEmpty = true) (x y : Operand) : (eqGuard op t x y .nilIface .nilIface).run P w = .ok () w := by
  have hg : (Op.eqGuardIn (9999 + 1) t .nilIface .nilIface).run P w = .ok false w := by
    unfold Op.eqGuardIn
    simp only [Sem.run_bind, run_under H h, Result.andThen_ok, hd, hm]
    rfl
  have hg : (Op.eqGuardIn Op.maxDepth t .nilIface .nilIface).run P w = .ok false w := hg
  by_cases hc : (isConst x || isConst y) = true
  · exact eqGuard_nil _ _ _ _ hc
  have e' : op = .eql ∨ op = .neq ∨ (op ≠ .eql ∧ op ≠ .neq) := by cases op <;> simp
  rcases e' with h1 | h1 | ⟨g1, g2⟩
  · exact eqGuard_step (.inl h1) _ _ _ hc hg
  · exact eqGuard_step (.inr h1) _ _ _ hc hg
  · exact eqGuard_other g1 g2 _ _ _ _ _

theorem eqGuard_agg (op : BinOp) {t : TypeId} {xs ys : Array Value} (h : P.eqGuardType P.depth t = false) (x y : Operand) : (eqGuard op t x y (.agg xs) (.agg ys)).run P w = .ok () w := by
  have e' : op = .eql ∨ op = .neq ∨ (op ≠ .eql ∧ op ≠ .neq) := by cases op <;> simp
  rcases e' with rfl | rfl | ⟨g1, g2⟩
  · unfold eqGuard
    simp [h]
  · unfold eqGuard
    simp [h]
  · exact eqGuard_other g1 g2 _ _ _ _ _

include H in
theorem equalIn_iface {t : TypeId} {ty : Ty} (h : C.ty t = some ty) {ms : Array (String × TypeId)} (hd : ty.desc = .interface ms) {tx : TypeId} {tt : Ty} (htt : C.ty tx = some tt) (hc : tt.cmp = true) (x y : Value) (d : Nat) :
    (Op.equalIn (d + 1) t (.iface tx x) (.iface tx y)).run P w = (Op.equalIn d tx x y).run P w := by
  obtain ⟨i, hi, _, _, _, _, _, hcmp⟩ := run_info (w := w) H htt
  rw [Op.equalIn]
  simp only [Sem.run_bind, run_under H h, Result.andThen_ok, hd]
  rw [if_neg (by simp)]
  simp only [Sem.run_bind, hi, Result.andThen_ok, hcmp, hc]
  rfl

include H in
theorem eqV_sim (hs : SR K β own s.get w) {op : BinOp} {t : TypeId} {ox oy : Operand} {x y x' y' : Value} (hx : VR β x x') (hy : VR β y y') {b : Bool} (hv : eqV C s (isConst ox || isConst oy) t x y = some b) :
    (Op.equalIn (9998 + 1 + 1) t x' y').run P w = .ok b w ∧ (eqGuard op t ox oy x' y').run P w = .ok () w := by
  unfold eqV at hv
  split at hv
  · rename_i hty
    cases hx; cases hy
    split at hv
    · rename_i hl
      obtain rfl := Option.some.inj hv
      refine ⟨by rw [Op.equalIn, Sem.run_bind, run_under H hty]; rfl, ?_⟩
      by_cases hc : (isConst ox || isConst oy) = true
      · exact eqGuard_nil _ _ _ _ hc
      · rw [Bool.or_eq_true] at hl
        exact eqGuard_plain H _ hty rfl (hl.resolve_left hc) _ _
    · cases hv
  · rename_i hty
    cases hx; cases hy
    obtain rfl := Option.some.inj hv
    exact ⟨by rw [Op.equalIn, Sem.run_bind, run_under H hty]; rfl, eqGuard_ok _ _ _ _ _ _ (by rintro ⟨_, h⟩; cases h) (by rintro _ _ ⟨h, _⟩; cases h)⟩
  · rename_i hty
    cases hx; cases hy
    obtain rfl := Option.some.inj hv
    exact ⟨by rw [Op.equalIn, Sem.run_bind, run_under H hty]; rfl, eqGuard_ok _ _ _ _ _ _ (by rintro ⟨h, _⟩; cases h) (by rintro _ _ ⟨h, _⟩; cases h)⟩
  · rename_i tx vx ty vy hty
    cases hx with
    | iface hx =>
    cases hy with
    | iface hy =>
      refine ⟨?_, eqGuard_ok _ _ _ _ _ _ (by rintro ⟨h, _⟩; cases h) (by rintro _ _ ⟨h, _⟩; cases h)⟩
      split at hv
      · rename_i hne
        obtain rfl := Option.some.inj hv
        rw [Op.equalIn]
        simp only [Sem.run_bind, run_under H hty, Result.andThen_ok]
        rw [if_pos hne]; rfl
      · rename_i he
        have he : tx = ty := Classical.not_not.1 he
        subst he
        split at hv
        · rename_i tt htt
          split at hv
          · rename_i hc
            rw [equalIn_iface H hty rfl htt hc]
            exact eqB_sim H hs htt hx hy hv 9998
          · cases hv
        · cases hv
  · rename_i _ xs ys _
    cases hx with
    | @agg _ xs' hx =>
    cases hy with
    | @agg _ ys' hy =>
      split at hv
      · rename_i ks hks
        split at hv
        · rename_i hf
          simp only [Bool.and_eq_true] at hf
          have e1 := fits_eq hf.1 hx
          have e2 := fits_eq hf.2 hy
          have A := H.peq _ _ hks
          have e1 : xs' = xs := by cases xs; cases xs'; simpa using e1
          have e2 : ys' = ys := by cases ys; cases ys'; simpa using e2
          subst e1; subst e2
          exact ⟨A.equal _ _ _ _ hf.1 hf.2 hv, eqGuard_agg _ A.guard _ _⟩
        · cases hv
      · cases hv
  · rename_i x y _ _ _ ty hty _ _ _ _ hna
    refine ⟨eqB_sim H hs hty hx hy hv 9999, eqGuard_ok _ _ _ _ _ _ ?_ ?_⟩
    · rintro ⟨rfl, rfl⟩
      cases hx <;> cases hy <;> (cases ty with
      | mk d _ _ _ _ _ => cases d <;> simp [eqB] at hv)
    · rintro xs ys ⟨rfl, rfl⟩
      cases hx with
      | junk _ h => cases h
      | agg => cases hy with
        | junk _ h => cases h
        | agg => exact hna _ _ rfl rfl
  · cases hv

theorem eqB_junk1 {d : TypeDesc} {c : Nat} {y : Value} : eqB C s d (.chan (some c)) y = none := by
  cases d <;> cases y <;> rfl
theorem eqB_junk2 {d : TypeDesc} {c : Nat} {x : Value} : eqB C s d x (.chan (some c)) = none := by
  cases d <;> cases x <;> first
    | rfl
    | (rename_i o _ _; cases o <;> rfl)
    | (rename_i o; cases o <;> rfl)
theorem eqV_junk1 {l : Bool} {t : TypeId} {c : Nat} {y : Value} : eqV C s l t (.chan (some c)) y = none := by
  unfold eqV
  split <;> first
    | exact eqB_junk1
    | rfl
    | (rename_i h _; cases h)
    | (rename_i h; cases h)
theorem eqV_junk2 {l : Bool} {t : TypeId} {c : Nat} {x : Value} : eqV C s l t x (.chan (some c)) = none := by
  unfold eqV
  split <;> first
    | exact eqB_junk2
    | rfl
    | (rename_i h; cases h)

theorem binOp_eql (t : TypeId) {β : Bij} {x y x' y' : Value} (hx : VR β x x') (hy : VR β y y') (h1 : ∀ k a j b, ¬ (x = .int k a ∧ y = .int j b)) (h2 : ∀ a b, ¬ (x = .string a ∧ y = .string b)) (b : Bool)
    (hd : (Op.equalIn (9998 + 1 + 1) t x' y').run P w = .ok b w) (hf : ∀ k a j b, ¬ (x = .float k a ∧ y = .float j b)) (hc : ∀ k a j b c d, ¬ (x = .complex k a b ∧ y = .complex j c d))
    (hj : ∀ c, x ≠ .chan (some c)) (hj' : ∀ c, y ≠ .chan (some c)) :
    (binOp .eql t x' y').run P w = .ok (.bool b) w ∧ (binOp .neq t x' y').run P w = .ok (.bool !b) w := by
  have e : ∀ x' y' : Value, (∀ k a j b, ¬ (x' = .int k a ∧ y' = .int j b)) → (∀ a b, ¬ (x' = .string a ∧ y' = .string b)) → (∀ k a j b, ¬ (x' = .float k a ∧ y' = .float j b)) → (∀ k a j b c d, ¬ (x' = .complex k a b ∧ y' = .complex j c d)) →
      binOp .eql t x' y' = (do pure (.bool (← Op.equal t x' y'))) ∧ binOp .neq t x' y' = (do pure (.bool (!(← Op.equal t x' y')))) := by
    intro x' y' g1 g2 g3 g4
    unfold binOp
    cases x' <;> cases y' <;> first
      | exact ⟨rfl, rfl⟩
      | exact absurd ⟨rfl, rfl⟩ (g1 _ _ _ _)
      | exact absurd ⟨rfl, rfl⟩ (g2 _ _)
      | exact absurd ⟨rfl, rfl⟩ (g3 _ _ _ _)
      | exact absurd ⟨rfl, rfl⟩ (g4 _ _ _ _ _ _)
  obtain ⟨e1, e2⟩ := e x' y'
    (by rintro k a j b ⟨rfl, rfl⟩; cases hx <;> cases hy <;> first | exact absurd rfl (hj _) | exact absurd rfl (hj' _) | exact h1 _ _ _ _ ⟨rfl, rfl⟩)
    (by rintro a b ⟨rfl, rfl⟩; cases hx <;> cases hy <;> first | exact absurd rfl (hj _) | exact absurd rfl (hj' _) | exact h2 _ _ ⟨rfl, rfl⟩)
    (by rintro k a j b ⟨rfl, rfl⟩; cases hx <;> cases hy <;> first | exact absurd rfl (hj _) | exact absurd rfl (hj' _) | exact hf _ _ _ _ ⟨rfl, rfl⟩)
    (by rintro k a j b c d ⟨rfl, rfl⟩; cases hx <;> cases hy <;> first | exact absurd rfl (hj _) | exact absurd rfl (hj' _) | exact hc _ _ _ _ _ _ ⟨rfl, rfl⟩)
  rw [e1, e2]
  have hd : (Op.equal t x' y').run P w = .ok b w := hd
  constructor <;> simp only [Sem.run_bind, hd, Result.andThen_ok] <;> rfl

include H in
theorem binV_sim (hs : SR K β own s.get w) {op : BinOp} {t : TypeId} {ox oy : Operand} {x y x' y' v : Value} (hx : VR β x x') (hy : VR β y y') (hv : binV C s (isConst ox || isConst oy) op t x y = some v) :
    ∃ v', (do eqGuard op t ox oy x' y'; binOp op t x' y' : Sem Value).run P w = .ok v' w ∧ VR β v v' := by
  have ints : ∀ {k : IntKind} {a : Int} {y : Value} (op : BinOp), (eqGuard op t ox oy (.int k a) y).run P w = .ok () w := by
    intro k a y op
    exact eqGuard_ok _ _ _ _ _ _ (by rintro ⟨h, _⟩; cases h) (by rintro _ _ ⟨h, _⟩; cases h)
  have strs : ∀ {a : ByteArray} {y : Value} (op : BinOp), (eqGuard op t ox oy (.string a) y).run P w = .ok () w := by
    intro a y op
    exact eqGuard_ok _ _ _ _ _ _ (by rintro ⟨h, _⟩; cases h) (by rintro _ _ ⟨h, _⟩; cases h)
  unfold binV at hv
  split at hv
  · obtain rfl := int_inv hx
    obtain rfl := int_inv hy
    rename_i j _
    obtain ⟨h1, h2⟩ := intShift_sim (P := P) (β := β) (w := w) (j := j) hv t
    exact ⟨_, by simp [ints, h1], h2⟩
  · obtain rfl := int_inv hx
    obtain rfl := int_inv hy
    rename_i j _
    obtain ⟨h1, h2⟩ := intShift_sim (P := P) (β := β) (w := w) (j := j) hv t
    exact ⟨_, by simp [ints, h1], h2⟩
  · obtain rfl := int_inv hx
    obtain rfl := int_inv hy
    split at hv
    · rename_i e
      subst e
      obtain ⟨h1, h2⟩ := intBin_sim (P := P) (β := β) (w := w) hv t
      exact ⟨_, by simp [ints, h1], h2⟩
    · cases hv
  · obtain rfl := string_inv hx
    obtain rfl := string_inv hy
    obtain ⟨h1, h2⟩ := strBin_sim (P := P) (β := β) (w := w) hv t
    exact ⟨_, by simp [strs, h1], h2⟩
  · rename_i n1 n2
    rw [Option.map_eq_some_iff] at hv
    obtain ⟨b, hb, rfl⟩ := hv
    obtain ⟨h1, h2⟩ := eqV_sim (op := .eql) H hs hx hy hb
    obtain ⟨h3, _⟩ := binOp_eql (P := P) (w := w) t hx hy (by rintro k a j b ⟨rfl, rfl⟩; exact n1 _ _ _ _ rfl rfl) (by rintro a b ⟨rfl, rfl⟩; exact n2 _ _ rfl rfl) b h1
      (by rintro k a j b ⟨rfl, rfl⟩; unfold eqV at hb; split at hb <;> simp_all [eqB]) (by rintro k a j b c d ⟨rfl, rfl⟩; unfold eqV at hb; split at hb <;> simp_all [eqB])
      (by rintro c rfl; rw [eqV_junk1] at hb; cases hb) (by rintro c rfl; rw [eqV_junk2] at hb; cases hb)
    exact ⟨_, by rw [Sem.run_bind, h2, Result.andThen_ok, h3], .bool _⟩
  · rename_i n1 n2
    rw [Option.map_eq_some_iff] at hv
    obtain ⟨b, hb, rfl⟩ := hv
    obtain ⟨h1, h2⟩ := eqV_sim (op := .neq) H hs hx hy hb
    obtain ⟨_, h3⟩ := binOp_eql (P := P) (w := w) t hx hy (by rintro k a j b ⟨rfl, rfl⟩; exact n1 _ _ _ _ rfl rfl) (by rintro a b ⟨rfl, rfl⟩; exact n2 _ _ rfl rfl) b h1
      (by rintro k a j b ⟨rfl, rfl⟩; unfold eqV at hb; split at hb <;> simp_all [eqB]) (by rintro k a j b c d ⟨rfl, rfl⟩; unfold eqV at hb; split at hb <;> simp_all [eqB])
      (by rintro c rfl; rw [eqV_junk1] at hb; cases hb) (by rintro c rfl; rw [eqV_junk2] at hb; cases hb)
    exact ⟨_, by rw [Sem.run_bind, h2, Result.andThen_ok, h3], .bool _⟩
  · cases hv

theorem unV_sim {op : UnOp} {x x' v : Value} (hx : VR β x x') (hv : unV op x = some v) : (Op.unary op x').run P w = .ok v w ∧ VR β v v := by
  unfold unV at hv
  split at hv
  · obtain rfl := int_inv hx; obtain rfl := Option.some.inj hv; exact ⟨by simp [Op.unary, Op.intArith], by constructor⟩
  · obtain rfl := int_inv hx; obtain rfl := Option.some.inj hv; exact ⟨by simp [Op.unary, Op.intBits], by constructor⟩
  · obtain rfl := bool_inv hx; obtain rfl := Option.some.inj hv; exact ⟨by simp [Op.unary], by constructor⟩
  · cases hv

end
end Go.Ai
