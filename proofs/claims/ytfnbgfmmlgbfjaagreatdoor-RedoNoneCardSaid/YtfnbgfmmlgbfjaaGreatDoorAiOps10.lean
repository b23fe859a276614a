/-
  Maps and their iterators.
-/
import Derived.Test.YtfnbgfmmlgbfjaaGreatDoorAiOps9
namespace Go.Ai

section
variable {P : Program} {C : Cfg} {K : Code → Prop} (H : CfgOk P C K) {β : Bij} {own : Nat → Option Nat} {s s' : St} {w : World}

theorem EntsR.get {l l' : List MapEntry} (h : EntsR β l l') : ∀ {j : Nat} {e : MapEntry}, l[j]? = some e → ∃ e', l'[j]? = some e' ∧ EntR β e e' := by
  induction h with
  | nil => intro j e h; simp at h
  | cons h t ih =>
    intro j e hj
    cases j with
    | zero => simp at hj; subst hj; exact ⟨_, rfl, h⟩
    | succ j => simp at hj; simpa using ih hj
theorem EntsR.append {l l' m m' : List MapEntry} (h : EntsR β l l') (h' : EntsR β m m') : EntsR β (l ++ m) (l' ++ m') := by
  induction h with
  | nil => exact h'
  | cons h _ ih => exact .cons h ih
theorem EntsR.modify {l l' : List MapEntry} (h : EntsR β l l') (f g : MapEntry → MapEntry) : ∀ (i : Nat), (∀ e e', l[i]? = some e → EntR β e e' → EntR β (f e) (g e')) → EntsR β (l.modify i f) (l'.modify i g) := by
  induction h with
  | nil => intro i _; simp; exact .nil
  | cons h t ih =>
    intro i hf
    cases i with
    | zero => simp only [List.modify_zero_cons]; exact .cons (hf _ _ rfl h) t
    | succ i => simp only [List.modify_succ_cons]; exact .cons h (ih i fun e e' he => hf e e' (by simpa using he))
theorem EntsR.erase {l l' : List MapEntry} (h : EntsR β l l') : ∀ (i : Nat), EntsR β (l.eraseIdx i) (l'.eraseIdx i) := by
  induction h with
  | nil => intro i; simp; exact .nil
  | cons h t ih =>
    intro i
    cases i with
    | zero => simpa using t
    | succ i => simpa using EntsR.cons h (ih i)
theorem EntsR.filter {l l' : List MapEntry} (h : EntsR β l l') (p : Nat → Bool) : EntsR β (l.filter fun e => p e.born) (l'.filter fun e => p e.born) := by
  induction h with
  | nil => exact .nil
  | cons h t ih =>
    simp only [List.filter_cons, h.born]
    split
    · exact .cons h ih
    · exact ih
theorem EntsR.all {l l' : List MapEntry} (h : EntsR β l l') (p : Nat → Bool) : (l'.all fun e => p e.born) = l.all fun e => p e.born := by
  induction h with
  | nil => rfl
  | cons h _ ih => simp [h.born, ih]
theorem EntsR.findIdx {l l' : List MapEntry} (h : EntsR β l l') (p : Nat → Bool) : (l'.findIdx? fun e => p e.born) = l.findIdx? fun e => p e.born := by
  induction h with
  | nil => rfl
  | cons h _ ih => simp only [List.findIdx?_cons, h.born, ih]
theorem EntsR.find {l l' : List MapEntry} (h : EntsR β l l') (p : Nat → Bool) {e : MapEntry} (hf : (l.find? fun e => p e.born) = some e) : ∃ e', (l'.find? fun e => p e.born) = some e' ∧ EntR β e e' := by
  induction h with
  | nil => cases hf
  | cons h t ih =>
    simp only [List.find?_cons, h.born] at hf ⊢
    split at hf
    · obtain rfl := Option.some.inj hf; exact ⟨_, rfl, h⟩
    · exact ih hf

theorem ba_beq (a b : ByteArray) : (a == b) = (a.data == b.data) := by
  cases a; cases b; rfl
theorem ba_eq {a b : ByteArray} (h : (a == b) = true) : a = b := by
  rw [ba_beq] at h
  have := eq_of_beq h
  cases a; cases b; simp_all
theorem ba_self (a : ByteArray) : (a == a) = true := by rw [ba_beq]; exact beq_self_eq_true _

theorem cellEq_true {x y : Value} (h : cellEq x y = some true) : x = y := by
  unfold cellEq at h
  split at h
  · split at h
    · rename_i e; subst e; simp at h; rw [h]
    · cases h
  · simp at h; rw [h]
  · rw [ba_eq (Option.some.inj h)]
  · cases h
theorem cellsEq_true : ∀ {xs ys : List Value}, cellsEq xs ys = some true → xs = ys
  | [], [], _ => rfl
  | x :: xs, y :: ys, h => by
    unfold cellsEq at h
    split at h
    · rename_i a b h1 h2
      simp only [Option.some.injEq, Bool.and_eq_true] at h
      obtain ⟨rfl, rfl⟩ := h
      rw [cellEq_true h1, cellsEq_true h2]
    · cases h
  | [], _ :: _, h => by cases h
  | _ :: _, [], h => by cases h
theorem keyEq_true {x y : Value} (h : keyEq x y = some true) : x = y := by
  unfold keyEq at h
  split at h
  · rename_i xs ys
    have := cellsEq_true h
    cases xs; cases ys; simp_all
  · exact cellEq_true h

theorem cellEq_fits {k : CK} {x y : Value} {b : Bool} (hk : k.fits x = true) (h : cellEq x y = some b) : k.fits y = true := by
  unfold cellEq at h
  split at h
  · split at h
    · rename_i e; subst e
      cases k <;> first | exact hk | (simp [CK.fits] at hk)
    · cases h
  · cases k <;> first | rfl | (simp [CK.fits] at hk)
  · cases k <;> first | rfl | (simp [CK.fits] at hk)
  · cases h
theorem cellsEq_fits : ∀ {ks : List CK} {xs ys : List Value} {b : Bool}, fitsK ks xs = true → cellsEq xs ys = some b → fitsK ks ys = true
  | ks, [], [], b, h, _ => h
  | [], _ :: _, _, b, h, _ => by simp [fitsK] at h
  | k :: ks, x :: xs, y :: ys, b, h, he => by
    simp only [fitsK, Bool.and_eq_true] at h ⊢
    unfold cellsEq at he
    split at he
    · rename_i a c h1 h2
      exact ⟨cellEq_fits h.1 h1, cellsEq_fits h.2 h2⟩
    · cases he
  | _, [], _ :: _, b, _, he => by cases he
  | _, _ :: _, [], b, _, he => by cases he

theorem fits_plain : ∀ {ks : List CK} {xs : List Value}, fitsK ks xs = true → (xs.all fun | .int _ _ | .string _ | .bool _ => true | _ => false) = true
  | [], [], _ => rfl
  | [], _ :: _, h => by simp [fitsK] at h
  | _ :: _, [], h => by simp [fitsK] at h
  | k :: ks, x :: xs, h => by
    simp only [fitsK, Bool.and_eq_true] at h
    simp only [List.all_cons, Bool.and_eq_true]
    refine ⟨?_, fits_plain h.2⟩
    cases k <;> cases x <;> first | rfl | (simp [CK.fits] at h)

theorem keyOk_plain {kt : TypeId} {key : Value} (h : keyOk C kt key = true) : keyPlain key = true := by
  unfold keyOk at h
  split at h
  · rfl
  · rfl
  · rfl
  · split at h
    · exact fits_plain h
    · cases h
  · split at h
    · exact fits_plain h
    · cases h
  · cases h

theorem plain_same {β : Bij} {v v' : Value} (h : keyPlain v = true) (hr : VR β v v') : v' = v := by
  cases hr <;> first
    | rfl
    | (simp [keyPlain] at h; done)
    | skip
  rename_i a a' ha
  have : ∀ {l l' : List Value}, (l.all fun | .int _ _ | .string _ | .bool _ => true | _ => false) = true → VRs β l l' → l' = l := by
    intro l
    induction l with
    | nil => intro l' _ h; exact h.nil_inv
    | cons x xs ih =>
      intro l' hp h
      simp only [List.all_cons, Bool.and_eq_true] at hp
      obtain ⟨v', l2, rfl, h1, h2⟩ := h.cons_inv
      rw [ih hp.2 h2]
      congr 1
      obtain ⟨hp, _⟩ := hp
      cases h1 <;> first | rfl | (simp at hp)
  have := this h ha
  cases a; cases a'; simp_all

theorem sameBits_self : ∀ (n : Nat) {v : Value}, keyPlain v = true → Instr.sameBits (n + 2) v v = true := by
  intro n v h
  unfold keyPlain at h
  split at h
  · unfold Instr.sameBits; simp
  · unfold Instr.sameBits; exact ba_self _
  · unfold Instr.sameBits; simp
  · rename_i cs
    have : ∀ l : List Value, (l.all fun | .int _ _ | .string _ | .bool _ => true | _ => false) = true → ((l.zip l).all fun (x, y) => Instr.sameBits (n + 1) x y) = true := by
      intro l
      induction l with
      | nil => intro _; rfl
      | cons x xs ih =>
        intro hp
        simp only [List.all_cons, Bool.and_eq_true] at hp
        simp only [List.zip_cons_cons, List.all_cons, Bool.and_eq_true]
        refine ⟨?_, ih hp.2⟩
        obtain ⟨hp, _⟩ := hp
        cases x <;> first | (unfold Instr.sameBits; exact ba_self _) | (unfold Instr.sameBits; simp; done) | (simp at hp)
    unfold Instr.sameBits
    simp only [beq_self_eq_true, Bool.true_and]
    exact this _ h
  · cases h

theorem run_stays {key : Value} (h : keyPlain key = true) : (Instr.keyThatStays key key).run P w = .ok key w := by
  unfold Instr.keyThatStays
  rw [if_pos (sameBits_self 9998 h)]; rfl

include H in
theorem run_checkKey {kt : TypeId} {key : Value} (h : keyOk C kt key = true) (e : Bool) : (Instr.checkKey e 10000 kt key).run P w = .ok () w := by
  unfold keyOk at h
  split at h
  · rename_i hty; rw [show (10000 : Nat) = 9999 + 1 from rfl, Instr.checkKey]; simp [run_under H hty]
  · rename_i hty; rw [show (10000 : Nat) = 9999 + 1 from rfl, Instr.checkKey]; simp [run_under H hty]
  · rename_i hty; rw [show (10000 : Nat) = 9999 + 1 from rfl, Instr.checkKey]; simp [run_under H hty]
  · split at h
    · rename_i ks hks; exact (H.peq _ _ hks).key _ _ _ h
    · cases h
  · split at h
    · rename_i ks hks; exact (H.peq _ _ hks).key _ _ _ h
    · cases h
  · cases h

/-- the answer in the model's words -/
def foundAs (i : Nat) (l' : List MapEntry) (r : Option (Nat × MapEntry)) (r' : Option (Nat × Value)) : Prop :=
  match r with
  | none => r' = none
  | some (j, _) => ∃ e', i ≤ j ∧ l'[j - i]? = some e' ∧ r' = some (j, e'.val)

theorem foundAs.cons {i : Nat} {e0 : MapEntry} {l' : List MapEntry} {r : Option (Nat × MapEntry)} {r' : Option (Nat × Value)} (h : foundAs (i + 1) l' r r') : foundAs i (e0 :: l') r r' := by
  unfold foundAs at h ⊢
  cases r with
  | none => exact h
  | some x =>
    obtain ⟨j, e⟩ := x
    obtain ⟨e', h1, h2, h3⟩ := h
    refine ⟨e', by omega, ?_, h3⟩
    rw [show j - i = (j - (i + 1)) + 1 from by omega]
    simpa using h2

theorem sameNow_of {d : TypeDesc} {key x : Value} {b : Bool} (hd : match d with | .int _ | .string | .bool => True | _ => False) (hf : match d, key with | .int _, .int _ _ | .string, .string _ | .bool, .bool _ => True | _, _ => False)
    (h : cellEq key x = some b) : Instr.sameNow d key x = some b := by
  unfold cellEq at h
  split at h
  · split at h
    · rename_i e; subst e
      cases d <;> simp at hf
      simpa [Instr.sameNow] using h
    · cases h
  · cases d <;> simp at hf
    simpa [Instr.sameNow] using h
  · cases d <;> simp at hf
    simpa [Instr.sameNow] using h
  · cases h

theorem findNow_sim {d : TypeDesc} {key : Value} (hd : match d with | .int _ | .string | .bool => True | _ => False) (hf : match d, key with | .int _, .int _ _ | .string, .string _ | .bool, .bool _ => True | _, _ => False) :
    ∀ {l l' : List MapEntry}, EntsR β l l' → ∀ (i : Nat) {r : Option (Nat × MapEntry)}, findK key l i = some r → ∃ r', Instr.findNow d key l' i = some r' ∧ foundAs i l' r r' := by
  have hne : ∀ x, keyEq key x = cellEq key x := by
    intro x
    cases key <;> cases d <;> simp at hf <;> rfl
  intro l l' h
  induction h with
  | nil => intro i r hr; obtain rfl := Option.some.inj hr; exact ⟨none, rfl, rfl⟩
  | cons h t ih =>
    rename_i e e' l l'
    intro i r hr
    unfold findK at hr
    rw [hne] at hr
    unfold Instr.findNow
    rw [h.key]
    split at hr
    · rename_i hb
      obtain rfl := Option.some.inj hr
      rw [sameNow_of hd hf hb]
      exact ⟨_, rfl, e', Nat.le_refl _, by simp, rfl⟩
    · rename_i hb
      rw [sameNow_of hd hf hb]
      obtain ⟨r', h1, h2⟩ := ih (i + 1) hr
      exact ⟨r', h1, h2.cons⟩
    · cases hr

theorem findAsking_sim {kt : TypeId} {ks : List CK} (A : EqAgree P kt ks) {xs : Array Value} (hx : fitsK ks xs.toList = true) :
    ∀ {l l' : List MapEntry}, EntsR β l l' → ∀ (i : Nat) {r : Option (Nat × MapEntry)}, findK (.agg xs) l i = some r → ∃ r', (Instr.findAsking kt (.agg xs) l' i).run P w = .ok r' w ∧ foundAs i l' r r' := by
  intro l l' h
  induction h with
  | nil => intro i r hr; obtain rfl := Option.some.inj hr; exact ⟨none, rfl, rfl⟩
  | cons h t ih =>
    rename_i e e' l l'
    intro i r hr
    unfold findK at hr
    unfold Instr.findAsking
    rw [h.key]
    have hk : ∀ {b}, keyEq (.agg xs) e.key = some b → (Op.equal kt (.agg xs) e.key).run P w = .ok b w := by
      intro b hb
      unfold keyEq at hb
      split at hb
      · rename_i ys zs heq1 heq2
        cases heq1
        rw [heq2]
        exact A.equal _ _ _ _ hx (cellsEq_fits hx hb) hb
      · simp [cellEq] at hb
    split at hr
    · rename_i hb
      obtain rfl := Option.some.inj hr
      exact ⟨some (i, e'.val), by simp [hk hb], e', Nat.le_refl _, by simp, rfl⟩
    · rename_i hb
      obtain ⟨r', h1, h2⟩ := ih (i + 1) hr
      exact ⟨r', by simp [hk hb, h1], h2.cons⟩
    · cases hr

include H in
theorem findKey_sim {kt : TypeId} {key : Value} (hk : keyOk C kt key = true) {l l' : List MapEntry} (h : EntsR β l l') {r : Option (Nat × MapEntry)} (hr : findK key l 0 = some r) :
    ∃ r', (Instr.findKey kt key l').run P w = .ok r' w ∧ foundAs 0 l' r r' := by
  have aggs : ∀ {d : TypeDesc} {cs : Array Value} {ks : List CK}, (∀ v v', Instr.sameNow d v v' = none ∨ True) → (underlying kt).run P w = .ok d w → (∀ x, Instr.sameNow d (.agg cs) x = none) → C.peq kt = some ks → fitsK ks cs.toList = true → key = .agg cs →
      ∃ r', (Instr.findKey kt key l').run P w = .ok r' w ∧ foundAs 0 l' r r' := by
    rintro d cs ks - hu hn hks hf rfl
    obtain ⟨r', h1, h2⟩ := findAsking_sim (w := w) (H.peq _ _ hks) hf h 0 hr
    refine ⟨r', ?_, h2⟩
    unfold Instr.findKey
    simp only [Sem.run_bind, hu, Result.andThen_ok]
    cases h with
    | nil =>
      obtain rfl := Option.some.inj hr
      simp only [foundAs] at h2
      subst h2
      simp [Instr.findNow]
    | cons h t =>
      unfold Instr.findNow
      rw [hn]
      exact h1
  unfold keyOk at hk
  split at hk
  · rename_i k0 _ _ _ _ _ k n hty
    obtain ⟨r', h1, h2⟩ := findNow_sim (d := .int k0) trivial trivial h 0 hr
    exact ⟨r', by unfold Instr.findKey; simp only [Sem.run_bind, run_under H hty, Result.andThen_ok, h1]; rfl, h2⟩
  · rename_i hty
    obtain ⟨r', h1, h2⟩ := findNow_sim (d := .string) trivial trivial h 0 hr
    exact ⟨r', by unfold Instr.findKey; simp only [Sem.run_bind, run_under H hty, Result.andThen_ok, h1]; rfl, h2⟩
  · rename_i hty
    obtain ⟨r', h1, h2⟩ := findNow_sim (d := .bool) trivial trivial h 0 hr
    exact ⟨r', by unfold Instr.findKey; simp only [Sem.run_bind, run_under H hty, Result.andThen_ok, h1]; rfl, h2⟩
  · rename_i cs hty
    split at hk
    · rename_i ks hks
      exact aggs (fun _ _ => .inr trivial) (run_under H hty) (fun x => by cases x <;> rfl) hks hk rfl
    · cases hk
  · rename_i cs hty
    split at hk
    · rename_i ks hks
      exact aggs (fun _ _ => .inr trivial) (run_under H hty) (fun x => by cases x <;> rfl) hks hk rfl
    · cases hk
  · cases hk

theorem findK_at {key : Value} : ∀ {l : List MapEntry} {i j : Nat} {e : MapEntry}, findK key l i = some (some (j, e)) → i ≤ j ∧ l[j - i]? = some e ∧ e.key = key
  | [], _, _, _, h => by simp [findK] at h
  | x :: l, i, j, e, h => by
    unfold findK at h
    split at h
    · rename_i hb
      obtain ⟨rfl, rfl⟩ := by simpa using h
      exact ⟨Nat.le_refl _, by simp, (keyEq_true hb).symm⟩
    · obtain ⟨h1, h2, h3⟩ := findK_at h
      refine ⟨by omega, ?_, h3⟩
      rw [show j - i = (j - (i + 1)) + 1 from by omega]
      simpa using h2
    · cases h

theorem map_at (hs : SR K β own s.get w) {i : Nat} {es : List MapEntry} {clock : Nat} {v : Value} (hg : s.get i = some (.map es clock)) (h : VR β (.map (some i)) v) :
    ∃ b es', v = .map (some b) ∧ β.obj i = some b ∧ w.heap[b]? = some (.map es' clock) ∧ EntsR β es es'.toList := by
  cases h with
  | map hb =>
    obtain ⟨_, _, h3⟩ := hs.obj _ _ hb
    obtain ⟨es', e, hr⟩ := h3 _ hg
    exact ⟨_, es', rfl, hb, e, hr⟩

theorem run_getMap {b : Nat} {es' : Array MapEntry} {clock : Nat} (h : w.heap[b]? = some (.map es' clock)) : (getObj b).run P w = .ok (.map es' clock) w := by
  simp [getObj, Sem.run, h]

include H in
theorem lookup_sim (hs : SR K β own s.get w) {t : TypeId} {m key m' key' v : Value} {ok : Bool} (hv : lookupV C s t m key ok = some v) (h1 : VR β m m') (h2 : VR β key key') :
    ∃ v', (Instr.lookup t m' key' ok).run P w = .ok v' w ∧ VR β v v' := by
  unfold lookupV at hv
  split at hv
  · rename_i kt et _ _ _ _ _ es hty hes
    split at hv
    · rename_i hk
      obtain rfl := plain_same (keyOk_plain hk) h2
      -- the entries
      have hE : ∃ es' : Array MapEntry, EntsR β es es'.toList ∧ ∀ k : Array MapEntry → Sem Value, (do
          let es ← match m' with
            | .map none => pure #[]
            | .map (some r) => do
              let .map es _ ← getObj r | stuck "Lookup: map expected"
              pure es
            | _ => stuck "Lookup: map expected"
          k es : Sem Value).run P w = (k es').run P w := by
        unfold mapOf at hes
        split at hes
        · obtain rfl := Option.some.inj hes
          cases h1
          exact ⟨#[], .nil, fun k => by simp⟩
        · split at hes
          · rename_i hg
            obtain rfl := Option.some.inj hes
            obtain ⟨b, es', rfl, _, hh, hr⟩ := map_at hs hg h1
            exact ⟨es', hr, fun k => by simp [run_getMap hh]⟩
          · cases hes
        · cases hes
      obtain ⟨es', hr, hE⟩ := hE
      have base : ∀ r : Result Value, (do
          Instr.checkKey es'.isEmpty 10000 kt key'
          let (v, ok2) ← match ← Instr.findKey kt key' es'.toList with
            | some (_, v) => pure (v, true)
            | none => pure (← zeroValue et, false)
          pure (if ok then .tuple #[v, .bool ok2] else v) : Sem Value).run P w = r → (Instr.lookup t m' key' ok).run P w = r := by
        intro r hr
        unfold Instr.lookup
        simp only [Sem.run_bind, run_under H hty, Result.andThen_ok]
        have := hE (fun es => do
          Instr.checkKey es.isEmpty 10000 kt key'
          let (v, ok2) ← match ← Instr.findKey kt key' es.toList with
            | some (_, v) => pure (v, true)
            | none => pure (← zeroValue et, false)
          pure (if ok then .tuple #[v, .bool ok2] else v))
        simp only [Sem.run_bind] at this
        rw [← hr]
        simp only [Sem.run_bind]
        exact this
      split at hv
      · rename_i j e hf
        obtain rfl := Option.some.inj hv
        obtain ⟨r', f1, e', _, f2, rfl⟩ := findKey_sim (w := w) H hk hr hf
        obtain ⟨_, g2, _⟩ := findK_at hf
        obtain ⟨e2, g3, g4⟩ := hr.get g2
        rw [f2] at g3
        obtain rfl := Option.some.inj g3
        refine ⟨if ok then .tuple #[e'.val, .bool true] else e'.val, base _ ?_, ?_⟩
        · simp only [Sem.run_bind, run_checkKey H hk, Result.andThen_ok, f1, Sem.run_pure]
        · cases ok
          · exact g4.val
          · exact .tuple (.cons g4.val (.cons (.bool _) .nil))
      · rename_i hf
        split at hv
        · rename_i z _ _ het
          obtain rfl := Option.some.inj hv
          obtain ⟨r', f1, f2⟩ := findKey_sim (w := w) H hk hr hf
          simp only [foundAs] at f2
          subst f2
          have hz := litOk_self β (H.zero _ _ _ het rfl)
          refine ⟨if ok then .tuple #[z, .bool false] else z, base _ ?_, ?_⟩
          · simp only [Sem.run_bind, run_checkKey H hk, Result.andThen_ok, f1, Sem.run_pure, run_zero H het rfl]
          · cases ok
            · exact hz
            · exact .tuple (.cons hz (.cons (.bool _) .nil))
        · cases hv
      · cases hv
    · cases hv
  · cases hv

theorem setMap (w : World) {b : Nat} {O O' : Obj} (h : w.heap[b]? = some O) : ({ w with heap := w.heap.setIfInBounds b O' } : World).heap[b]? = some O' ∧ (∀ c, c ≠ b → ({ w with heap := w.heap.setIfInBounds b O' } : World).heap[c]? = w.heap[c]?) ∧ ({ w with heap := w.heap.setIfInBounds b O' } : World).heap.size = w.heap.size := by
  have hlt := (Array.getElem?_eq_some_iff.1 h).1
  refine ⟨by simp [hlt], fun c hc => ?_, by simp⟩
  simp [Ne.symm hc]

theorem run_setMap {b : Nat} {es' : Array MapEntry} {clock : Nat} (h : w.heap[b]? = some (.map es' clock)) (O : Obj) : (setObj b O).run P w = .ok () { w with heap := w.heap.setIfInBounds b O } := by
  simp [setObj, Sem.run, h]

include H in
theorem update_sim (hs : SR K β own s.get w) (hw : s.WF) {t : TypeId} {m key v m' key' v' : Value} (hv : updateV C s t m key v = some s') (h1 : VR β m m') (h2 : VR β key key') (h3 : VR β v v') :
    SimU P K β own s w (Instr.mapUpdate t m' key' v') s' ∧ s'.WF := by
  unfold updateV at hv
  split at hv
  · rename_i kt et _ _ _ _ _ r hty
    split at hv
    · rename_i es clock hg
      split at hv
      · rename_i hk
        obtain rfl := plain_same (keyOk_plain hk) h2
        have hpl := keyOk_plain hk
        obtain ⟨b, es', rfl, hb, hh, hr⟩ := map_at hs hg h1
        split at hv
        · rename_i i e hf
          obtain rfl := Option.some.inj hv
          obtain ⟨r', f1, e', _, f2, rfl⟩ := findKey_sim (w := w) H hk hr hf
          obtain ⟨_, g2, g5⟩ := findK_at hf
          simp only [Nat.sub_zero] at g2 f2
          obtain ⟨e2, g3, g4⟩ := hr.get g2
          rw [f2] at g3
          obtain rfl := Option.some.inj g3
          have hke : e'.key = key' := g4.key.trans g5
          obtain ⟨s1, s2, s3⟩ := setMap w (O' := .map (es'.modify i fun e => { e with key := key', val := v' }) clock) hh
          obtain ⟨x1, x2⟩ := set_obj (o := .map (es.modify i fun e => { e with key := key', val := v }) clock) hs hw hb hg s1
            ⟨_, rfl, by
              rw [Array.toList_modify]
              exact hr.modify _ _ i fun e e' _ he => ⟨rfl, hpl, h3, he.born⟩⟩ s3 s2 rfl rfl rfl
          refine ⟨⟨β, own, _, ?_, x1, x2⟩, hw.set hg⟩
          have f3 : es'[i]? = some e' := by simpa using f2
          unfold Instr.mapUpdate
          simp only [Sem.run_bind, run_under H hty, Result.andThen_ok, run_getMap hh, run_checkKey H hk, f1, f3, Option.map_some, Option.getD_some, hke, run_stays hpl, run_setMap hh]
        · rename_i hf
          obtain rfl := Option.some.inj hv
          obtain ⟨r', f1, f2⟩ := findKey_sim (w := w) H hk hr hf
          simp only [foundAs] at f2
          subst f2
          obtain ⟨s1, s2, s3⟩ := setMap w (O' := .map (es'.push { key := key', val := v', born := clock }) (clock + 1)) hh
          obtain ⟨x1, x2⟩ := set_obj (o := .map (es ++ [{ key := key', val := v, born := clock }]) (clock + 1)) hs hw hb hg s1
            ⟨_, rfl, by
              rw [Array.toList_push]
              exact hr.append (.cons ⟨rfl, hpl, h3, rfl⟩ .nil)⟩ s3 s2 rfl rfl rfl
          refine ⟨⟨β, own, _, ?_, x1, x2⟩, hw.set hg⟩
          unfold Instr.mapUpdate
          simp only [Sem.run_bind, run_under H hty, Result.andThen_ok, run_getMap hh, run_checkKey H hk, f1, run_setMap hh]
        · cases hv
      · cases hv
    · cases hv
  · cases hv

include H in
theorem mapEntry_sim (hs : SR K β own s.get w) (hw : s.WF) {t : TypeId} {m key v m' key' : Value} (hv : mapEntryV C s t m key = some (v, s')) (h1 : VR β m m') (h2 : VR β key key') :
    SimV P K β own s w (Instr.mapEntry t m' key') v s' ∧ s'.WF := by
  unfold mapEntryV at hv
  split at hv
  · rename_i kt et _ _ _ _ _ r hty
    split at hv
    · rename_i es clock hg
      split at hv
      · rename_i hk
        obtain rfl := plain_same (keyOk_plain hk) h2
        have hpl := keyOk_plain hk
        obtain ⟨b, es', rfl, hb, hh, hr⟩ := map_at hs hg h1
        split at hv
        · rename_i i e hf
          obtain ⟨rfl, rfl⟩ := Prod.mk.inj (Option.some.inj hv)
          obtain ⟨r', f1, e', _, f2, rfl⟩ := findKey_sim (w := w) H hk hr hf
          obtain ⟨_, g2, g5⟩ := findK_at hf
          simp only [Nat.sub_zero] at g2 f2
          obtain ⟨e2, g3, g4⟩ := hr.get g2
          rw [f2] at g3
          obtain rfl := Option.some.inj g3
          have hke : e'.key = key' := g4.key.trans g5
          obtain ⟨s1, s2, s3⟩ := setMap w (O' := .map (es'.modify i fun e => { e with key := key' }) clock) hh
          obtain ⟨x1, x2⟩ := set_obj (o := .map (es.modify i fun e => { e with key := key' }) clock) hs hw hb hg s1
            ⟨_, rfl, by
              rw [Array.toList_modify]
              exact hr.modify _ _ i fun e e' _ he => ⟨rfl, hpl, he.val, he.born⟩⟩ s3 s2 rfl rfl rfl
          refine ⟨⟨β, own, _, .tuple #[e'.val, goInt e'.born], ?_, x1, x2, .tuple (.cons g4.val (.cons (by rw [g4.born]; exact .int _ _) .nil))⟩, hw.set hg⟩
          have f3 : es'[i]? = some e' := by simpa using f2
          unfold Instr.mapEntry
          simp only [Sem.run_bind, run_under H hty, Result.andThen_ok, run_getMap hh, run_checkKey H hk, f1, f3, Option.map_some, Option.getD_some, hke, run_stays hpl, run_setMap hh, Sem.run_pure]
        · rename_i hf
          split at hv
          · rename_i z _ _ het
            obtain ⟨rfl, rfl⟩ := Prod.mk.inj (Option.some.inj hv)
            obtain ⟨r', f1, f2⟩ := findKey_sim (w := w) H hk hr hf
            simp only [foundAs] at f2
            subst f2
            have hz := litOk_self β (H.zero _ _ _ het rfl)
            obtain ⟨s1, s2, s3⟩ := setMap w (O' := .map (es'.push { key := key', val := z, born := clock }) (clock + 1)) hh
            obtain ⟨x1, x2⟩ := set_obj (o := .map (es ++ [{ key := key', val := z, born := clock }]) (clock + 1)) hs hw hb hg s1
              ⟨_, rfl, by
                rw [Array.toList_push]
                exact hr.append (.cons ⟨rfl, hpl, hz, rfl⟩ .nil)⟩ s3 s2 rfl rfl rfl
            refine ⟨⟨β, own, _, .tuple #[z, goInt clock], ?_, x1, x2, .tuple (.cons hz (.cons (.int _ _) .nil))⟩, hw.set hg⟩
            unfold Instr.mapEntry
            simp only [Sem.run_bind, run_under H hty, Result.andThen_ok, run_getMap hh, run_checkKey H hk, f1, run_zero H het rfl, run_setMap hh, Sem.run_pure]
          · cases hv
        · cases hv
      · cases hv
    · cases hv
  · cases hv

theorem entryStore_sim (hs : SR K β own s.get w) (hw : s.WF) {t : TypeId} {m st v m' st' v' : Value} (hv : entryStoreV s m st v = some s') (h1 : VR β m m') (h2 : VR β st st') (h3 : VR β v v') :
    SimU P K β own s w (Instr.entryStore t m' st' v') s' ∧ s'.WF := by
  unfold entryStoreV at hv
  split at hv
  · rename_i r k n
    obtain rfl := int_inv h2
    split at hv
    · rename_i es clock hg
      obtain ⟨b, es', rfl, hb, hh, hr⟩ := map_at hs hg h1
      split at hv
      · rename_i i hf
        obtain rfl := Option.some.inj hv
        have hf' : es'.findIdx? (fun e => (e.born : Int) == n) = some i := by
          have := hr.findIdx fun b => (b : Int) == n
          rw [← List.findIdx?_toArray] at this
          simpa using this.trans hf
        obtain ⟨s1, s2, s3⟩ := setMap w (O' := .map (es'.modify i fun e => { e with val := v' }) clock) hh
        obtain ⟨x1, x2⟩ := set_obj (o := .map (es.modify i fun e => { e with val := v }) clock) hs hw hb hg s1
          ⟨_, rfl, by
            rw [Array.toList_modify]
            exact hr.modify _ _ i fun e e' _ he => ⟨he.key, he.plain, h3, he.born⟩⟩ s3 s2 rfl rfl rfl
        refine ⟨⟨β, own, _, ?_, x1, x2⟩, hw.set hg⟩
        unfold Instr.entryStore
        simp only [Sem.run_bind, Result.andThen_ok, run_getMap hh, asInt, asIntOf, Sem.run_pure, hf', run_setMap hh]
      · cases hv
    · cases hv
  · cases hv

include H in
theorem delete_sim (hs : SR K β own s.get w) (hw : s.WF) {t u ty : TypeId} {m key m' key' : Value} (hv : deleteV C s t m key = some s') (h1 : VR β m m') (h2 : VR β key key') :
    SimV P K β own s w (Builtin.delete_ #[t, u] ty #[m', key']) (.tuple #[]) s' ∧ s'.WF := by
  unfold deleteV at hv
  split at hv
  · rename_i kt et _ _ _ _ _ hty
    split at hv
    · rename_i hk
      obtain rfl := Option.some.inj hv
      obtain rfl := plain_same (keyOk_plain hk) h2
      cases h1
      refine ⟨⟨β, own, w, _, ?_, .refl .., hs, .undef β⟩, hw⟩
      simp [Builtin.delete_, run_under H hty, run_checkKey H hk]; rfl
    · cases hv
  · rename_i kt et _ _ _ _ _ r hty
    split at hv
    · rename_i es clock hg
      split at hv
      · rename_i hk
        obtain rfl := plain_same (keyOk_plain hk) h2
        obtain ⟨b, es', rfl, hb, hh, hr⟩ := map_at hs hg h1
        split at hv
        · rename_i i e hf
          obtain rfl := Option.some.inj hv
          obtain ⟨r', f1, e', _, f2, rfl⟩ := findKey_sim (w := w) H hk hr hf
          obtain ⟨s1, s2, s3⟩ := setMap w (O' := .map (es'.eraseIdxIfInBounds i) clock) hh
          obtain ⟨x1, x2⟩ := set_obj (o := .map (es.eraseIdx i) clock) hs hw hb hg s1
            ⟨_, rfl, by
              rw [Array.toList_eraseIdxIfInBounds]
              exact hr.erase i⟩ s3 s2 rfl rfl rfl
          refine ⟨⟨β, own, _, _, ?_, x1, x2, .undef β⟩, hw.set hg⟩
          simp only [Builtin.delete_, List.getElem?_toArray, List.getElem?_cons_zero, List.getElem?_cons_succ, Sem.run_bind, run_under H hty, Result.andThen_ok, run_getMap hh, run_checkKey H hk, f1, run_setMap hh]
          rfl
        · rename_i hf
          obtain rfl := Option.some.inj hv
          obtain ⟨r', f1, f2⟩ := findKey_sim (w := w) H hk hr hf
          simp only [foundAs] at f2
          subst f2
          have hself : ({ w with heap := w.heap.setIfInBounds b (.map es' clock) } : World) = w := by
            have hlt := (Array.getElem?_eq_some_iff.1 hh).1
            have hv := (Array.getElem?_eq_some_iff.1 hh).2
            have : w.heap.setIfInBounds b (.map es' clock) = w.heap := by
              apply Array.ext
              · simp
              · intro k k1 k2
                rw [Array.getElem_setIfInBounds]
                split
                · rename_i e; subst e; exact hv.symm
                · rfl
            rw [this]
          refine ⟨⟨β, own, w, _, ?_, .refl .., hs, .undef β⟩, hw⟩
          simp only [Builtin.delete_, List.getElem?_toArray, List.getElem?_cons_zero, List.getElem?_cons_succ, Sem.run_bind, run_under H hty, Result.andThen_ok, run_getMap hh, run_checkKey H hk, f1, run_setMap hh, hself]
          rfl
        · cases hv
      · cases hv
    · cases hv
  · cases hv

end
end Go.Ai
