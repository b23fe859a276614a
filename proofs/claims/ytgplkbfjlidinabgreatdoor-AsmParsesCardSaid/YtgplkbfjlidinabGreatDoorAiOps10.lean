/- The interpreter: what holds of it. -/
import Derived.Test.YtgplkbfjlidinabGreatDoorAiOps7
import Derived.Test.YtgplkbfjlidinabGreatDoorKit
set_option linter.unusedVariables false
set_option linter.unusedSimpArgs false
set_option linter.unnecessarySimpa false
/-
  Maps and their iterators.
-/
namespace Go.Ai
section
variable {P : Program} {C : Cfg} {K : Code → Prop} (H : CfgOk P C K) {β : Bij} {own : Nat → Option Nat} {s s' : St} {w : World}
theorem EntsR.get {l l' : List MapEntry} (h : EntsR β l l') : ∀ {j : Nat} {e : MapEntry}, l[j]? = some e → ∃ e', l'[j]? = some e' ∧ EntR β e e' := by
  induction h with
  | nil => intro j e h; simp at h
  | cons h t ih =>
    intro j e hj;cases j with
    | zero => simp at hj; subst hj; exact ⟨_, rfl, h⟩
    | succ j => simp at hj; simpa using ih hj
theorem EntsR.append {l l' m m' : List MapEntry} (h : EntsR β l l') (h' : EntsR β m m') : EntsR β (l ++ m) (l' ++ m') := by
 induction h with
 | nil => exact h'
 | cons h _ ih => exact .cons h ih
theorem EntsR.modify {l l' : List MapEntry} (h : EntsR β l l') (f g : MapEntry → MapEntry) : ∀ (i : Nat), (∀ e e', l[i]? = some e → EntR β e e' → EntR β (f e) (g e')) → EntsR β (l.modify i f) (l'.modify i g) := by
  induction h with
  | nil => intro i _; simp; exact .nil
  | cons h t ih =>
    intro i hf;cases i with
    | zero => simp only [List.modify_zero_cons]; exact .cons (hf _ _ rfl h) t
    | succ i => simp only [List.modify_succ_cons]; exact .cons h (ih i fun e e' he => hf e e' (by simpa using he))
theorem EntsR.erase {l l' : List MapEntry} (h : EntsR β l l') : ∀ (i : Nat), EntsR β (l.eraseIdx i) (l'.eraseIdx i) := by
  induction h with
  | nil => intro i; simp; exact .nil
  | cons h t ih =>
    intro i;cases i with
    | zero => simpa using t
    | succ i => simpa using EntsR.cons h (ih i)
theorem EntsR.filter {l l' : List MapEntry} (h : EntsR β l l') (p : Nat → Bool) : EntsR β (l.filter fun e => p e.born) (l'.filter fun e => p e.born) := by
  induction h with
  | nil => exact .nil
  | cons h t ih =>
    simp only [List.filter_cons, h.born];split
    · exact .cons h ih
    · exact ih
theorem EntsR.all {l l' : List MapEntry} (h : EntsR β l l') (p : Nat → Bool) : (l'.all fun e => p e.born) = l.all fun e => p e.born := by
 induction h with
 | nil => rfl
 | cons h _ ih => simp [h.born, ih]
theorem EntsR.findIdx {l l' : List MapEntry} (h : EntsR β l l') (p : Nat → Bool) : (l'.findIdx? fun e => p e.born) = l.findIdx? fun e => p e.born := by
 induction h with
 | nil => rfl
 | cons h _ ih => simp only [List.findIdx?_cons, h.born, ih]
theorem EntsR.find {l l' : List MapEntry} (h : EntsR β l l') (p : Nat → Bool) {e : MapEntry} (hf : (l.find? fun e => p e.born) = some e) : ∃ e', (l'.find? fun e => p e.born) = some e' ∧ EntR β e e' := by
  induction h with
  | nil => cases hf
  | cons h t ih =>
    simp only [List.find?_cons, h.born] at hf ⊢;split at hf
    · obtain rfl := Option.some.inj hf; exact ⟨_, rfl, h⟩
    · exact ih hf
theorem ba_beq (a b : ByteArray) : (a == b) = (a.data == b.data) := by
 cases a; cases b; rfl
theorem ba_eq {a b : ByteArray} (h : (a == b) = true) : a = b := by
 rw [ba_beq] at h;have := eq_of_beq h;cases a; cases b; simp_all
theorem ba_self (a : ByteArray) : (a == a) = true := by rw [ba_beq]; exact beq_self_eq_true _
theorem cellEq_true {x y : Value} (h : cellEq x y = some true) : x = y := by
 unfold cellEq at h;split at h
 ·split at h
  ·rename_i e; subst e; simp at h; rw [h]
  ·cases h
 ·simp at h; rw [h]
 ·rw [ba_eq (Option.some.inj h)]
 ·cases h
theorem cellsEq_true : ∀ {xs ys : List Value}, cellsEq xs ys = some true → xs = ys
  | [], [], _ => rfl
  | x :: xs, y :: ys, h => by
    unfold cellsEq at h;split at h
    · rename_i a b h1 h2
      simp only [Option.some.injEq, Bool.and_eq_true] at h;obtain ⟨rfl, rfl⟩ := h;rw [cellEq_true h1, cellsEq_true h2]
    · cases h
  | [], _ :: _, h => Z02
  | _ :: _, [], h => Z02
theorem keyEq_true {x y : Value} (h : keyEq x y = some true) : x = y := by
 unfold keyEq at h;split at h
 ·rename_i xs ys;have := cellsEq_true h;cases xs; cases ys; simp_all
 ·exact cellEq_true h
theorem cellEq_fits {k : CK} {x y : Value} {b : Bool} (hk : k.fits x = true) (h : cellEq x y = some b) : k.fits y = true := by
 unfold cellEq at h;split at h
 ·split at h
  ·rename_i e; subst e;cases k <;> first | exact hk | (simp [CK.fits] at hk)
  ·cases h
 ·cases k <;> first | rfl | (simp [CK.fits] at hk)
 ·cases k <;> first | rfl | (simp [CK.fits] at hk)
 ·cases h
theorem cellsEq_fits : ∀ {ks : List CK} {xs ys : List Value} {b : Bool}, fitsK ks xs = true → cellsEq xs ys = some b → fitsK ks ys = true
  | ks, [], [], b, h, _ => h
  | [], _ :: _, _, b, h, _ => Z1a
  | k :: ks, x :: xs, y :: ys, b, h, he => by
    simp only [fitsK, Bool.and_eq_true] at h ⊢;unfold cellsEq at he;split at he
    · rename_i a c h1 h2
      exact ⟨cellEq_fits h.1 h1, cellsEq_fits h.2 h2⟩
    · cases he
  | _, [], _ :: _, b, _, he => by cases he
  | _, _ :: _, [], b, _, he => by cases he
theorem fits_plain : ∀ {ks : List CK} {xs : List Value}, fitsK ks xs = true → (xs.all fun | .int _ _ | .string _ | .bool _ => true | _ => false) = true
  | [], [], _ => rfl
  | [], _ :: _, h => Z1a
  | _ :: _, [], h => Z1a
  | k :: ks, x :: xs, h => by
    simp only [fitsK, Bool.and_eq_true] at h;simp only [List.all_cons, Bool.and_eq_true];refine ⟨?_, fits_plain h.2⟩;cases k <;> cases x <;> first | rfl | (simp [CK.fits] at h)
theorem keyOk_plain {kt : TypeId} {key : Value} (h : keyOk C kt key = true) : keyPlain key = true := by
 unfold keyOk at h;split at h
 ·rfl
 ·rfl
 ·rfl
 ·split at h
  ·exact fits_plain h
  ·cases h
 ·split at h
  ·exact fits_plain h
  ·cases h
 ·cases h
theorem plain_same {β : Bij} {v v' : Value} (h : keyPlain v = true) (hr : VR β v v') : v' = v := by
  cases hr <;> first
    | rfl
    | (simp [keyPlain] at h; done)
    | skip
  rename_i a a' ha;have : ∀ {l l' : List Value}, (l.all fun | .int _ _ | .string _ | .bool _ => true | _ => false) = true → VRs β l l' → l' = l := by
    intro l;induction l with
    | nil => intro l' _ h; exact h.nil_inv
    | cons x xs ih =>
      intro l' hp h;simp only [List.all_cons, Bool.and_eq_true] at hp;obtain ⟨v', l2, rfl, h1, h2⟩ := h.cons_inv;rw [ih hp.2 h2];congr 1
      obtain ⟨hp, _⟩ := hp;cases h1 <;> first | rfl | (simp at hp)
  have := this h ha;cases a; cases a'; simp_all
theorem sameBits_self : ∀ (n : Nat) {v : Value}, keyPlain v = true → Instr.sameBits (n + 2) v v = true := by
  intro n v h;unfold keyPlain at h;split at h
  · unfold Instr.sameBits; simp
  · unfold Instr.sameBits; exact ba_self _
  · unfold Instr.sameBits; simp
  · rename_i cs
    have : ∀ l : List Value, (l.all fun | .int _ _ | .string _ | .bool _ => true | _ => false) = true → ((l.zip l).all fun (x, y) => Instr.sameBits (n + 1) x y) = true := by
      intro l;induction l with
      | nil => intro _; rfl
      | cons x xs ih =>
        intro hp;simp only [List.all_cons, Bool.and_eq_true] at hp;simp only [List.zip_cons_cons, List.all_cons, Bool.and_eq_true];refine ⟨?_, ih hp.2⟩;obtain ⟨hp, _⟩ := hp;cases x <;> first | (unfold Instr.sameBits; exact ba_self _) | (unfold Instr.sameBits; simp; done) | (simp at hp)
    unfold Instr.sameBits;simp only [beq_self_eq_true, Bool.true_and];exact this _ h
  · cases h
theorem run_stays {key : Value} (h : keyPlain key = true) : (Instr.keyThatStays key key).run P w = .ok key w := by
 unfold Instr.keyThatStays;rw [if_pos (sameBits_self 9998 h)]; rfl
include H in
theorem run_checkKey {kt : TypeId} {key : Value} (h : keyOk C kt key = true) (e : Bool) : (Instr.checkKey e 10000 kt key).run P w = .ok () w := by
 unfold keyOk at h
 split at h
 ·rename_i hty; rw [show (10000 : Nat) = 9999 + 1 from rfl, Instr.checkKey]; simp [run_under H hty]
 ·rename_i hty; rw [show (10000 : Nat) = 9999 + 1 from rfl, Instr.checkKey]; simp [run_under H hty]
 ·rename_i hty; rw [show (10000 : Nat) = 9999 + 1 from rfl, Instr.checkKey]; simp [run_under H hty]
 ·split at h
  ·rename_i ks hks; exact (H.peq _ _ hks).key _ _ _ h
  ·cases h
 ·split at h
  ·rename_i ks hks; exact (H.peq _ _ hks).key _ _ _ h
  ·cases h
 ·cases h
def foundAs (i : Nat) (l' : List MapEntry) (r : Option (Nat × MapEntry)) (r' : Option (Nat × Value)) : Prop :=
 match r with
 | none => r' = none
 | some (j, _) => ∃ e', i ≤ j ∧ l'[j - i]? = some e' ∧ r' = some (j, e'.val)
theorem foundAs.cons {i : Nat} {e0 : MapEntry} {l' : List MapEntry} {r : Option (Nat × MapEntry)} {r' : Option (Nat × Value)} (h : foundAs (i + 1) l' r r') : foundAs i (e0 :: l') r r' := by
  unfold foundAs at h ⊢;cases r with
  | none => exact h
  | some x =>
    obtain ⟨j, e⟩ := x;obtain ⟨e', h1, h2, h3⟩ := h;refine ⟨e', Z4, ?_, h3⟩;rw [show j - i = (j - (i + 1)) + 1 from Z4];simpa using h2
theorem sameNow_of {d : TypeDesc} {key x : Value} {b : Bool} (hd : match d with | .int _ | .string | .bool => True | _ => False) (hf : match d, key with | .int _, .int _ _ | .string, .string _ | .bool, .bool _ => True | _, _ => False)
  (h : cellEq key x = some b) : Instr.sameNow d key x = some b := by
 unfold cellEq at h;split at h
 ·split at h
  ·rename_i e; subst e;cases d <;> simp at hf
   simpa [Instr.sameNow] using h
  ·cases h
 ·cases d <;> simp at hf
  simpa [Instr.sameNow] using h
 ·cases d <;> simp at hf
  simpa [Instr.sameNow] using h
 ·cases h
theorem findNow_sim {d : TypeDesc} {key : Value} (hd : match d with | .int _ | .string | .bool => True | _ => False) (hf : match d, key with | .int _, .int _ _ | .string, .string _ | .bool, .bool _ => True | _, _ => False) :
    ∀ {l l' : List MapEntry}, EntsR β l l' → ∀ (i : Nat) {r : Option (Nat × MapEntry)}, findK key l i = some r → ∃ r', Instr.findNow d key l' i = some r' ∧ foundAs i l' r r' := by
  have hne : ∀ x, keyEq key x = cellEq key x := by
    intro x;cases key <;> cases d <;> simp at hf <;> rfl
  intro l l' h;induction h with
  | nil => intro i r hr; obtain rfl := Option.some.inj hr; exact ⟨none, rfl, rfl⟩
  | cons h t ih =>
    rename_i e e' l l';intro i r hr;unfold findK at hr;rw [hne] at hr;unfold Instr.findNow;rw [h.key];split at hr
    · rename_i hb
      obtain rfl := Option.some.inj hr;rw [sameNow_of hd hf hb];exact ⟨_, rfl, e', Nat.le_refl _, Z0u, rfl⟩
    · rename_i hb
      rw [sameNow_of hd hf hb];obtain ⟨r', h1, h2⟩ := ih (i + 1) hr;exact ⟨r', h1, h2.cons⟩
    · cases hr
theorem findAsking_sim {kt : TypeId} {ks : List CK} (A : EqAgree P kt ks) {xs : Array Value} (hx : fitsK ks xs.toList = true) :
    ∀ {l l' : List MapEntry}, EntsR β l l' → ∀ (i : Nat) {r : Option (Nat × MapEntry)}, findK (.agg xs) l i = some r → ∃ r', (Instr.findAsking kt (.agg xs) l' i).run P w = .ok r' w ∧ foundAs i l' r r' := by
  intro l l' h;induction h with
  | nil => intro i r hr; obtain rfl := Option.some.inj hr; exact ⟨none, rfl, rfl⟩
  | cons h t ih =>
    rename_i e e' l l';intro i r hr;unfold findK at hr;unfold Instr.findAsking;rw [h.key];have hk : ∀ {b}, keyEq (.agg xs) e.key = some b → (Op.equal kt (.agg xs) e.key).run P w = .ok b w := by
      intro b hb;unfold keyEq at hb;split at hb
      · rename_i ys zs heq1 heq2
        cases heq1;rw [heq2];exact A.equal _ _ _ _ hx (cellsEq_fits hx hb) hb
      · simp [cellEq] at hb
    split at hr
    · rename_i hb
      obtain rfl := Option.some.inj hr;exact ⟨some (i, e'.val), by simp [hk hb], e', Nat.le_refl _, Z0u, rfl⟩
    · rename_i hb
      obtain ⟨r', h1, h2⟩ := ih (i + 1) hr;exact ⟨r', by simp [hk hb, h1], h2.cons⟩
    · cases hr
include H in
theorem findKey_sim {kt : TypeId} {key : Value} (hk : keyOk C kt key = true) {l l' : List MapEntry} (h : EntsR β l l') {r : Option (Nat × MapEntry)} (hr : findK key l 0 = some r) :
    ∃ r', (Instr.findKey kt key l').run P w = .ok r' w ∧ foundAs 0 l' r r' := by
  have aggs : ∀ {d : TypeDesc} {cs : Array Value} {ks : List CK}, (∀ v v', Instr.sameNow d v v' = none ∨ True) → (underlying kt).run P w = .ok d w → (∀ x, Instr.sameNow d (.agg cs) x = none) → C.peq kt = some ks → fitsK ks cs.toList = true → key = .agg cs →
      ∃ r', (Instr.findKey kt key l').run P w = .ok r' w ∧ foundAs 0 l' r r' := by
    rintro d cs ks - hu hn hks hf rfl
    obtain ⟨r', h1, h2⟩ := findAsking_sim (w := w) (H.peq _ _ hks) hf h 0 hr
    refine ⟨r', ?_, h2⟩
    unfold Instr.findKey
    simp only [Sem.run_bind, hu, Result.andThen_ok]
    cases h with
    | nil =>
      obtain rfl := Option.some.inj hr
      simp only [foundAs] at h2
      subst h2
      simp [Instr.findNow]
    | cons h t =>
      unfold Instr.findNow
      rw [hn]
      exact h1
  unfold keyOk at hk
  split at hk
  · rename_i k0 _ _ _ _ _ k n hty
    obtain ⟨r', h1, h2⟩ := findNow_sim (d := .int k0) trivial trivial h 0 hr
    exact ⟨r', by unfold Instr.findKey; simp only [Sem.run_bind, run_under H hty, Result.andThen_ok, h1]; rfl, h2⟩
  · rename_i hty
    obtain ⟨r', h1, h2⟩ := findNow_sim (d := .string) trivial trivial h 0 hr
    exact ⟨r', by unfold Instr.findKey; simp only [Sem.run_bind, run_under H hty, Result.andThen_ok, h1]; rfl, h2⟩
  · rename_i hty
    obtain ⟨r', h1, h2⟩ := findNow_sim (d := .bool) trivial trivial h 0 hr
    exact ⟨r', by unfold Instr.findKey; simp only [Sem.run_bind, run_under H hty, Result.andThen_ok, h1]; rfl, h2⟩
  · rename_i cs hty
    split at hk
    · rename_i ks hks
      exact aggs (fun _ _ => .inr trivial) (run_under H hty) (fun x => by cases x <;> rfl) hks hk rfl
    · cases hk
  · rename_i cs hty
    split at hk
    · rename_i ks hks
      exact aggs (fun _ _ => .inr trivial) (run_under H hty) (fun x => by cases x <;> rfl) hks hk rfl
    · cases hk
  · cases hk
theorem findK_at {key : Value} : ∀ {l : List MapEntry} {i j : Nat} {e : MapEntry}, findK key l i = some (some (j, e)) → i ≤ j ∧ l[j - i]? = some e ∧ e.key = key
  | [], _, _, _, h => by simp [findK] at h
  | x :: l, i, j, e, h => by
    unfold findK at h;split at h
    · rename_i hb
      obtain ⟨rfl, rfl⟩ := Z15
      exact ⟨Nat.le_refl _, Z0u, (keyEq_true hb).symm⟩
    · obtain ⟨h1, h2, h3⟩ := findK_at h
      refine ⟨Z4, ?_, h3⟩;rw [show j - i = (j - (i + 1)) + 1 from Z4];simpa using h2
    · cases h
theorem map_at (hs : SR K β own s.get w) {i : Nat} {es : List MapEntry} {clock : Nat} {v : Value} (hg : s.get i = some (.map es clock)) (h : VR β (.map (some i)) v) :
    ∃ b es', v = .map (some b) ∧ β.obj i = some b ∧ w.heap[b]? = some (.map es' clock) ∧ EntsR β es es'.toList := by
  cases h with
  | map hb =>
    obtain ⟨_, _, h3⟩ := hs.obj _ _ hb;obtain ⟨es', e, hr⟩ := h3 _ hg;exact ⟨_, es', rfl, hb, e, hr⟩
theorem run_getMap {b : Nat} {es' : Array MapEntry} {clock : Nat} (h : w.heap[b]? = some (.map es' clock)) : (getObj b).run P w = .ok (.map es' clock) w := by
 simp [getObj, Sem.run, h]
include H in
theorem lookup_sim (hs : SR K β own s.get w) {t : TypeId} {m key m' key' v : Value} {ok : Bool} (hv : lookupV C s t m key ok = some v) (h1 : VR β m m') (h2 : VR β key key') :
    ∃ v', (Instr.lookup t m' key' ok).run P w = .ok v' w ∧ VR β v v' := by
  unfold lookupV at hv
  split at hv
  · rename_i kt et _ _ _ _ _ es hty hes
    split at hv
    · rename_i hk
      obtain rfl := plain_same (keyOk_plain hk) h2
      have hE : ∃ es' : Array MapEntry, EntsR β es es'.toList ∧ ∀ k : Array MapEntry → Sem Value, (do
          let es ← match m' with
            | .map none => pure #[]
            | .map (some r) => do
              let .map es _ ← getObj r | stuck "Lookup: map expected"
              pure es
            | _ => stuck "Lookup: map expected"
          k es : Sem Value).run P w = (k es').run P w := by
        unfold mapOf at hes
        split at hes
        · obtain rfl := Option.some.inj hes
          cases h1
          exact ⟨#[], .nil, fun k => by simp⟩
        · split at hes
          · rename_i hg
            obtain rfl := Option.some.inj hes
            obtain ⟨b, es', rfl, _, hh, hr⟩ := map_at hs hg h1
            exact ⟨es', hr, fun k => by simp [run_getMap hh]⟩
          · cases hes
        · cases hes
      obtain ⟨es', hr, hE⟩ := hE
      have base : ∀ r : Result Value, (do
          Instr.checkKey es'.isEmpty 10000 kt key'
          let (v, ok2) ← match ← Instr.findKey kt key' es'.toList with
            | some (_, v) => pure (v, true)
            | none => pure (← zeroValue et, false)
          pure (if ok then .tuple #[v, .bool ok2] else v) : Sem Value).run P w = r → (Instr.lookup t m' key' ok).run P w = r := by
        intro r hr
        unfold Instr.lookup
        simp only [Sem.run_bind, run_under H hty, Result.andThen_ok]
        have := hE (fun es => do
          Instr.checkKey es.isEmpty 10000 kt key'
          let (v, ok2) ← match ← Instr.findKey kt key' es.toList with
            | some (_, v) => pure (v, true)
            | none => pure (← zeroValue et, false)
          pure (if ok then .tuple #[v, .bool ok2] else v))
        simp only [Sem.run_bind] at this
        rw [← hr]
        simp only [Sem.run_bind]
        exact this
      split at hv
      · rename_i j e hf
        obtain rfl := Option.some.inj hv
        obtain ⟨r', f1, e', _, f2, rfl⟩ := findKey_sim (w := w) H hk hr hf
        obtain ⟨_, g2, _⟩ := findK_at hf
        obtain ⟨e2, g3, g4⟩ := hr.get g2
        rw [f2] at g3
        obtain rfl := Option.some.inj g3
        refine ⟨if ok then .tuple #[e'.val, .bool true] else e'.val, base _ ?_, ?_⟩
        · simp only [Sem.run_bind, run_checkKey H hk, Result.andThen_ok, f1, Sem.run_pure]
        · cases ok
          · exact g4.val
          · exact .tuple (.cons g4.val (.cons (.bool _) .nil))
      · rename_i hf
        split at hv
        · rename_i z _ _ het
          obtain rfl := Option.some.inj hv
          obtain ⟨r', f1, f2⟩ := findKey_sim (w := w) H hk hr hf
          simp only [foundAs] at f2
          subst f2
          have hz := litOk_self β (H.zero _ _ _ het rfl)
          refine ⟨if ok then .tuple #[z, .bool false] else z, base _ ?_, ?_⟩
          · simp only [Sem.run_bind, run_checkKey H hk, Result.andThen_ok, f1, Sem.run_pure, run_zero H het rfl]
          · cases ok
            · exact hz
            · exact .tuple (.cons hz (.cons (.bool _) .nil))
        · cases hv
      · cases hv
    · cases hv
  · cases hv
theorem setMap (w : World) {b : Nat} {O O' : Obj} (h : w.heap[b]? = some O) : ({ w with heap := w.heap.setIfInBounds b O' } : World).heap[b]? = some O' ∧ (∀ c, c ≠ b → ({ w with heap := w.heap.setIfInBounds b O' } : World).heap[c]? = w.heap[c]?) ∧ ({ w with heap := w.heap.setIfInBounds b O' } : World).heap.size = w.heap.size := by
 have hlt := (Array.getElem?_eq_some_iff.1 h).1;refine ⟨by simp [hlt], fun c hc => ?_, Z0u⟩;simp [Ne.symm hc]
theorem run_setMap {b : Nat} {es' : Array MapEntry} {clock : Nat} (h : w.heap[b]? = some (.map es' clock)) (O : Obj) : (setObj b O).run P w = .ok () { w with heap := w.heap.setIfInBounds b O } := by
 simp [setObj, Sem.run, h]
include H in
theorem update_sim (hs : SR K β own s.get w) (hw : s.WF) {t : TypeId} {m key v m' key' v' : Value} (hv : updateV C s t m key v = some s') (h1 : VR β m m') (h2 : VR β key key') (h3 : VR β v v') :
  SimU P K β own s w (Instr.mapUpdate t m' key' v') s' ∧ s'.WF := by
 unfold updateV at hv
 split at hv
 ·rename_i kt et _ _ _ _ _ r hty
  split at hv
  ·rename_i es clock hg
   split at hv
   ·rename_i hk
    obtain rfl := plain_same (keyOk_plain hk) h2
    have hpl := keyOk_plain hk
    obtain ⟨b, es', rfl, hb, hh, hr⟩ := map_at hs hg h1
    split at hv
    ·rename_i i e hf
     obtain rfl := Option.some.inj hv
     obtain ⟨r', f1, e', _, f2, rfl⟩ := findKey_sim (w := w) H hk hr hf
     obtain ⟨_, g2, g5⟩ := findK_at hf
     simp only [Nat.sub_zero] at g2 f2
     obtain ⟨e2, g3, g4⟩ := hr.get g2
     rw [f2] at g3
     obtain rfl := Option.some.inj g3
     have hke : e'.key = key' := g4.key.trans g5
     obtain ⟨s1, s2, s3⟩ := setMap w (O' := .map (es'.modify i fun e => { e with key := key', val := v' }) clock) hh
     obtain ⟨x1, x2⟩ := set_obj (o := .map (es.modify i fun e => { e with key := key', val := v }) clock) hs hw hb hg s1
      ⟨_, rfl, by
       rw [Array.toList_modify]
       exact hr.modify _ _ i fun e e' _ he => ⟨rfl, hpl, h3, he.born⟩⟩ s3 s2 rfl rfl rfl
     refine ⟨⟨β, own, _, ?_, x1, x2⟩, hw.set hg⟩
     have f3 : es'[i]? = some e' := by simpa using f2
     unfold Instr.mapUpdate
     simp only [Sem.run_bind, run_under H hty, Result.andThen_ok, run_getMap hh, run_checkKey H hk, f1, f3, Option.map_some, Option.getD_some, hke, run_stays hpl, run_setMap hh]
    ·rename_i hf
     obtain rfl := Option.some.inj hv
     obtain ⟨r', f1, f2⟩ := findKey_sim (w := w) H hk hr hf
     simp only [foundAs] at f2
     subst f2
     obtain ⟨s1, s2, s3⟩ := setMap w (O' := .map (es'.push { key := key', val := v', born := clock }) (clock + 1)) hh
     obtain ⟨x1, x2⟩ := set_obj (o := .map (es ++ [{ key := key', val := v, born := clock }]) (clock + 1)) hs hw hb hg s1
      ⟨_, rfl, by
       rw [Array.toList_push]
       exact hr.append (.cons ⟨rfl, hpl, h3, rfl⟩ .nil)⟩ s3 s2 rfl rfl rfl
     refine ⟨⟨β, own, _, ?_, x1, x2⟩, hw.set hg⟩
     unfold Instr.mapUpdate
     simp only [Sem.run_bind, run_under H hty, Result.andThen_ok, run_getMap hh, run_checkKey H hk, f1, run_setMap hh]
    ·cases hv
   ·cases hv
  ·cases hv
 ·cases hv
include H in
theorem mapEntry_sim (hs : SR K β own s.get w) (hw : s.WF) {t : TypeId} {m key v m' key' : Value} (hv : mapEntryV C s t m key = some (v, s')) (h1 : VR β m m') (h2 : VR β key key') :
  SimV P K β own s w (Instr.mapEntry t m' key') v s' ∧ s'.WF := by
 unfold mapEntryV at hv
 split at hv
 ·rename_i kt et _ _ _ _ _ r hty
  split at hv
  ·rename_i es clock hg
   split at hv
   ·rename_i hk
    obtain rfl := plain_same (keyOk_plain hk) h2
    have hpl := keyOk_plain hk
    obtain ⟨b, es', rfl, hb, hh, hr⟩ := map_at hs hg h1
    split at hv
    ·rename_i i e hf
     obtain ⟨rfl, rfl⟩ := Prod.mk.inj (Option.some.inj hv)
     obtain ⟨r', f1, e', _, f2, rfl⟩ := findKey_sim (w := w) H hk hr hf
     obtain ⟨_, g2, g5⟩ := findK_at hf
     simp only [Nat.sub_zero] at g2 f2
     obtain ⟨e2, g3, g4⟩ := hr.get g2
     rw [f2] at g3
     obtain rfl := Option.some.inj g3
     have hke : e'.key = key' := g4.key.trans g5
     obtain ⟨s1, s2, s3⟩ := setMap w (O' := .map (es'.modify i fun e => { e with key := key' }) clock) hh
     obtain ⟨x1, x2⟩ := set_obj (o := .map (es.modify i fun e => { e with key := key' }) clock) hs hw hb hg s1
      ⟨_, rfl, by
       rw [Array.toList_modify]
       exact hr.modify _ _ i fun e e' _ he => ⟨rfl, hpl, he.val, he.born⟩⟩ s3 s2 rfl rfl rfl
     refine ⟨⟨β, own, _, .tuple #[e'.val, goInt e'.born], ?_, x1, x2, .tuple (.cons g4.val (.cons (by rw [g4.born]; exact .int _ _) .nil))⟩, hw.set hg⟩
     have f3 : es'[i]? = some e' := by simpa using f2
     unfold Instr.mapEntry
     simp only [Sem.run_bind, run_under H hty, Result.andThen_ok, run_getMap hh, run_checkKey H hk, f1, f3, Option.map_some, Option.getD_some, hke, run_stays hpl, run_setMap hh, Sem.run_pure]
    ·rename_i hf
     split at hv
     ·rename_i z _ _ het
      obtain ⟨rfl, rfl⟩ := Prod.mk.inj (Option.some.inj hv)
      obtain ⟨r', f1, f2⟩ := findKey_sim (w := w) H hk hr hf
      simp only [foundAs] at f2
      subst f2
      have hz := litOk_self β (H.zero _ _ _ het rfl)
      obtain ⟨s1, s2, s3⟩ := setMap w (O' := .map (es'.push { key := key', val := z, born := clock }) (clock + 1)) hh
      obtain ⟨x1, x2⟩ := set_obj (o := .map (es ++ [{ key := key', val := z, born := clock }]) (clock + 1)) hs hw hb hg s1
       ⟨_, rfl, by
        rw [Array.toList_push]
        exact hr.append (.cons ⟨rfl, hpl, hz, rfl⟩ .nil)⟩ s3 s2 rfl rfl rfl
      refine ⟨⟨β, own, _, .tuple #[z, goInt clock], ?_, x1, x2, .tuple (.cons hz (.cons (.int _ _) .nil))⟩, hw.set hg⟩
      unfold Instr.mapEntry
      simp only [Sem.run_bind, run_under H hty, Result.andThen_ok, run_getMap hh, run_checkKey H hk, f1, run_zero H het rfl, run_setMap hh, Sem.run_pure]
     ·cases hv
    ·cases hv
   ·cases hv
  ·cases hv
 ·cases hv
theorem entryStore_sim (hs : SR K β own s.get w) (hw : s.WF) {t : TypeId} {m st v m' st' v' : Value} (hv : entryStoreV s m st v = some s') (h1 : VR β m m') (h2 : VR β st st') (h3 : VR β v v') :
  SimU P K β own s w (Instr.entryStore t m' st' v') s' ∧ s'.WF := by
 unfold entryStoreV at hv;split at hv
 ·rename_i r k n;obtain rfl := int_inv h2;split at hv
  ·rename_i es clock hg;obtain ⟨b, es', rfl, hb, hh, hr⟩ := map_at hs hg h1;split at hv
   ·rename_i i hf;obtain rfl := Option.some.inj hv;have hf' : es'.findIdx? (fun e => (e.born : Int) == n) = some i := by
     have := hr.findIdx fun b => (b : Int) == n
     rw [← List.findIdx?_toArray] at this;simpa using this.trans hf
    obtain ⟨s1, s2, s3⟩ := setMap w (O' := .map (es'.modify i fun e => { e with val := v' }) clock) hh;obtain ⟨x1, x2⟩ := set_obj (o := .map (es.modify i fun e => { e with val := v }) clock) hs hw hb hg s1
     ⟨_, rfl, by
      rw [Array.toList_modify];exact hr.modify _ _ i fun e e' _ he => ⟨he.key, he.plain, h3, he.born⟩⟩ s3 s2 rfl rfl rfl
    refine ⟨⟨β, own, _, ?_, x1, x2⟩, hw.set hg⟩;unfold Instr.entryStore;simp only [Sem.run_bind, Result.andThen_ok, run_getMap hh, asInt, asIntOf, Sem.run_pure, hf', run_setMap hh]
   ·cases hv
  ·cases hv
 ·cases hv
include H in
theorem delete_sim (hs : SR K β own s.get w) (hw : s.WF) {t u ty : TypeId} {m key m' key' : Value} (hv : deleteV C s t m key = some s') (h1 : VR β m m') (h2 : VR β key key') :
  SimV P K β own s w (Builtin.delete_ #[t, u] ty #[m', key']) (.tuple #[]) s' ∧ s'.WF := by
 unfold deleteV at hv
 split at hv
 ·rename_i kt et _ _ _ _ _ hty
  split at hv
  ·rename_i hk
   obtain rfl := Option.some.inj hv
   obtain rfl := plain_same (keyOk_plain hk) h2
   cases h1
   refine ⟨⟨β, own, w, _, ?_, .refl .., hs, .undef β⟩, hw⟩
   simp [Builtin.delete_, run_under H hty, run_checkKey H hk]; rfl
  ·cases hv
 ·rename_i kt et _ _ _ _ _ r hty
  split at hv
  ·rename_i es clock hg
   split at hv
   ·rename_i hk
    obtain rfl := plain_same (keyOk_plain hk) h2
    obtain ⟨b, es', rfl, hb, hh, hr⟩ := map_at hs hg h1
    split at hv
    ·rename_i i e hf
     obtain rfl := Option.some.inj hv
     obtain ⟨r', f1, e', _, f2, rfl⟩ := findKey_sim (w := w) H hk hr hf
     obtain ⟨s1, s2, s3⟩ := setMap w (O' := .map (es'.eraseIdxIfInBounds i) clock) hh
     obtain ⟨x1, x2⟩ := set_obj (o := .map (es.eraseIdx i) clock) hs hw hb hg s1
      ⟨_, rfl, by
       rw [Array.toList_eraseIdxIfInBounds]
       exact hr.erase i⟩ s3 s2 rfl rfl rfl
     refine ⟨⟨β, own, _, _, ?_, x1, x2, .undef β⟩, hw.set hg⟩
     simp only [Builtin.delete_, List.getElem?_toArray, List.getElem?_cons_zero, List.getElem?_cons_succ, Sem.run_bind, run_under H hty, Result.andThen_ok, run_getMap hh, run_checkKey H hk, f1, run_setMap hh]
     rfl
    ·rename_i hf
     obtain rfl := Option.some.inj hv
     obtain ⟨r', f1, f2⟩ := findKey_sim (w := w) H hk hr hf
     simp only [foundAs] at f2
     subst f2
     have hself : ({ w with heap := w.heap.setIfInBounds b (.map es' clock) } : World) = w := by
      have hlt := (Array.getElem?_eq_some_iff.1 hh).1
      have hv := (Array.getElem?_eq_some_iff.1 hh).2
      have : w.heap.setIfInBounds b (.map es' clock) = w.heap := by
       apply Array.ext
       ·simp
       ·intro k k1 k2
        rw [Array.getElem_setIfInBounds]
        split
        ·rename_i e; subst e; exact hv.symm
        ·rfl
      rw [this]
     refine ⟨⟨β, own, w, _, ?_, .refl .., hs, .undef β⟩, hw⟩
     simp only [Builtin.delete_, List.getElem?_toArray, List.getElem?_cons_zero, List.getElem?_cons_succ, Sem.run_bind, run_under H hty, Result.andThen_ok, run_getMap hh, run_checkKey H hk, f1, run_setMap hh, hself]
     rfl
    ·cases hv
   ·cases hv
  ·cases hv
 ·cases hv
end
end Go.Ai
/-
  Iterators; every operation that is no call of a function.
-/
namespace Go.Ai
section
variable {P : Program} {C : Cfg} {K : Code → Prop} (H : CfgOk P C K) {β : Bij} {own : Nat → Option Nat} {s s' : St} {w : World}
theorem SimV.new_obj (hs : SR K β own s.get w) (hw : s.WF) {s1 : St} (hf : Free β s s1) {m : Sem Value} {o : AObj} {O : Obj} (hn : s1 = s.new o) (ho : ∀ b, ObjR (β.setObj s.n b) K o (some O))
  {v : Value} {v' : Value} (hm : m.run P w = .ok v' (w.alloc O)) (hv : VR (β.setObj s.n w.heap.size) v v') : SimV P K β own s w m v s1 ∧ s1.WF := by
 subst hn;obtain ⟨x1, x2⟩ := Ai.new_obj hs hf o O Z0x (ho _);exact ⟨⟨_, _, _, _, hm, x1, x2, hv⟩, hw.new _⟩
theorem setObj_at (β : Bij) (i b : Nat) : (β.setObj i b).obj i = some b := by simp [Bij.setObj]
include H in
theorem range_sim (hs : SR K β own s.get w) (hw : s.WF) (hf : Free β s s') {t : TypeId} {x x' v : Value} (hv : rangeV C s t x = some (v, s')) (hx : VR β x x') : SimV P K β own s w (Instr.range t x') v s' ∧ s'.WF := by
 unfold rangeV at hv
 split at hv
 ·rename_i b hty
  obtain ⟨rfl, rfl⟩ := Prod.mk.inj (Option.some.inj hv)
  obtain rfl := string_inv hx
  refine SimV.new_obj (O := .stringIter b 0) hs hw hf rfl (fun _ => rfl) (v' := .pointer (some ⟨w.heap.size, 0, none⟩)) ?_ (.ptrObj (setObj_at _ _ _))
  simp [Instr.range, run_under H hty]
 ·rename_i hty
  obtain ⟨rfl, rfl⟩ := Prod.mk.inj (Option.some.inj hv)
  cases hx
  refine SimV.new_obj (O := .mapIter none 0 #[] 0) hs hw hf rfl (fun _ => rfl) (v' := .pointer (some ⟨w.heap.size, 0, none⟩)) ?_ (.ptrObj (setObj_at _ _ _))
  simp [Instr.range, run_under H hty]
 ·rename_i m hty
  split at hv
  ·rename_i es clock hg
   obtain ⟨rfl, rfl⟩ := Prod.mk.inj (Option.some.inj hv)
   obtain ⟨b, es', rfl, hb, hh, hr⟩ := map_at hs hg hx
   have hne : m ≠ s.n := by
    have := hw.lt hg; omega
   refine SimV.new_obj (O := .mapIter (some b) clock #[] clock) hs hw hf rfl (fun c => ⟨b, by simp [Bij.setObj, hne]; exact hb, rfl⟩) (v' := .pointer (some ⟨w.heap.size, 0, none⟩)) ?_ (.ptrObj (setObj_at _ _ _))
   simp [Instr.range, run_under H hty, run_getMap hh]
  ·cases hv
 ·cases hv
theorem run_getObj {b : Nat} {O : Obj} (h : w.heap[b]? = some O) (hn : ∀ c t fr, O ≠ .cells c t fr) : (getObj b).run P w = .ok O w := by
 cases O <;> first
  | exact absurd rfl (hn _ _ _)
  | simp [getObj, Sem.run, h]
theorem run_setObj {b : Nat} {O : Obj} (h : w.heap[b]? = some O) (hn : ∀ c t fr, O ≠ .cells c t fr) (O' : Obj) : (setObj b O').run P w = .ok () { w with heap := w.heap.setIfInBounds b O' } := by
 cases O <;> first
  | exact absurd rfl (hn _ _ _)
  | simp [setObj, Sem.run, h]
theorem entry_sim (hs : SR K β own s.get w) {it it' v : Value} (hv : entryV s it = some v) (hx : VR β it it') : ∃ v', (Instr.entry it').run P w = .ok v' w ∧ VR β v v' := by
  unfold entryV at hv;split at hv
  · rename_i r
    split at hv
    · rename_i m since seen stepped hg
      split at hv
      · rename_i stamp es clock hse hgm
        split at hv
        · rename_i hc
          rw [Option.map_eq_some_iff] at hv;obtain ⟨e, he, rfl⟩ := hv;cases hx with
          | ptrObj hb =>
            obtain ⟨_, _, h3⟩ := hs.obj _ _ hb;obtain ⟨bm, hbm, hO⟩ := h3 _ hg;obtain ⟨_, _, h4⟩ := hs.obj _ _ hbm;obtain ⟨es', hm, hr⟩ := h4 _ hgm;obtain ⟨e', he', hre⟩ := hr.find (fun b => b == stamp) he;have he2 : es'.find? (fun e => e.born == stamp) = some e' := by
              have := List.find?_toArray (fun e : MapEntry => e.born == stamp) es'.toList;simp only [Array.toArray_toList] at this;rw [this]; exact he'
            refine ⟨.tuple #[e'.key, e'.val], ?_, .tuple (.cons (by rw [hre.key]; exact (by
              have := hre.plain;exact plain_rel this)) (.cons hre.val .nil))⟩
            have hlast : seen.toArray.back? = some stamp := by simpa using hse
            simp only [Instr.entry, Sem.run_bind, run_getObj hO Z1w, Result.andThen_ok, hlast, run_getMap hm];rw [if_neg (by simpa using hc)];simp only [Sem.run_pure, he2]
        · cases hv
      · cases hv
    · cases hv
  · cases hv
where
  plain_rel {k : Value} (h : keyPlain k = true) : VR β k k := by
    unfold keyPlain at h;split at h
    · exact .int _ _
    · exact .string _
    · exact .bool _
    · rename_i cs
      refine .agg (.of rfl fun j v v' hv hv' => ?_);rw [hv] at hv';obtain rfl := Option.some.inj hv';have := List.all_eq_true.1 h v (List.mem_of_getElem? hv);split at this
      · exact .int _ _
      · exact .string _
      · exact .bool _
      · cases this
    · cases h
theorem plain_rel {β : Bij} {k : Value} (h : keyPlain k = true) : VR β k k := entry_sim.plain_rel h
theorem next_sim (hs : SR K β own s.get w) (hw : s.WF) {it it' : Value} {isS : Bool} {l : List (Value × St)} (hl : nextV s it isS = some l) (hx : VR β it it') (t : TypeId) :
    ∃ v s', (M.ofList l).Has (v, s') ∧ s'.WF ∧ s'.n = s.n ∧ SimV P K β own s w (Instr.next it' isS t) v s' := by
  unfold nextV at hl;split at hl
  · rename_i r
    cases hx with
    | @ptrObj _ _ br hb =>
    obtain ⟨_, _, h3⟩ := hs.obj _ _ hb;split at hl
    · rename_i b pos hg
      have hO : w.heap[br]? = some (.stringIter b pos) := h3 _ hg;split at hl
      · rename_i hp
        obtain rfl := Option.some.inj hl;obtain ⟨s1, s2, s3⟩ := setMap w (O' := .stringIter b (pos + (Utf8.decode b pos).2)) hO;obtain ⟨x1, x2⟩ := set_obj (o := .siter b (pos + (Utf8.decode b pos).2)) hs hw hb hg s1 rfl s3 s2 rfl rfl rfl;refine ⟨_, _, .ret _, hw.set hg, rfl, β, own, _, .tuple #[.bool true, goInt pos, .int .i32 (Utf8.decode b pos).1], ?_, x1, x2, .tuple (.cons (.bool _) (.cons (.int _ _) (.cons (.int _ _) .nil)))⟩;simp only [Instr.next, Sem.run_bind, run_getObj hO Z1w, Result.andThen_ok];rw [if_pos hp];simp only [Sem.run_bind, run_setObj hO Z1w, Result.andThen_ok, Sem.run_pure]
      · rename_i hp
        obtain rfl := Option.some.inj hl;refine ⟨_, _, .ret _, hw, rfl, SimV.same hs ⟨.tuple #[.bool false], ?_, .tuple (.cons (.bool _) .nil)⟩⟩;simp only [Instr.next, Sem.run_bind, run_getObj hO Z1w, Result.andThen_ok];rw [if_neg hp]; rfl
    · rename_i hg
      have hO : w.heap[br]? = some (.mapIter none _ _ _) := h3 _ hg;obtain rfl := Option.some.inj hl;refine ⟨_, _, .ret _, hw, rfl, SimV.same hs ⟨.tuple #[.bool false], ?_, .tuple (.cons (.bool _) .nil)⟩⟩;simp only [Instr.next, Sem.run_bind, run_getObj hO Z1w, Result.andThen_ok];rfl
    · rename_i m since seen last hg
      split at hl
      · rename_i es clock hgm
        split at hl
        · cases hl
        · rename_i hbad
          obtain ⟨bm, hbm, hO⟩ := h3 _ hg;obtain ⟨_, _, h4⟩ := hs.obj _ _ hbm;obtain ⟨es', hm, hr⟩ := h4 _ hgm;have hl := Option.some.inj hl;have hbad' : ¬ ((!seen.toArray.isEmpty && !es'.isEmpty && es'.all fun e => decide (e.born ≥ last)) = true) := by
            have e1 : seen.toArray.isEmpty = seen.isEmpty := by cases seen <;> rfl
            have e2 : es'.isEmpty = es.isEmpty := by
              have := hr.length;cases es <;> cases es' with
              | mk l => cases l <;> simp_all
            have e3 : (es'.all fun e => decide (e.born ≥ last)) = es.all fun e => decide (e.born ≥ last) := by
              have := hr.all fun b => decide (b ≥ last)
              rw [← this]; simp
            rw [e1, e2, e3]; exact hbad
          let left := es.filter fun e => !seen.contains e.born
          let left' := es'.filter fun e => !seen.toArray.contains e.born
          have hleft : EntsR β left left'.toList := by
            have := hr.filter fun b => !seen.contains b
            simpa [left, left'] using this
          let old := left.filter fun e => decide (e.born < since)
          let old' := left'.filter fun e => decide (e.born < since)
          have hold : EntsR β old old'.toList := by simpa [old, old'] using hleft.filter fun b => decide (b < since)
          let new := left.filter fun e => decide (e.born ≥ since)
          let new' := left'.filter fun e => decide (e.born ≥ since)
          have hnew : EntsR β new new'.toList := by simpa [new, new'] using hleft.filter fun b => decide (b ≥ since)
          have hall : EntsR β (old ++ new) (old' ++ new').toList := by simpa using hold.append hnew
          have hemp : old'.isEmpty = old.isEmpty := by
            have := hold.length;cases h : old <;> cases h' : old' with
            | mk l => cases l <;> simp_all
          let F : MapEntry → Value × St := fun e => (.tuple #[.bool true, e.key, e.val], s.set r (.iter (some m) since (seen ++ [e.born]) clock))
          have hl : ((if old.isEmpty then [(Value.tuple #[.bool false], s)] else []) ++ (old ++ new).map F) = l := hl;let cands : Array (Option MapEntry) := (if old'.isEmpty then #[none] else #[]) ++ (old' ++ new').map some
          have hsz : cands.size = l.length := by
            rw [← hl];simp only [cands, hemp];have := hall.length;simp at this
            split <;> simp <;> omega
          have hpos : 0 < l.length := by
            rw [← hl];cases h : old with
            | nil => simp
            | cons => simp
          obtain ⟨c, w1, hc, hcl, hw1⟩ : ∃ c w1, (choose (.mapNext cands.size)).run P w = .ok c w1 ∧ c < l.length ∧ (w1 = w ∨ w1 = w.drew) := by
            rw [run_choose];by_cases h1 : cands.size ≤ 1
            · refine ⟨0, w, by simp [Question.forced, h1], hpos, .inl rfl⟩
            · refine ⟨_, w.drew, by simp [Question.forced, h1]; rfl, ?_, .inr rfl⟩
              simp only [Question.cut];rw [hsz];exact Nat.mod_lt _ hpos
          have hs1 : Ext β own s w β own s w1 ∧ SR K β own s.get w1 := by
            rcases hw1 with rfl | rfl
            · exact ⟨.refl .., hs⟩
            · exact drew_ext hs
          have hO1 : w1.heap[br]? = some (.mapIter (some bm) since seen.toArray last) := by rcases hw1 with rfl | rfl <;> exact hO
          obtain ⟨x, hx⟩ : ∃ x, l[c]? = some x := ⟨l[c], by simp [hcl]⟩;have hhas : (M.ofList l).Has x := by
            cases l with
            | nil => simp at hcl
            | cons a r =>
              cases r with
              | nil =>
                have : c = 0 := by simp at hcl; omega
                subst this;simp at hx; subst hx
                exact .ret _
              | cons b r =>
                unfold M.ofList;refine .ask hcl ?_;rw [hx]; exact .ret _
          have hrun : ∀ (r1 : Result Value), (do
              let c ← choose (.mapNext cands.size)
              match cands[c]? with
              | some (some e) =>
                setObj br (.mapIter (some bm) since (seen.toArray.push e.born) clock)
                pure (.tuple #[.bool true, e.key, e.val])
              | some none => pure (.tuple #[.bool false])
              | none => stuck "Next: no such candidate" : Sem Value).run P w = r1 → (Instr.next (.pointer (some ⟨br, 0, none⟩)) false t).run P w = r1 := by
            intro r1 h1;simp only [Instr.next, Sem.run_bind, run_getObj hO Z1w, Result.andThen_ok, run_getMap hm];rw [if_neg hbad'];rw [← h1];simp only [Sem.run_bind];rfl
          have hcase : (old.isEmpty = true ∧ c = 0 ∧ x = (Value.tuple #[.bool false], s) ∧ cands[c]? = some none) ∨ (∃ e e', x = F e ∧ EntR β e e' ∧ cands[c]? = some (some e')) := by
            rw [← hl] at hx;by_cases he : old.isEmpty = true
            · simp only [he, if_true] at hx
              cases c with
              | zero =>
                left
                simp only [List.singleton_append, List.getElem?_cons_zero, Option.some.injEq] at hx;refine ⟨he, rfl, hx.symm, ?_⟩;simp only [cands, hemp, he, if_true];rw [Array.getElem?_append_left Z0u];rfl
              | succ c =>
                right
                simp only [List.singleton_append, List.getElem?_cons_succ, List.getElem?_map, Option.map_eq_some_iff] at hx;obtain ⟨e, he1, rfl⟩ := hx;obtain ⟨e', h1, h2⟩ := hall.get he1;refine ⟨e, e', rfl, h2, ?_⟩;have h1' : (old' ++ new')[c]? = some e' := by rw [← Array.getElem?_toList]; exact h1
                simp only [cands, hemp, he, if_true];rw [Array.getElem?_append_right Z0u];simp only [Array.getElem?_map];rw [show c + 1 - (#[none] : Array (Option MapEntry)).size = c from Z0u, h1'];rfl
            · right
              simp only [he, Bool.false_eq_true, if_false, List.nil_append, List.getElem?_map, Option.map_eq_some_iff] at hx;obtain ⟨e, he1, rfl⟩ := hx;obtain ⟨e', h1, h2⟩ := hall.get he1;refine ⟨e, e', rfl, h2, ?_⟩;have h1' : (old' ++ new')[c]? = some e' := by rw [← Array.getElem?_toList]; exact h1
              simp only [cands, hemp, he, Bool.false_eq_true, if_false];simp only [Array.empty_append, Array.getElem?_map, h1'];rfl
          rcases hcase with ⟨_, _, rfl, hcand⟩ | ⟨e, e', rfl, hre, hcand⟩
          · refine ⟨_, _, hhas, hw, rfl, β, own, w1, .tuple #[.bool false], hrun _ ?_, hs1.1, hs1.2, .tuple (.cons (.bool _) .nil)⟩
            simp only [Sem.run_bind, hc, Result.andThen_ok, hcand, Sem.run_pure]
          · obtain ⟨s1, s2, s3⟩ := setMap w1 (O' := .mapIter (some bm) since (seen.toArray.push e'.born) clock) hO1
            obtain ⟨x1, x2⟩ := set_obj (o := .iter (some m) since (seen ++ [e.born]) clock) hs1.2 hw hb hg s1 ⟨bm, hbm, by rw [hre.born]; simp⟩ s3 s2 rfl rfl rfl;refine ⟨_, _, hhas, hw.set hg, rfl, β, own, _, .tuple #[.bool true, e'.key, e'.val], hrun _ ?_, hs1.1.trans x1, x2, .tuple (.cons (.bool _) (.cons (by rw [hre.key]; exact plain_rel hre.plain) (.cons hre.val .nil)))⟩;simp only [Sem.run_bind, hc, Result.andThen_ok, hcand, run_setObj hO1 Z1w, Sem.run_pure]
      · cases hl
    · cases hl
  · cases hl
end
end Go.Ai
/-
  Every operation that is no call of a function.
-/
namespace Go.Ai
def gl (G : Nat) : Nat := cond (Nat.blt G 1000) G 0
def okx (G : Nat) : Operand → Bool
 | .const v => litOk v
 | .global g => decide (g < gl G)
 | _ => true
section
variable {P : Program} {C : Cfg} {K : Code → Prop} (H : CfgOk P C K) {β : Bij} {own : Nat → Option Nat} {s s' : St} {w : World} {ok : Operand → Bool}
def OpSim (P : Program) (K : Code → Prop) (β : Bij) (own : Nat → Option Nat) (s : St) (w : World) (m : Sem Next) (v : Value) (s' : St) : Prop :=
 ∃ β' own' w' v', (m.run P w = .ok (.value v') w' ∨ (m.run P w = .ok .skip w' ∧ v' = undef)) ∧ Ext β own s w β' own' s' w' ∧ SR K β' own' s'.get w' ∧ VR β' v v'
theorem OpSim.ofV {m : Sem Value} {n : Sem Next} {v : Value} (h : SimV P K β own s w m v s' ∧ s'.WF) (hn : n = (do pure (.value (← m)))) : OpSim P K β own s w n v s' ∧ s'.WF := by
 obtain ⟨⟨β', own', w', v', h1, h2, h3, h4⟩, h5⟩ := h;exact ⟨⟨β', own', w', v', .inl (by rw [hn]; simp [h1]), h2, h3, h4⟩, h5⟩
theorem OpSim.same (hs : SR K β own s.get w) (hw : s.WF) {m : Sem Value} {n : Sem Next} {v : Value} (h : ∃ v', m.run P w = .ok v' w ∧ VR β v v') (hn : n = (do pure (.value (← m)))) : OpSim P K β own s w n v s ∧ s.WF :=
 OpSim.ofV ⟨SimV.same hs h, hw⟩ hn
theorem OpSim.ofU {m : Sem Unit} {n : Sem Next} (h : SimU P K β own s w m s' ∧ s'.WF) (hn : n = (do m; pure .skip)) : OpSim P K β own s w n undef s' ∧ s'.WF := by
 obtain ⟨⟨β', own', w', h1, h2, h3⟩, h5⟩ := h;exact ⟨⟨β', own', w', undef, .inr ⟨by rw [hn]; simp [h1], rfl⟩, h2, h3, .undef β'⟩, h5⟩
theorem vrs_map {ρ ρ' : Operand → Value} (hρ : ∀ x, ok x = true → VR β (ρ x) (ρ' x)) : ∀ {l : List Operand}, l.all (ok) = true → VRs β (l.map ρ) (l.map ρ')
  | [], _ => .nil
  | x :: l, h => by
    simp only [List.all_cons, Bool.and_eq_true] at h;exact .cons (hρ x h.1) (vrs_map hρ h.2)
theorem opr_map {ρ ρ' : Operand → Value} (hρ : ∀ x, ok x = true → VR β (ρ x) (ρ' x)) {o : Option Operand} (h : o.toArray.all (ok) = true) : OpR β (o.map ρ) (o.map ρ') := by
 cases o with
 | none => exact .none
 | some x => exact .some (hρ x Z15)
theorem foldl_sim {f : Value → Value → Option Value} {g : Value → Value → Sem Value} (hfg : ∀ x y z, f x y = some z → (g x y).run P w = .ok z w ∧ VR β z z ∧ (∀ c, VR β x c → c = x) ∧ (∀ c, VR β y c → c = y)) :
    ∀ (l l' : List Value) (x x' v : Value), VRs β l l' → VR β x x' → foldV f x l = some v → ∃ v', (l'.foldlM g x').run P w = .ok v' w ∧ VR β v v'
  | [], l', x, x', v, hl, hx, h => by
    obtain rfl := hl.nil_inv;obtain rfl := Option.some.inj h;exact ⟨x', rfl, hx⟩
  | y :: r, l', x, x', v, hl, hx, h => by
    obtain ⟨y', r', rfl, hy, hr⟩ := hl.cons_inv;unfold foldV at h;split at h
    · rename_i z hz
      obtain ⟨h1, h2, h3, h4⟩ := hfg _ _ _ hz;obtain rfl := h3 _ hx;obtain rfl := h4 _ hy;obtain ⟨v', h5, h6⟩ := foldl_sim hfg r r' z z v hr h2 h;exact ⟨v', by simp [List.foldlM_cons, h1, h5], h6⟩
    · cases h
include H in
theorem builtin_sim (hs : SR K β own s.get w) (hw : s.WF) (hf : Free β s s') {b : Builtin} {ts : Array TypeId} {ty : TypeId} {cc : Array Bool} {args : List Value} {args' : Array Value} {v : Value} (hv : builtinV C s b ts args = some (v, s')) (ha : VRs β args args'.toList) :
  OpSim P K β own s w (builtin b ts ty cc args') v s' ∧ s'.WF := by
 have arr1 : ∀ {x : Value}, args'.toList = [x] → args' = #[x] := fun h => by cases args'; simp_all
 have arr2 : ∀ {x y : Value}, args'.toList = [x, y] → args' = #[x, y] := fun h => by cases args'; simp_all
 unfold builtinV at hv
 split at hv
 ·rename_i t x ht
  rw [Option.map_eq_some_iff] at hv
  obtain ⟨r, hr, e⟩ := hv
  obtain ⟨rfl, rfl⟩ := Prod.mk.inj e
  obtain ⟨x', l', e, hx, hl⟩ := ha.cons_inv
  obtain rfl := hl.nil_inv
  rw [arr1 e]
  obtain ⟨v', h1, h2⟩ := lenB_sim (P := P) (ty := ty) H hs hr hx
  have hlen : (Builtin.len_ ts ty #[x']).run P w = (Builtin.len_ #[t] ty #[x']).run P w := by
   simp only [Builtin.len_, ht]; rfl
  exact OpSim.same hs hw ⟨v', by rw [hlen]; exact h1, h2⟩ rfl
 ·rename_i t x y ht
  split at hv
  ·rename_i u hu
   obtain ⟨x', l', e, hx, hl⟩ := ha.cons_inv
   obtain ⟨y', l2, rfl, hy, hl2⟩ := hl.cons_inv
   obtain rfl := hl2.nil_inv
   rw [arr2 e]
   split at hv
   ·cases hv
   ·rename_i uty hni huty
    have hud : ∀ k, uty.desc ≠ .int k := by
     intro k hk
     cases uty
     simp only at hk
     subst hk
     exact hni _ _ _ _ _ _ rfl
    have := append_sim (P := P) (ty := ty) (t := t) (u := u) H hs hw hf hv huty hud hx hy
    have happ : Builtin.append_ ts ty #[x', y'] = Builtin.append_ #[t, u] ty #[x', y'] := by
     simp only [Builtin.append_, ht, hu]; rfl
    exact OpSim.ofV this (by rw [← happ]; rfl)
   ·cases hv
  ·cases hv
 ·rename_i t x y ht
  obtain ⟨x', l', e, hx, hl⟩ := ha.cons_inv
  obtain ⟨y', l2, rfl, hy, hl2⟩ := hl.cons_inv
  obtain rfl := hl2.nil_inv
  rw [arr2 e]
  have := copy_sim (P := P) (ty := ty) (t := t) (u := 0) H hs hw hv hx hy
  have happ : Builtin.copy_ ts ty #[x', y'] = Builtin.copy_ #[t, 0] ty #[x', y'] := by
   simp only [Builtin.copy_, ht]; rfl
  exact OpSim.ofV this (by rw [← happ]; rfl)
 ·rename_i t x ht
  obtain ⟨x', l', e, hx, hl⟩ := ha.cons_inv
  obtain rfl := hl.nil_inv
  rw [arr1 e]
  have := clear_sim (P := P) (ty := ty) (t := t) H hs hw hv hx
  have happ : Builtin.clear_ ts ty #[x'] = Builtin.clear_ #[t] ty #[x'] := by
   simp only [Builtin.clear_, ht]; rfl
  exact OpSim.ofV this (by rw [← happ]; rfl)
 ·rename_i t x y ht
  rw [Option.map_eq_some_iff] at hv
  obtain ⟨s1, hd, e0⟩ := hv
  obtain ⟨rfl, rfl⟩ := Prod.mk.inj e0
  obtain ⟨x', l', e, hx, hl⟩ := ha.cons_inv
  obtain ⟨y', l2, rfl, hy, hl2⟩ := hl.cons_inv
  obtain rfl := hl2.nil_inv
  rw [arr2 e]
  have := delete_sim (P := P) (ty := ty) (t := t) (u := 0) H hs hw hd hx hy
  have happ : Builtin.delete_ ts ty #[x', y'] = Builtin.delete_ #[t, 0] ty #[x', y'] := by
   simp only [Builtin.delete_, ht]; rfl
  exact OpSim.ofV this (by rw [← happ]; rfl)
 ·rename_i x r
  rw [Option.map_eq_some_iff] at hv
  obtain ⟨q, hr, e0⟩ := hv
  obtain ⟨rfl, rfl⟩ := Prod.mk.inj e0
  obtain ⟨x', l', e, hx, hl⟩ := ha.cons_inv
  obtain ⟨v', h1, h2⟩ := foldl_sim (P := P) (w := w) (f := max2V) (g := Builtin.max2) (fun x y z h => by
   unfold max2V at h
   split at h
   ·split at h
    ·rename_i e; subst e
     obtain rfl := Option.some.inj h
     exact ⟨by simp [Builtin.max2], .int _ _, fun c hc => int_inv hc, fun c hc => int_inv hc⟩
    ·cases h
   ·cases h) _ _ _ _ _ hl hx hr
  refine OpSim.same hs hw ⟨v', ?_, h2⟩ (m := Builtin.max_ ts ty args') rfl
  simp only [Builtin.max_, e]
  exact h1
 ·rename_i x r
  rw [Option.map_eq_some_iff] at hv
  obtain ⟨q, hr, e0⟩ := hv
  obtain ⟨rfl, rfl⟩ := Prod.mk.inj e0
  obtain ⟨x', l', e, hx, hl⟩ := ha.cons_inv
  obtain ⟨v', h1, h2⟩ := foldl_sim (P := P) (w := w) (f := min2V) (g := Builtin.min2) (fun x y z h => by
   unfold min2V at h
   split at h
   ·split at h
    ·rename_i e; subst e
     obtain rfl := Option.some.inj h
     exact ⟨by simp [Builtin.min2], .int _ _, fun c hc => int_inv hc, fun c hc => int_inv hc⟩
    ·cases h
   ·cases h) _ _ _ _ _ hl hx hr
  refine OpSim.same hs hw ⟨v', ?_, h2⟩ (m := Builtin.min_ ts ty args') rfl
  simp only [Builtin.min_, e]
  exact h1
 ·rename_i t x ht
  rw [Option.map_eq_some_iff] at hv
  obtain ⟨r, hr, e⟩ := hv
  obtain ⟨rfl, rfl⟩ := Prod.mk.inj e
  obtain ⟨x', l', e, hx, hl⟩ := ha.cons_inv
  obtain rfl := hl.nil_inv
  rw [arr1 e]
  obtain ⟨v', h1, h2⟩ := capB_sim (P := P) (ty := ty) H hr hx
  have hcap : (Builtin.cap_ ts ty #[x']).run P w = (Builtin.cap_ #[t] ty #[x']).run P w := by
   simp only [Builtin.cap_, ht]; rfl
  exact OpSim.same hs hw ⟨v', by rw [hcap]; exact h1, h2⟩ rfl
 ·cases hv
include H in
theorem evalOp_sim (hs : SR K β own s.get w) (hw : s.WF) (hf : Free β s s') {ρ ρ' : Operand → Value} (hρ : ∀ x, ok x = true → VR β (ρ x) (ρ' x)) {o : Oper} (hok : o.op.operands.all (ok) = true) {v : Value} (hv : Z2m C ρ s o.op = some (v, s')) :
    OpSim P K β own s w (execOp ρ' o) v s' ∧ s'.WF := by
  obtain ⟨dst, op, type, pos, after, guard⟩ := o
  simp only at hv hok
  unfold Z2m at hv
  unfold execOp
  simp only
  split at hv
  · rename_i x
    obtain ⟨rfl, rfl⟩ := Prod.mk.inj (Option.some.inj hv)
    have hx := hρ x (by simpa [Op.operands] using hok)
    exact ⟨⟨β, own, w, _, .inl rfl, .refl .., hs, hx⟩, hw⟩
  · rename_i x
    obtain ⟨rfl, rfl⟩ := Prod.mk.inj (Option.some.inj hv)
    have hx := hρ x (by simpa [Op.operands] using hok)
    exact ⟨⟨β, own, w, _, .inl rfl, .refl .., hs, hx⟩, hw⟩
  · rename_i c a b
    simp only [Op.operands, List.all_toArray, List.all_cons, List.all_nil, Bool.and_eq_true] at hok
    simp at hok
    obtain ⟨h1, h2, h3⟩ := hok
    split at hv
    · rename_i t ht
      obtain ⟨rfl, rfl⟩ := Prod.mk.inj (Option.some.inj hv)
      have hc := hρ c h1
      rw [ht] at hc
      have hc' := bool_inv hc
      refine ⟨⟨β, own, w, if t then ρ' a else ρ' b, .inl (by simp [hc', asBool]), .refl .., hs, ?_⟩, hw⟩
      cases t
      · exact hρ b h3
      · exact hρ a h2
    · cases hv
  · rename_i t
    split at hv
    · rename_i z _ _ hty
      obtain ⟨rfl, rfl⟩ := Prod.mk.inj (Option.some.inj hv)
      have hz := H.zero _ _ _ hty rfl
      refine OpSim.ofV (SimV.new_obj (O := .cells z.cells t) hs hw hf rfl (fun b => ⟨z.cells, t, rfl, (litOk_self _ hz).cells, fun u hu => by cases hq : C.lie t <;> rw [hq] at hu <;> cases hu; rfl⟩) (m := Instr.alloc t true (.tuple #[])) (v' := .pointer (some ⟨w.heap.size, 0, none⟩)) ?_ (.ptrObj (setObj_at _ _ _))) rfl
      simp [Instr.alloc, run_zero H hty rfl, newVar, newRow]
    · cases hv
  · rename_i t x
    obtain ⟨rfl, rfl⟩ := Prod.mk.inj (Option.some.inj hv)
    have hx := hρ x (by simpa [Op.operands] using hok)
    have h1 := hf.obj (by rw [St.n_new]; omega)
    refine OpSim.ofV (SimV.new_obj (O := .cells (ρ' x).cells t) hs hw hf rfl (fun b => ⟨_, t, rfl, hx.cells.mono (Bij.le_setObj h1), tyAt_none⟩) (m := Instr.box t (ρ' x)) (v' := .pointer (some ⟨w.heap.size, 0, none⟩)) ?_ (.ptrObj (setObj_at _ _ _))) rfl
    simp [Instr.box, newVar, newRow]
  · rename_i t parts
    rw [Option.map_eq_some_iff] at hv
    obtain ⟨r, hr, e⟩ := hv
    obtain ⟨rfl, rfl⟩ := Prod.mk.inj e
    have hall : (parts.toList.map (·.2)).all (ok) = true := by
      simp only [Op.operands] at hok
      simpa using hok
    have := build_sim (P := P) (β := β) (w := w) (parts' := parts.map fun (i, x) => (i, ρ' x)) H hr (by simp [Function.comp_def]) (by
      have := vrs_map hρ hall
      simpa [Function.comp_def] using this)
    exact OpSim.same hs hw this rfl
  · rename_i t len parts
    have hall : (parts.toList.map (·.2)).all (ok) = true := by
      simp only [Op.operands] at hok
      simpa using hok
    have := buildSlice_sim (P := P) (parts' := parts.map fun (i, x) => (i, ρ' x)) H hs hw hf hv (by simp [Function.comp_def]) (by
      have := vrs_map hρ hall
      simpa [Function.comp_def] using this)
    exact OpSim.ofV this rfl
  · rename_i t a
    rw [Option.map_eq_some_iff] at hv
    obtain ⟨r, hr, e⟩ := hv
    obtain ⟨rfl, rfl⟩ := Prod.mk.inj e
    exact OpSim.same hs hw (load_sim H hs hr (hρ a (by simpa [Op.operands] using hok))) rfl
  · rename_i t a x
    rw [Option.map_eq_some_iff] at hv
    obtain ⟨s1, hr, e⟩ := hv
    obtain ⟨rfl, rfl⟩ := Prod.mk.inj e
    simp [Op.operands] at hok
    obtain ⟨w', q1, q2, q3, q4, _⟩ := store_sim (P := P) H hs hw hr (hρ a hok.1) (hρ x hok.2)
    exact OpSim.ofU ⟨⟨β, own, w', q1, q2, q3⟩, q4⟩ rfl
  · rename_i x
    have hx := hρ x (by simpa [Op.operands] using hok)
    have key : ∀ y, ρ' x = y → (∀ f a b, y = .func f a b → ∀ n, f ≠ .method n) → y ≠ .pointer none → y ≠ .nilIface → y ≠ .nilFunc → execOp ρ' ⟨dst, .nilCheck x, type, pos, after, guard⟩ = pure (.value y) := by
      intro y hy h1 h2 h3 h4
      simp only [execOp, hy]
      split
      · exact absurd rfl h2
      · exact absurd rfl h3
      · exact absurd rfl h4
      · exact absurd rfl (h1 _ _ _ rfl _)
      · rfl
    split at hv
    · rename_i a ha
      obtain ⟨rfl, rfl⟩ := Prod.mk.inj (Option.some.inj hv)
      rw [ha] at hx
      obtain ⟨a', e, _⟩ := ptr_plus (n := 0) hx
      rw [e] at hx
      exact ⟨⟨β, own, w, _, .inl (by have := key _ e (by intros; simp_all) (by simp) (by simp) (by simp); exact congrArg (fun m => Sem.run P m w) this), .refl .., hs, hx⟩, hw⟩
    · rename_i f a b ha
      obtain ⟨rfl, rfl⟩ := Prod.mk.inj (Option.some.inj hv)
      rw [ha] at hx
      generalize e : ρ' x = y at hx
      cases hx with
      | func h1 h2 h3 =>
        cases h1 with
        | same => exact ⟨⟨β, own, w, _, .inl (by have := key _ e (by intro f a b h; cases h; intro n hn; cases hn) (by simp) (by simp) (by simp); exact congrArg (fun m => Sem.run P m w) this), .refl .., hs, .func (.same _ (by intro l; simp)) h2 h3⟩, hw⟩
    · rename_i l a b ha
      obtain ⟨rfl, rfl⟩ := Prod.mk.inj (Option.some.inj hv)
      rw [ha] at hx
      generalize e : ρ' x = y at hx
      cases hx with
      | func h1 h2 h3 =>
        cases h1 with
        | same _ h => exact absurd rfl (h l)
        | yield h => exact ⟨⟨β, own, w, _, .inl (by have := key _ e (by intro f a b h; cases h; intro n hn; cases hn) (by simp) (by simp) (by simp); exact congrArg (fun m => Sem.run P m w) this), .refl .., hs, .func (.yield h) h2 h3⟩, hw⟩
    · rename_i t u ha
      obtain ⟨rfl, rfl⟩ := Prod.mk.inj (Option.some.inj hv)
      rw [ha] at hx
      generalize e : ρ' x = y at hx
      cases hx with
      | iface h => exact ⟨⟨β, own, w, _, .inl (by have := key _ e (by intros; simp_all) (by simp) (by simp) (by simp); exact congrArg (fun m => Sem.run P m w) this), .refl .., hs, .iface h⟩, hw⟩
    · rename_i c ha
      split at hv
      · rename_i cs hd
        obtain ⟨rfl, rfl⟩ := Prod.mk.inj (Option.some.inj hv)
        rw [ha] at hx
        have hi := tok_inv H hx hd
        generalize e : ρ' x = y at hx hi
        cases hi with
        | ptr hI => exact ⟨⟨β, own, w, _, .inl (by have := key _ e (by intros; simp_all) (by simp) (by simp) (by simp); exact congrArg (fun m => Sem.run P m w) this), .refl .., hs, hx⟩, hw⟩
      · cases hv
    · cases hv
  · rename_i op2 t x y yt
    rw [Option.map_eq_some_iff] at hv
    obtain ⟨r, hr, e⟩ := hv
    obtain ⟨rfl, rfl⟩ := Prod.mk.inj e
    simp [Op.operands] at hok
    exact OpSim.same hs hw (binV_sim (P := P) H hs (hρ x hok.1) (hρ y hok.2) hr) rfl
  · rename_i op2 t x
    rw [Option.map_eq_some_iff] at hv
    obtain ⟨r, hr, e⟩ := hv
    obtain ⟨rfl, rfl⟩ := Prod.mk.inj e
    have hx := hρ x (by simpa [Op.operands] using hok)
    exact OpSim.same hs hw ⟨_, unV_sim (P := P) hx hr⟩ rfl
  · rename_i a b x
    have hx := hρ x (by simpa [Op.operands] using hok)
    exact OpSim.ofV (convS_sim (P := P) H hs hw hf hv hx) rfl
  · rename_i t x
    have hx := hρ x (by simpa [Op.operands] using hok)
    split at hv
    · cases hv
    · rename_i ty hni hty
      obtain ⟨rfl, rfl⟩ := Prod.mk.inj (Option.some.inj hv)
      refine OpSim.same hs hw ⟨.iface t (ρ' x), ?_, .iface hx⟩ rfl
      simp only [Instr.makeInterface, Sem.run_bind, run_under H hty, Result.andThen_ok]
      cases hd : ty.desc <;> first
        | rfl
        | (exfalso
           cases ty
           simp only at hd
           subst hd
           exact hni _ _ _ _ _ _ rfl)
    · cases hv
  · rename_i fn first captured
    simp only [Op.operands, Array.all_append, Bool.and_eq_true] at hok
    obtain ⟨h1, h2⟩ := hok
    split at hv
    · cases hv
    · rename_i hny
      obtain ⟨rfl, rfl⟩ := Prod.mk.inj (Option.some.inj hv)
      refine OpSim.same hs hw ⟨.func fn (first.map ρ') (captured.map ρ'), rfl, .func (.same _ (fun l e => hny l e)) ?_ ?_⟩ rfl
      · simpa using vrs_map hρ (l := first.toList) (by simpa using h1)
      · simpa using vrs_map hρ (l := captured.toList) (by simpa using h2)
  · rename_i t r
    split at hv
    · rename_i hty
      obtain ⟨rfl, rfl⟩ := Prod.mk.inj (Option.some.inj hv)
      refine OpSim.ofV (SimV.new_obj (O := .map #[] 0) hs hw hf rfl (fun b => ⟨#[], rfl, .nil⟩) (m := Instr.makeMap t none) (v' := .map (some w.heap.size)) ?_ (.map (setObj_at _ _ _))) rfl
      simp [Instr.makeMap]
    · rename_i r hty
      split at hv
      · rename_i k n hr
        obtain ⟨rfl, rfl⟩ := Prod.mk.inj (Option.some.inj hv)
        have hx := hρ r (by simpa [Op.operands] using hok)
        rw [hr] at hx
        have hx := int_inv hx
        refine OpSim.ofV (SimV.new_obj (O := .map #[] 0) hs hw hf rfl (fun b => ⟨#[], rfl, .nil⟩) (m := Instr.makeMap t (some (ρ' r))) (v' := .map (some w.heap.size)) ?_ (.map (setObj_at _ _ _))) rfl
        simp [Instr.makeMap, hx, run_under H hty, asInt, asIntOf]
      · cases hv
    · cases hv
  · rename_i t l c
    simp [Op.operands] at hok
    exact OpSim.ofV (makeSlice_sim (P := P) H hs hw hf hv (hρ l hok.1) (hρ c hok.2)) rfl
  · rename_i t x lo hi mx
    rw [Option.map_eq_some_iff] at hv
    obtain ⟨r, hr, e⟩ := hv
    obtain ⟨rfl, rfl⟩ := Prod.mk.inj e
    simp only [Op.operands, Array.all_append, Bool.and_eq_true] at hok
    obtain ⟨⟨⟨h0, h1⟩, h2⟩, h3⟩ := hok
    exact OpSim.same hs hw (slice_sim (P := P) H hr (hρ x (by simpa using h0)) (opr_map hρ h1) (opr_map hρ h2) (opr_map hρ h3)) rfl
  · rename_i t x i
    rw [Option.map_eq_some_iff] at hv
    obtain ⟨r, hr, e⟩ := hv
    obtain ⟨rfl, rfl⟩ := Prod.mk.inj e
    have hx := hρ x (by simpa [Op.operands] using hok)
    exact OpSim.same hs hw (fieldAddr_sim (P := P) H hr hx) rfl
  · rename_i t x i
    rw [Option.map_eq_some_iff] at hv
    obtain ⟨r, hr, e⟩ := hv
    obtain ⟨rfl, rfl⟩ := Prod.mk.inj e
    have hx := hρ x (by simpa [Op.operands] using hok)
    exact OpSim.same hs hw (field_sim (P := P) H hr hx) rfl
  · rename_i t x i
    rw [Option.map_eq_some_iff] at hv
    obtain ⟨r, hr, e⟩ := hv
    obtain ⟨rfl, rfl⟩ := Prod.mk.inj e
    simp [Op.operands] at hok
    exact OpSim.same hs hw (indexAddr_sim (P := P) H hr (hρ x hok.1) (hρ i hok.2)) rfl
  · rename_i t x i
    rw [Option.map_eq_some_iff] at hv
    obtain ⟨r, hr, e⟩ := hv
    obtain ⟨rfl, rfl⟩ := Prod.mk.inj e
    simp [Op.operands] at hok
    exact OpSim.same hs hw (index_sim (P := P) H hr (hρ x hok.1) (hρ i hok.2)) rfl
  · rename_i t m k ok
    rw [Option.map_eq_some_iff] at hv
    obtain ⟨r, hr, e⟩ := hv
    obtain ⟨rfl, rfl⟩ := Prod.mk.inj e
    simp [Op.operands] at hok
    exact OpSim.same hs hw (lookup_sim (P := P) H hs hr (hρ m hok.1) (hρ k hok.2)) rfl
  · rename_i t m k x
    rw [Option.map_eq_some_iff] at hv
    obtain ⟨s1, hr, e⟩ := hv
    obtain ⟨rfl, rfl⟩ := Prod.mk.inj e
    simp [Op.operands] at hok
    exact OpSim.ofU (update_sim (P := P) H hs hw hr (hρ m hok.1) (hρ k hok.2.1) (hρ x hok.2.2)) rfl
  · rename_i t m k x
    rw [Option.map_eq_some_iff] at hv
    obtain ⟨s1, hr, e⟩ := hv
    obtain ⟨rfl, rfl⟩ := Prod.mk.inj e
    simp [Op.operands] at hok
    exact OpSim.ofU (update_sim (P := P) H hs hw hr (hρ m hok.1) (hρ k hok.2.1) (hρ x hok.2.2)) rfl
  · rename_i t m k
    simp [Op.operands] at hok
    exact OpSim.ofV (mapEntry_sim (P := P) H hs hw hv (hρ m hok.1) (hρ k hok.2)) rfl
  · rename_i t m st x
    rw [Option.map_eq_some_iff] at hv
    obtain ⟨s1, hr, e⟩ := hv
    obtain ⟨rfl, rfl⟩ := Prod.mk.inj e
    simp [Op.operands] at hok
    exact OpSim.ofU (entryStore_sim (P := P) hs hw hr (hρ m hok.1) (hρ st hok.2.1) (hρ x hok.2.2)) rfl
  · rename_i t x
    have hx := hρ x (by simpa [Op.operands] using hok)
    exact OpSim.ofV (range_sim (P := P) H hs hw hf hv hx) rfl
  · rename_i it
    rw [Option.map_eq_some_iff] at hv
    obtain ⟨r, hr, e⟩ := hv
    obtain ⟨rfl, rfl⟩ := Prod.mk.inj e
    have hx := hρ it (by simpa [Op.operands] using hok)
    exact OpSim.same hs hw (entry_sim (P := P) hs hr hx) rfl
  · rename_i x xt t ok
    rw [Option.map_eq_some_iff] at hv
    obtain ⟨r, hr, e⟩ := hv
    obtain ⟨rfl, rfl⟩ := Prod.mk.inj e
    have hx := hρ x (by simpa [Op.operands] using hok)
    exact OpSim.same hs hw (assert_sim (P := P) H hr hx) rfl
  · rename_i t ix
    have hx := hρ t (by simpa [Op.operands] using hok)
    split at hv
    · rename_i vs hvs
      rw [Option.map_eq_some_iff] at hv
      obtain ⟨r, hr, e⟩ := hv
      obtain ⟨rfl, rfl⟩ := Prod.mk.inj e
      rw [hvs] at hx
      generalize e : ρ' t = y at hx
      cases hx with
      | @tuple _ a' ha =>
        obtain ⟨v', h1, h2⟩ := ha.get (by simpa using hr)
        have h1 : a'[ix]? = some v' := by simpa using h1
        exact OpSim.same hs hw (m := Instr.extract (ρ' t) ix) ⟨v', by rw [e]; simp [Instr.extract, h1], h2⟩ rfl
    · cases hv
  · rename_i b args argTypes
    have hall : args.toList.all (ok) = true := by
      simp [Op.operands, Call.operands] at hok
      simpa using hok
    have := builtin_sim (P := P) (ty := type) (cc := args.map fun | .const _ => true | _ => false) (args' := args.map ρ') H hs hw hf hv (by simpa using vrs_map hρ hall)
    obtain ⟨⟨β', own', w', v', h1, h2⟩, h3⟩ := this
    refine ⟨⟨β', own', w', v', ?_, h2⟩, h3⟩
    rcases h1 with h1 | ⟨h1, h4⟩
    · exact .inl (by simp only [resolve, Sem.run_bind, Sem.run_pure, Result.andThen_ok, invoke]; exact h1)
    · exact .inr ⟨by simp only [resolve, Sem.run_bind, Sem.run_pure, Result.andThen_ok, invoke]; exact h1, h4⟩
  · cases hv
end
end Go.Ai