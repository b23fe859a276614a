/-
  A part of the code in a small memory of rows of the input, which stay, and rows of one's own.
-/
import Derived.Test.YtfnbgfmmlgbfjaaGreatDoorAiNone
namespace Go.Ai

section
variable {P : Program}

/-- the numbers from 'm' on are one's own -/
def ownT (m k : Nat) (ρ : Nat → Nat) (i : Nat) : Option Nat := if m ≤ i ∧ i < k then some (ρ i) else none

theorem rows_fit {m k : Nat} {ρ : Nat → Nat} {s s0 : St} (hk : s0.n = k) (hw0 : s0.WF) (hro : ∀ i, i < m → RoAt s (ρ i)) (hinj : ∀ i j, m ≤ i → i < k → m ≤ j → j < k → ρ i = ρ j → i = j)
    (hown : ∀ i, m ≤ i → i < k → ¬ RoAt s (ρ i)) (hlt : ∀ i, i < k → ρ i < s.n) (hobj : ∀ i, i < k → ORel (fun j _ i => i < k ∧ ρ i = j) (s.get (ρ i)) (s0.get i)) : Fit 0 k ρ s s0 where
  num := hk
  inj i j hi hj h := by
    by_cases h1 : i < m
    · exact .inr (hro i h1)
    · by_cases h2 : j < m
      · exact .inr (h ▸ hro j h2)
      · exact .inl (hinj i j (by omega) hi (by omega) hj h)
  lt := hlt
  obj := hobj
  glob g hg := absurd hg (Nat.not_lt_zero g)
  wf := hw0

theorem rows_back {m k : Nat} {ρ : Nat → Nat} {W : Nat → Nat → Prop} {s s0 s0' s' : St} (hro : ∀ i, i < m → RoAt s (ρ i)) (hinj : ∀ i j, m ≤ i → i < k → m ≤ j → j < k → ρ i = ρ j → i = j)
    (hown : ∀ i, m ≤ i → i < k → ¬ RoAt s (ρ i)) (hw : s'.WF) (hg : Grow s s') (hn : s'.n = s.n) (hrest : ∀ j, (∀ i, m ≤ i → i < k → ρ i ≠ j) → s'.get j = s.get j)
    (hobj : ∀ i, m ≤ i → i < k → ORel (Ways k ρ (ownT m k ρ) W) (s0'.get i) (s'.get (ρ i))) : Back k ρ W s s0 s0' (ownT m k ρ) s' where
  old i hi := by
    by_cases h : i < m
    · refine .inr ⟨by rw [ownT, if_neg (by omega)], hro i h, hrest _ fun i' h1 h2 e => hown i' h1 h2 (e ▸ hro i h)⟩
    · exact .inl (by rw [ownT, if_pos ⟨by omega, hi⟩])
  cons i i' hi hi' e h := by
    by_cases h1 : m ≤ i'
    · by_cases h2 : m ≤ i
      · rw [ownT, if_pos ⟨h2, hi⟩] at h; cases h
      · exact absurd (e ▸ hro i (by omega)) (hown i' h1 hi')
    · rw [ownT, if_neg (by omega)]
  new i j hi h := by rw [ownT, if_neg (by omega)] at h; cases h
  inj i i' j h h' := by
    unfold ownT at h h'
    split at h
    · rename_i h1
      split at h'
      · rename_i h2
        exact hinj i i' h1.1 h1.2 h2.1 h2.2 ((Option.some.inj h).trans (Option.some.inj h').symm)
      · cases h'
    · cases h
  obj i j h := by
    unfold ownT at h
    split at h
    · rename_i h1
      obtain rfl := Option.some.inj h
      exact hobj i h1.1 h1.2
    · cases h
  rest j hj h := hrest j fun i _ h2 => h i h2
  n := by omega
  wf := hw
  grow := hg

theorem sk_rows (m k : Nat) (ρ : Nat → Nat) (W : Nat → Nat → Prop) (N : Nat) {fid : FuncId} {c : Code} {e e0 : Env} {s s0 : St} {Q0 Q : Out → Env → St → Prop} (hk : s0.n = k) (hw0 : s0.WF) (hro : ∀ i, i < m → RoAt s (ρ i))
    (hinj : ∀ i j, m ≤ i → i < k → m ≤ j → j < k → ρ i = ρ j → i = j) (hown : ∀ i, m ≤ i → i < k → ¬ RoAt s (ρ i)) (hlt : ∀ i, i < k → ρ i < s.n) (hobj : ∀ i, i < k → ORel (fun j _ i => i < k ∧ ρ i = j) (s.get (ρ i)) (s0.get i))
    (hW : ∀ β t, ER β e t → ∀ j hi, W j hi → ∃ L, β.arr j hi = some L) (he0 : ESub (fun j _ i => i < k ∧ ρ i = j) e e0) (hdom : ∀ i, m ≤ i → i < k → ∀ β t, ER β e t → β.dom (ρ i)) (h0 : SK P 0 fid c e0 s0 Q0)
    (hout : s.WF → ∀ o e0' s0', Q0 o e0' s0' → s0'.n ≤ N ∧ ∃ e' s', Q o e' s' ∧ ESub (Ways k ρ (ownT m k ρ) W) e0' e' ∧ s'.WF ∧ Grow s s' ∧ s'.n = s.n ∧ (∀ j, (∀ i, m ≤ i → i < k → ρ i ≠ j) → s'.get j = s.get j) ∧
      ∀ i, m ≤ i → i < k → ORel (Ways k ρ (ownT m k ρ) W) (s0'.get i) (s'.get (ρ i))) : SK P 0 fid c e s Q := by
  refine sk_frame W (rows_fit hk hw0 hro hinj hown hlt hobj) N hW he0 h0 fun hw o e0' s0' hq hw' hg' => ?_
  obtain ⟨h1, e', s', h2, h3, h4, h5, h6, h7, h8⟩ := hout hw o e0' s0' hq
  refine ⟨h1, ownT m k ρ, e', s', h2, h3, rows_back hro hinj hown h4 h5 h6 h7 h8, fun i hi => ?_⟩
  by_cases h : m ≤ i
  · exact .inl (hdom i h hi)
  · exact .inr fun _ => h7 _ fun i' q1 q2 e => hown i' q1 q2 (e ▸ hro i (by omega))

/-! ### lists of elements -/
theorem flatten_split {ls : List (List Value)} {i : Nat} {l : List Value} (h : ls[i]? = some l) : ls.flatten = (ls.take i).flatten ++ (l ++ (ls.drop (i + 1)).flatten) := by
  have hi : i < ls.length := by
    rcases Nat.lt_or_ge i ls.length with h1 | h1
    · exact h1
    · rw [List.getElem?_eq_none h1] at h; cases h
  have h2 : ls.drop i = l :: ls.drop (i + 1) := by
    rw [List.getElem?_eq_getElem hi] at h
    rw [← Option.some.inj h]
    exact List.drop_eq_getElem_cons hi
  conv => lhs; rw [← List.take_append_drop i ls, h2, List.flatten_append, List.flatten_cons]
theorem flatten_len {ls : List (List Value)} {sz : Nat} (h : ∀ l ∈ ls, l.length = sz) : ls.flatten.length = ls.length * sz := by
  induction ls with
  | nil => simp
  | cons l ls ih =>
    rw [List.flatten_cons, List.length_append, ih fun l hl => h l (List.mem_cons_of_mem _ hl), h l (List.mem_cons_self ..), List.length_cons, Nat.add_mul]
    omega
/-- a row in which all but one element are not looked at -/
def oneRow (A : List Value) (el : List Value) (B : List Value) : List Value := erase.eraseL A ++ (el ++ erase.eraseL B)
theorem subs_oneRow {R : Nat → Option Nat → Nat → Prop} {A el el0 B : List Value} (h : Subs R el el0) : Subs R (A ++ (el ++ B)) (oneRow A el0 B) := (subs_erase A).append (h.append (subs_erase B))
theorem oneRow_len {A el B : List Value} : (oneRow A el B).length = A.length + el.length + B.length := by
  simp only [oneRow, List.length_append, eraseL_length]; omega
theorem oneRow_at {A el B : List Value} {o n : Nat} (ho : A.length = o) (hn : el.length = n) : ((oneRow A el B).drop o).take n = el := by
  unfold oneRow
  subst ho; subst hn
  rw [← eraseL_length A, List.drop_left, List.take_left]
end
/-! ### what was laid -/
section
variable {P : Program} {g : Nat → Option AObj}
theorem read_flat : ∀ (m n : Nat) (t : TypeId) (cs : List Value), flatOk P m t = true → Fits P g n t cs → cs.all plainC = true
  | 0, _, _, _, h, _ => by cases h
  | _ + 1, 0, _, _, _, h => h.elim
  | m + 1, n + 1, t, cs, h, hf => by
    unfold flatOk at h
    unfold Fits at hf
    split at h
    · rename_i ht
      rw [ht] at hf
      obtain ⟨b, rfl⟩ := hf
      rfl
    · rename_i k ht
      rw [ht] at hf
      obtain ⟨x, rfl, _⟩ := hf
      rfl
    · rename_i ht
      rw [ht] at hf
      obtain ⟨s, rfl, _⟩ := hf
      rfl
    · rename_i fs ht
      rw [ht] at hf
      obtain ⟨ls, rfl, hl, hff⟩ := hf
      rw [List.all_eq_true]
      intro v hv
      rw [List.mem_flatten] at hv
      obtain ⟨l, hl', hv⟩ := hv
      obtain ⟨j, hj, rfl⟩ := List.getElem_of_mem hl'
      have hjf : j < fs.toList.length := by omega
      have := read_flat m n _ _ (layF_all h fs.toList[j] (List.getElem_mem hjf)) (hff j _ _ (List.getElem?_eq_getElem hjf) (List.getElem?_eq_getElem hj))
      exact List.all_eq_true.1 this v hv
    · cases h

/-- a slice of flat elements, somewhere -/
def SlotG (g : Nat → Option AObj) (sz : Nat) (a : Option Addr) (n z : Nat) : Prop :=
  (a = none ∧ n = 0 ∧ z = 0) ∨ ∃ i row, a = some ⟨i, 0, some (n * sz)⟩ ∧ z = sz ∧ g i = some (.arr row (if n = 0 then 1 else 0) true) ∧ row.length = n * sz ∧ row.all plainC = true
/-- such a slice under a number -/
def SlotS (k sz m : Nat) (q : List Value) (n z : Nat) (b : Option Addr) : Prop :=
  (b = none ∧ n = 0 ∧ z = 0) ∨ (b = some ⟨k, 0, some (n * sz)⟩ ∧ z = sz ∧ m = (if n = 0 then 1 else 0) ∧ q.length = n * sz ∧ q.all plainC = true)

theorem read_slot {m n : Nat} {t e : TypeId} {cs : List Value} (ht : P.underlying t = some (.slice e)) {sz : Nat} (hsz : P.cellsOf e = sz) (hf : flatOk P m e = true) (h : Fits P g (n + 1) t cs) : ∃ a k z, cs = [.slice a k z] ∧ SlotG g sz a k z := by
  unfold Fits at h
  rw [ht] at h
  rcases h with rfl | ⟨i, ls, rfl, hg, hl, hfit, _⟩
  · exact ⟨none, 0, 0, rfl, .inl ⟨rfl, rfl, rfl⟩⟩
  · rw [hsz] at hl
    refine ⟨_, _, _, by rw [hsz], .inr ⟨i, ls.flatten, rfl, rfl, hg, flatten_len hl, ?_⟩⟩
    rw [List.all_eq_true]
    intro v hv
    rw [List.mem_flatten] at hv
    obtain ⟨l, hl', hv⟩ := hv
    exact List.all_eq_true.1 (read_flat m n e l hf (hfit l hl')) v hv
theorem read_int {n : Nat} {t : TypeId} {k : IntKind} {cs : List Value} (ht : P.underlying t = some (.int k)) (h : Fits P g (n + 1) t cs) : ∃ x, cs = [.int k x] := by
  unfold Fits at h
  rw [ht] at h
  obtain ⟨x, h, _⟩ := h
  exact ⟨x, h⟩
theorem read_bool {n : Nat} {t : TypeId} {cs : List Value} (ht : P.underlying t = some .bool) (h : Fits P g (n + 1) t cs) : ∃ b, cs = [.bool b] := by
  unfold Fits at h
  rw [ht] at h
  exact h
theorem read_struct {n : Nat} {t : TypeId} {fs : Array Field} {cs : List Value} (ht : P.underlying t = some (.struct fs)) (h : Fits P g (n + 1) t cs) :
    ∃ ls : List (List Value), cs = ls.flatten ∧ ls.length = fs.toList.length ∧ ∀ (j : Nat) (f : Field) (l : List Value), fs.toList[j]? = some f → ls[j]? = some l → Fits P g n f.type l := by
  unfold Fits at h
  rw [ht] at h
  exact h
theorem read_slice {n : Nat} {t e : TypeId} {cs : List Value} (ht : P.underlying t = some (.slice e)) (h : Fits P g (n + 1) t cs) :
    cs = [.slice none 0 0] ∨ ∃ (i : Nat) (ls : List (List Value)), cs = [.slice (some ⟨i, 0, some (ls.length * P.cellsOf e)⟩) ls.length (P.cellsOf e)] ∧
        g i = some (.arr ls.flatten (if ls.length = 0 then 1 else 0) true) ∧ (∀ l ∈ ls, l.length = P.cellsOf e) ∧ (∀ l ∈ ls, Fits P g n e l) ∧ ls.length ≤ maxLen := by
  unfold Fits at h
  rw [ht] at h
  exact h

/-- the address under a small number -/
def small (j : Nat) : Option Addr → Option Addr
  | none => none
  | some a => some ⟨j, a.off, a.spot⟩
/-- a slot's slice in a small memory: some row of the input, told whole or without what it refers to -/
theorem slot_small {sz : Nat} {a : Option Addr} {n z il : Nat} {rl : List Value} {ml : Nat} (j : Nat) (h : SlotG g sz a n z) (hl : g il = some (.arr rl ml true)) :
    ∃ i row mv q, g i = some (.arr row mv true) ∧ (∀ R, Subs R row q) ∧ SlotS j sz mv q n z (small j a) ∧ ∀ R : Nat → Option Nat → Nat → Prop, (∀ sp, R i sp j) → Sub R (.slice a n z) (.slice (small j a) n z) := by
  rcases h with ⟨rfl, rfl, rfl⟩ | ⟨i, row, rfl, rfl, hg, hlen, hp⟩
  · exact ⟨il, rl, ml, erase.eraseL rl, hl, fun R => subs_erase rl, .inl ⟨rfl, rfl, rfl⟩, fun R _ => .sliceNil⟩
  · refine ⟨i, row, _, row, hg, fun R => ?_, .inr ⟨rfl, rfl, rfl, hlen, hp⟩, fun R hR => .slice (hR _)⟩
    refine subs_lit ?_
    rw [List.all_eq_true] at hp ⊢
    intro v hv
    have := hp v hv
    simp only [plainC, Bool.and_eq_true] at this
    exact this.1

/-- what is appended of such a slice -/
def slotRow (q : List Value) (b : Option Addr) : List Value := match b with | none => [] | some _ => q
theorem slotRow_one {k sz m n z : Nat} {q : List Value} {b : Option Addr} (h : SlotS k sz m q n z b) : (slotRow q b).all one = true := by
  rcases h with ⟨rfl, _, _⟩ | ⟨rfl, _, _, _, hp⟩
  · rfl
  · exact plain_one hp
theorem slotRow_nil {k sz m n z : Nat} {q : List Value} {b : Option Addr} (h : SlotS k sz m q n z b) (hn : n = 0) : slotRow q b = [] := by
  rcases h with ⟨rfl, _, _⟩ | ⟨rfl, _, _, hl, _⟩
  · rfl
  · have : q = [] := List.length_eq_zero_iff.1 (by rw [hl, hn]; omega)
    exact this
theorem firstV_slotS {s : St} {sz n z k m : Nat} {q : List Value} {b : Option Addr} (hg : s.get k = some (.arr q m true)) (h : SlotS k sz m q n z b) : firstV s sz n (.slice b n z) = some (slotRow q b) := by
  rcases h with ⟨rfl, rfl, rfl⟩ | ⟨rfl, rfl, rfl, hl, hp⟩
  · rfl
  · exact firstV_slot hg hl (.inr ⟨rfl, rfl, rfl⟩)
end

/-- a contract of a call in a memory of laid rows, which leaves all as it was: what it made is dropped -/
theorem scf_rowed {P : Program} {f : FuncId} {args : List Value} {s : St} {v : Value} (N : Nat) (hr : Rowed s) (hargs : Subs (idR s.n) args args) (h : SC P 0 f args s fun v0 s' => s'.n ≤ N ∧ (∀ i, i < s.n → s'.get i = s.get i) ∧ Sub (idR s.n) v0 v) :
    SCF P 0 f args s fun v1 s1 => v1 = v ∧ s1 = s := by
  intro hsw
  have hself : ∀ i, i < s.n → ORel (idR s.n) (s.get i) (s.get i) := by
    intro i hi
    obtain ⟨cs, mv, h1, h2⟩ := hr i hi
    rw [h1]
    exact OSub.arr h2
  have hR : ∀ i sp j, idR s.n i sp j → j < s.n ∧ j = i := by rintro i sp j ⟨h, rfl⟩; exact ⟨h, rfl⟩
  refine sc_frame (fun _ _ => False) (G := 0) (k := s.n) (ρ := fun i => i) (s := s) (s0 := s) (fit_id rfl (Nat.le_refl _) hsw (Nat.zero_le _) (fun _ _ => rfl) hself) N (fun _ _ _ _ _ h => h.elim) (hargs.mono hR) h ?_ hsw
  rintro _ v0 s0' ⟨h1, h2, h3⟩ hw0' hg
  refine ⟨h1, _, v, s, ⟨rfl, rfl⟩, h3.mono ?_, back_id (Nat.le_refl _) hsw (fun _ _ => rfl) hself h2, fun i hi => .inr fun _ => rfl⟩
  rintro i sp j ⟨h, rfl⟩
  exact .inl (if_pos h)

/-! ### an element of a slice -/
section
variable {C : Cfg} {e : Env} {s : St}
theorem evl_map (X : Option Value) (v : Value) {ops : Array Oper} {o : Oper} {l : List Oper} {R : Env → St → Prop} (hw : Region.wanted o (yieldedV ops e) = true) (hv : evalOp C e.eval s o.op = X.map fun v => (v, s))
    (ho : oneOp C (fun _ _ => .fail) e s o.op = .ofOption (evalOp C e.eval s o.op)) (hs : X = some v) (h : EvL C ops l (e.dst o.dst v) s R) : EvL C ops (o :: l) e s R :=
  evl_op hw (hv.trans (by rw [hs]; rfl)) ho h
theorem ev_st {fid : FuncId} {c : Code} {Q : Out → Env → St → Prop} (s1 : St) (h : s = s1) (hk : EvC C fid c e s1 Q) : EvC C fid c e s Q := h ▸ hk
theorem evd_st {ops : Array Oper} {i : Nat} {l : List Oper} {L : Log} {R : Env → St → Prop} (s1 : St) (h : s = s1) (hk : EvD C ops i l L e s1 R) : EvD C ops i l L e s R := h ▸ hk
theorem index_slice {t : TypeId} {sz n i : Nat} (ht : slTy C t sz = true) {a : Addr} {k : IntKind} (h : i < n) : indexAddrV C t (.slice (some a) n sz) (.int k i) = some (.pointer (some (Addr.plus a (i * sz)))) := by
  unfold slTy at ht
  split at ht
  · rename_i elem _ _ _ _ _ hty
    split at ht
    · rename_i et het
      have e1 := Nat.eq_of_beq_eq_true ht
      unfold indexAddrV
      rw [hty]
      simp only [het]
      rw [if_pos ⟨e1, by omega, by omega⟩]
      simp
    · cases ht
  · cases ht
def aggTy (C : Cfg) (t : TypeId) (sz : Nat) : Bool :=
  match C.ty t with
  | some ty => TypeDesc.agg ty.desc && Nat.beq ty.size sz
  | none => false
theorem load_elem {t : TypeId} {sz id off hi mv : Nat} {row el : List Value} {ro : Bool} (ht : aggTy C t sz = true) (hg : s.get id = some (.arr row mv ro)) (hm : mv ≤ hi) (hh : hi ≤ row.length) (ho : off + sz ≤ hi) (hel : (row.drop off).take sz = el) :
    loadV C s t (.pointer (some ⟨id, off, some hi⟩)) = some (.agg el.toArray) := by
  unfold aggTy at ht
  split at ht
  · rename_i ty hty
    rw [Bool.and_eq_true] at ht
    have e1 := Nat.eq_of_beq_eq_true ht.2
    unfold loadV
    rw [hty]
    simp only [ht.1, if_true, St.cellsAt, hg]
    rw [e1, if_pos ⟨hm, hh, ho⟩, hel]
    rfl
  · cases ht
/-- the element of a row in which the others are not looked at -/
theorem load_one {t : TypeId} {sz id i n mv : Nat} {A el B : List Value} {ro : Bool} (ht : aggTy C t sz = true) (hg : s.get id = some (.arr (oneRow A el B) mv ro)) (hA : A.length = i * sz) (hel : el.length = sz) (hB : A.length + el.length + B.length = n * sz) (hi : i < n) (hm : mv = if n = 0 then 1 else 0) :
    loadV C s t (.pointer (some (Addr.plus ⟨id, 0, some (n * sz)⟩ (i * sz)))) = some (.agg el.toArray) := by
  have h1 : (i + 1) * sz ≤ n * sz := Nat.mul_le_mul_right _ hi
  rw [Nat.add_mul] at h1
  refine load_elem (off := 0 + i * sz) ht hg (by rw [hm, if_neg (by omega)]; omega) (by rw [oneRow_len]; omega) (by omega) ?_
  exact oneRow_at (by omega) hel
end

end Go.Ai
