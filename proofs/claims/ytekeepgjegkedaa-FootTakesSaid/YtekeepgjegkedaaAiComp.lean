/- The interpreter: what holds of it. -/
import Derived.Test.YtekeepgjegkedaaAiCon
import Derived.Test.YtekeepgjegkedaaKit
set_option linter.unusedVariables false
set_option linter.unusedSimpArgs false
set_option linter.unnecessarySimpa false
/-
  Parts of rows that are written, cleared and handed back.
-/
namespace Go.Ai
def ssL (id sz o n tot : Nat) : Value := .slice (some ⟨id, o * sz, some (tot * sz)⟩) n sz
section
variable {α : Type} {f : α → List Value} {l : List α} {sz : Nat} {C : Cfg} {s : St}
theorem cut_hi_row {t : TypeId} (ht : slTy C t sz = true) {id n m : Nat} {k : IntKind} (h : m ≤ n) : sliceV C t (slL id sz n) none (some (.int k m)) none = some (ssL id sz 0 m n) := by
 unfold slTy at ht;split at ht
 ·rename_i elem _ _ _ _ _ hty;split at ht
  ·rename_i et het;have := Nat.eq_of_beq_eq_true ht;unfold sliceV slL;rw [hty];simp only [bnd_hi h, het];rw [if_pos this];unfold Addr.plus ssL;rw [Nat.zero_add];rfl
  ·cases ht
 ·cases ht
end
end Go.Ai
/-
  Frozen data with room behind it: how much of it is known, cutting into it.
-/
namespace Go.Ai
noncomputable def inlSL {α : Type} (f : α → List Value) (sz : Nat) (l sp : List α) : Value := inlS l.length sz (flatL f l) (flatL f sp)
section
variable {α : Type} {f : α → List Value} {sz : Nat} {l sp : List α} {C : Cfg} {s : St}
theorem inlSL_iff (hi : ∀ a b : List α, inlL f sz a = inlL f sz b ↔ a = b) {a b : List α} : inlSL f sz a sp = inlSL f sz b sp ↔ a = b := by
 refine ⟨fun h => ?_, fun h => by rw [h]⟩;unfold inlSL inlS at h;have h2 := code_inj (Option.some.inj (Value.chan.inj h));injection h2 with e1 e2 e3 e4;refine (hi a b).1 ?_;unfold inlL;rw [e1, e3]
theorem bcellsS_iff {a b sp : List UInt8} : inlSL Z1n 1 a sp = inlSL Z1n 1 b sp ↔ a = b := inlSL_iff fun _ _ => Z26
theorem inlSL_vr {β : Bij} {x : Value} (h : VR β (inlSL f sz l sp) x) : VR β (inlL f sz l) x := by
  unfold inlSL inlS at h;cases h with
  | junk c h hf =>
    unfold inlL inl;refine .junk _ h fun i hi => ?_
    rw [dec_code] at hi;obtain rfl := Option.some.inj hi;have q := hf _ (dec_code _);generalize hn : l.length = n at q ⊢
    generalize hcs : flatL f l = cs at q ⊢
    generalize hsp : flatL f sp = ps at q
    cases q with
    | none hz => exact .none hz
    | empty hz => exact .empty hz
    | slice hz hl hn hc hI =>
      refine .slice hz hl hn (by rw [List.length_nil]; omega) fun j v hj => hI j v ?_
      rw [List.append_nil] at hj;rw [List.getElem?_append_left (List.getElem?_eq_some_iff.1 hj).1];exact hj
theorem sc_arg1 {P : Program} {G : Nat} {g : FuncId} {a a2 : Value} {Q : Value → St → Prop} (h : ∀ β x, VR β a x → VR β a2 x) (hs : SC P G g [a2] s Q) : SC P G g [a] s Q := fun hw β own w args' h1 h2 h3 h4 cs =>
 hs hw β own w args' h1 h2 h3 (by
  obtain ⟨x', l', e, hx, hl⟩ := h4.cons_inv;rw [e];exact .cons (h _ _ hx) hl) cs
theorem cap_S (H : TokC C) {t : TypeId} (ht : slTy C t 1 = true) (hf : ∀ x, (f x).length = 1) : capB C t (inlSL f 1 l sp) = some (.complex .f64 (l.length + sp.length) 0) := by
 unfold slTy at ht;split at ht
 ·rename_i elem _ _ _ _ _ hty;unfold capB inlSL inlS;rw [hty];simp only [H.dec, dec_code];rw [flatL_len hf, flatL_len hf, Nat.mul_one, Nat.mul_one, Nat.div_one]
 ·cases ht
theorem lss_cx {b : Bool} {t : TypeId} {a : Nat} {k : Int} (h : k ≤ (a : Int)) : binV C s b .lss t (.complex .f64 a 0) (.int .i64 k) = some (.bool false) := by
 show (if k ≤ (a : Int) then some (Value.bool false) else none) = _;rw [if_pos h]
theorem cut_S (H : TokC C) {t : TypeId} (ht : slTy C t sz = true) (hf : ∀ x, (f x).length = sz) {h : Nat} (hs : 0 < sp.length) (hh : h = l.length + sp.length) : sliceV C t (inlSL f sz l sp) none (some (.int .i64 h)) none = some (inlL f sz (l ++ sp)) := by
 unfold slTy at ht;split at ht
 ·rename_i elem _ _ _ _ _ hty;split at ht
  ·rename_i et het;have e := Nat.eq_of_beq_eq_true ht;unfold sliceV inlSL inlS;rw [hty];simp only [het, H.dec, dec_code];rw [if_pos e];have hb : boundsV l.length none (some (.int .i64 (h : Int))) none = none := by
    unfold boundsV bound;simp only;rw [if_neg Z5]
   unfold sliceT;rw [hb];simp only;have hl2 : (flatL f sp).length = sp.length * sz := flatL_len hf;have hm : (h : Int) * sz = ((l.length * sz + sp.length * sz : Nat) : Int) := by rw [hh, ← Nat.add_mul]; rfl
   rw [if_pos ⟨Z5, by rw [hl2, hm]; exact Int.le_refl _⟩];unfold inlL inl;rw [H.cod, Int.toNat_natCast, ← flatL_append];have e2 : (flatL f (l ++ sp)).take (h * sz) = flatL f (l ++ sp) := List.take_of_length_le (by rw [flatL_len hf, List.length_append, hh]; exact Nat.le_refl _);rw [e2, List.length_append, ← hh]
  ·cases ht
 ·cases ht
theorem conv_S {sp : List UInt8} {l : List UInt8} (H : TokC C) {a b : TypeId} (ht : strTy C a b = true) : convS C s a b (inlSL Z1n 1 l sp) = some (.string (bstr l), s) := by
 unfold strTy at ht;split at ht
 ·rename_i e _ _ _ _ _ _ _ _ _ _ h1 h2;split at ht
  ·rename_i h3;unfold convS inlSL inlS;rw [h1, h2];simp only [h3, H.dec, dec_code, bytesOf_flat];rfl
  ·cases ht
 ·cases ht
theorem fs_ssS {k id mv m tot : Nat} (hz : 0 < sz) (hf : ∀ x, (f x).length = sz) (hc : ∀ x, clo.cloL (f x) = true) (ho : ∀ x, (f x).all one = true) (hk : k ≤ id) (hg : s.get id = some (rowM f mv (l ++ sp))) (hm : m = l.length) (hn : tot = l.length + sp.length) (hv : mv ≤ tot * sz) : FS k s (ssL id sz 0 m tot) (inlSL f sz l sp) := by
  subst hm hn;have h2 : (flatL f l).length = l.length * sz := flatL_len hf;have h3 : (flatL f sp).length = sp.length * sz := flatL_len hf;unfold inlSL;refine .rowS hk hg hv (by rw [Nat.zero_mul, h3, Nat.add_mul]; omega) hz h2 ?_ ?_ ?_
  · rw [Nat.zero_mul, List.drop_zero, flatL_append, List.take_of_length_le (by rw [List.length_append]; omega)]
    have : ∀ q : List Value, clo.cloL q = true → FSL k s q q := by
      intro q;induction q with
      | nil => exact fun _ => .nil
      | cons v q ih =>
        intro h;simp only [clo.cloL, Bool.and_eq_true] at h;exact .cons (.same (sub_clo h.1)) (ih h.2)
    rw [← flatL_append];exact this _ (Z1t hc)
  · rw [← flatL_append]; exact Z1t hc
  · rw [← flatL_append]; exact flatL_one ho
theorem idx_inlI (H : TokC C) {t : TypeId} (ht : slTy C t sz = true) {i : Nat} {j : Int} {k : IntKind} (hj : j = (i : Int)) (hi : i < l.length) : Z23 C t (inlL f sz l) (.int k j) = some (elt (flatL f l) (i * sz)) := hj ▸ idx_inlL H ht hi
theorem conv_any {l : List UInt8} (H : TokC C) {a b : TypeId} (ht : strTy C a b = true) {ev : Operand → Value} {X : St} {o : Op} (x : Operand) (ho : o = .convert a b x) (hx : ev x = inlL Z1n 1 l) : ∃ s'', Z22 C ev X o = some (.string (bstr l), s'') := by
 subst ho;exact ⟨X, by show convS C X a b (ev x) = _; rw [hx]; exact conv_inlB H ht⟩
theorem ald_readF {rc : Rec} {e : Env} {ops : Array Oper} {i : Nat} {o : Oper} {r : List Oper} {L : Log} {R : Env → St → Prop} {d : Nat × St × St} {v : Value} {s1 : St} (hw : Region.wanted o (Z25 ops e) = true)
  (ho : oneOp C (fun _ _ => .fail) e s o.op = .ofOption (Z22 C e.eval s o.op)) (hc : Nat.beq (Z1y C o.op) 2 = true) (hv : Z22 C e.eval s o.op = some (v, s1))
  (hE : ∀ j, j < L.effects.length → ((Region.before ops).getD i 0).testBit (L.effects.getD j d).1 = true ∨ ∃ s'', Z22 C e.eval (L.effects.getD j d).2.1 o.op = some (v, s''))
  (h : AllD C rc ops (i + 1) r { L with reads := (i, o.op, e, v) :: L.reads } (e.dst o.dst v) s1 R) : AllD C rc ops i (o :: r) L e s R := by
 have e1 : getV (Z22 C e.eval s o.op) = v := by rw [hv]; rfl
 have e2 : getS (Z22 C e.eval s o.op) = s1 := by rw [hv]; rfl
 refine ald_readK (d := d) hw (by rw [hv]; rfl) ho hc (fun j hj => by rw [e1]; exact hE j hj) ?_;rw [e1, e2];exact h
def makTy (C : Cfg) (t : TypeId) (sz bytes : Nat) : Bool :=
  match C.ty t with
  | some { desc := .slice elem, .. } =>
    match C.ty elem with
    | some { size, bytes := b, zero := some z, .. } => Nat.beq size sz && Nat.beq b bytes && Nat.beq size z.cells.size && Nat.blt 0 size
    | _ => false
  | _ => false
theorem make_0 {t : TypeId} {bytes c : Nat} (ht : makTy C t sz bytes = true) (hc : bytes * c ≤ 281474976710656) (hc2 : c ≤ 4611686018427387904) : makeSliceV C s t (.int .i64 0) (.int .i64 c) = some (slL s.n sz 0, s.new (rowL f [])) := by
 unfold makTy at ht;split at ht
 ·rename_i elem _ _ _ _ _ hty;split at ht
  ·rename_i size b z _ _ het;simp only [Bool.and_eq_true, Nat.beq_eq, Nat.blt_eq] at ht;obtain ⟨⟨⟨rfl, rfl⟩, h3⟩, h4⟩ := ht;unfold makeSliceV;rw [hty];simp only [het];rw [if_pos ⟨Int.le_refl _, Z5, Z5, by simpa using hc, h3, h4⟩];simp [slL, rowL, zeros, flatL]
  ·cases ht
 ·cases ht
end
end Go.Ai
/-
  The document's reading of counts: as few bytes as can be.
-/
namespace Go.Ai
def vl : List UInt8 → Nat
 | [] => 0
 | c :: r => c.toNat % 128 + 128 * vl r
theorem vl_uv : ∀ (n : Nat) {x : Nat}, x < n → vl (uv x) = x
  | 0, x, h => absurd h (Nat.not_lt_zero _)
  | n + 1, x, h => by
    by_cases hx : x < 128
    · rw [uv_small hx]
      show (UInt8.ofNat x).toNat % 128 + 128 * 0 = x;rw [ofNat_small Z5];omega
    · rw [uv_big hx]
      show (UInt8.ofNat (x % 128 + 128)).toNat % 128 + 128 * vl (uv (x / 128)) = x;rw [vl_uv n Z5, ofNat_small Z5];omega
theorem uv_shape : ∀ (n : Nat) {x : Nat}, x < n → ∃ m, (uv x).length = m + 1 ∧ (∀ j, j < m → ∃ c, (uv x)[j]? = some c ∧ 128 ≤ c.toNat) ∧ ∃ c, (uv x)[m]? = some c ∧ c.toNat < 128
  | 0, x, h => absurd h (Nat.not_lt_zero _)
  | n + 1, x, h => by
    by_cases hx : x < 128
    · rw [uv_small hx]
      exact ⟨0, rfl, fun j hj => absurd hj (Nat.not_lt_zero _), _, rfl, by rw [ofNat_small Z5]; exact hx⟩
    · obtain ⟨m, h1, h2, h3⟩ := uv_shape n (x := x / 128) Z5
      rw [uv_big hx];refine ⟨m + 1, by rw [List.length_cons, h1], fun j hj => ?_, ?_⟩
      · cases j with
        | zero => exact ⟨_, rfl, by rw [ofNat_small Z5]; omega⟩
        | succ j => exact h2 j Z5
      · exact h3
def Big (b : List UInt8) (n : Nat) : Prop := ∀ j, j < n → ∃ c, b[j]? = some c ∧ 128 ≤ c.toNat
def Stops (b : List UInt8) (n : Nat) : Prop := n < 10 → ∀ c, b[n]? = some c → c.toNat < 128
theorem big_succ {b : List UInt8} {n : Nat} {c : UInt8} (h : Big b n) (hc : b[n]? = some c) (h8 : 128 ≤ c.toNat) : Big b (n + 1) := fun j hj => by
 by_cases e : j = n
 ·rw [e]; exact ⟨c, hc, h8⟩
 ·exact h j Z5
theorem stops_at {b : List UInt8} {n : Nat} {c : UInt8} (hc : b[n]? = some c) (h : c.toNat < 128) : Stops b n := fun _ d hd => by
 rw [hc] at hd;obtain rfl := Option.some.inj hd;exact h
theorem stops_end {b : List UInt8} {n : Nat} (h : ¬ n < b.length) : Stops b n := fun _ d hd => absurd (List.getElem?_eq_some_iff.1 hd).1 h
theorem stops_ten {b : List UInt8} {n : Nat} (h : ¬ n < 10) : Stops b n := fun q => absurd q h
theorem res_bad {b : List UInt8} {bad : Bool} (h : bad = true) (hI : bad = true → b = []) : rdV b bad = 0 ∧ rdR b bad = [] ∧ rdB b bad = true := by
 subst h;exact ⟨rfl, hI rfl, rfl⟩
theorem res_none {b : List UInt8} {bad : Bool} (h : bad = false) (q : rd b = none) : rdV b bad = 0 ∧ rdR b bad = [] ∧ rdB b bad = true := by
 subst h;simp [rdV, rdR, rdB, q]
theorem res_some {b r : List UInt8} {bad : Bool} {u : Nat} (h : bad = false) (q : rd b = some (u, r)) : rdV b bad = u ∧ rdR b bad = r ∧ rdB b bad = false := by
 subst h;simp [rdV, rdR, rdB, q]
theorem big_at {b r : List UInt8} {n x : Nat} (hx : x < 18446744073709551616) (hb : b = uv x ++ r) (h : Big b n) (hs : Stops b n) : n < b.length ∧ n < 10 ∧ b.take (n + 1) = uv x ∧ b.drop (n + 1) = r := by
 obtain ⟨m, h1, h2, c, h3, h4⟩ := uv_shape (x + 1) (x := x) Z5;have h10 := uv_len10 hx;have at_ : ∀ {j}, j < m + 1 → b[j]? = (uv x)[j]? := fun {j} hj => by rw [hb, List.getElem?_append_left Z5]
 have e : n = m := by
  by_cases g1 : n < m
  ·obtain ⟨d, q1, q2⟩ := h2 n g1;have := hs Z5 d ((at_ Z5).trans q1);omega
  ·by_cases g2 : m < n
   ·obtain ⟨d, q1, q2⟩ := h m g2;rw [at_ Z5, h3] at q1;obtain rfl := Option.some.inj q1;omega
   ·omega
 subst e;refine ⟨by rw [hb, List.length_append]; omega, Z5, ?_, ?_⟩
 ·rw [hb, ← h1, List.take_left]
 ·rw [hb, ← h1, List.drop_left]
theorem rd_stop {b : List UInt8} {n : Nat} (h : Big b n) (hs : Stops b n) (hn : ¬ n < b.length ∨ ¬ n < 10) : rd b = none := rd_none fun x r hb hx => by
 have := big_at hx hb h hs;omega
theorem rd_bad {b : List UInt8} {n u : Nat} (h : Big b n) (hs : Stops b n) (hu : u = vl (b.take (n + 1)) % 18446744073709551616) (hne : ¬ uv u = b.take (n + 1)) : rd b = none := rd_none fun x r hb hx => by
 obtain ⟨_, _, h3, _⟩ := big_at hx hb h hs;rw [h3, vl_uv (x + 1) Z5, Nat.mod_eq_of_lt hx] at hu;exact hne (by rw [hu, h3])
theorem rd_good {b : List UInt8} {n u : Nat} (hu : u < 18446744073709551616) (he : uv u = b.take (n + 1)) : rd b = some (u, b.drop (n + 1)) := rd_of (by rw [he, List.take_append_drop]) hu
theorem vl_step {b : List UInt8} {n i u : Nat} {c : UInt8} (hi : i ≤ n) (hc : b[i]? = some c) (hu : u = vl ((b.take (n + 1)).drop (i + 1)) % 18446744073709551616) : (128 * u % 18446744073709551616 + c.toNat % 128) % 18446744073709551616 = vl ((b.take (n + 1)).drop i) % 18446744073709551616 := by
 have hl := (List.getElem?_eq_some_iff.1 hc).1;have e : (b.take (n + 1)).drop i = c :: (b.take (n + 1)).drop (i + 1) := by
  have hl2 : i < (b.take (n + 1)).length := by rw [List.length_take]; omega
  rw [List.drop_eq_getElem_cons hl2];congr 1
  rw [List.getElem_take];exact (List.getElem?_eq_some_iff.1 hc).2
 rw [e];show _ = (c.toNat % 128 + 128 * vl ((b.take (n + 1)).drop (i + 1))) % 18446744073709551616;omega
theorem vl_done {b : List UInt8} {n u : Nat} {i : Int} (h : u = vl ((b.take (n + 1)).drop (i + 1).toNat) % 18446744073709551616) (hi : i < 0) : u = vl (b.take (n + 1)) % 18446744073709551616 := by
 rw [show (i + 1).toNat = 0 from Z5, List.drop_zero] at h;exact h
theorem vl_start {b : List UInt8} {n : Nat} : 0 = vl ((b.take (n + 1)).drop (n + 1)) % 18446744073709551616 := by
 rw [List.drop_eq_nil_of_le (by rw [List.length_take]; omega)];rfl
theorem mul_u64 {x : Nat} {m : Int} (hm : m = 128) : IntKind.wrap .u64 (m * (x : Int)) = ((128 * x % 18446744073709551616 : Nat) : Int) := by
 rw [hm, wrap_u64];unfold u64;omega
theorem add_u64 {x y : Nat} : IntKind.wrap .u64 ((x : Int) + (y : Int)) = (((x + y) % 18446744073709551616 : Nat) : Int) := by
 rw [wrap_u64];unfold u64;omega
end Go.Ai