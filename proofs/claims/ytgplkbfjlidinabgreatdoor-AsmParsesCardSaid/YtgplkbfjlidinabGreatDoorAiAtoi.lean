/- The interpreter: what holds of it. -/
import Derived.Test.YtgplkbfjlidinabGreatDoorAiTab
import Derived.Shelf.Strconv.AtoiAll
import Derived.Test.YtgplkbfjlidinabGreatDoorAiCon
import Derived.Test.YtgplkbfjlidinabGreatDoorKit
set_option linter.unusedVariables false
set_option linter.unusedSimpArgs false
set_option linter.unnecessarySimpa false
/-
  strconv.Atoi at whatever text: the kit's contracts, taken over: the number, or an error that is told by its type alone.
-/
namespace Go.Ai
open Go.Sort Go.Shelf Go.Proofs Go.RowKit
section
variable {P : Program} {G : Nat}
noncomputable def atoiV (T : Nat) (s : List UInt8) : Value :=
 match Lib.atoiAll s with
 | .ok v => .tuple #[.int .i64 v, .nilIface]
 | .range => .tuple #[.int .i64 (Lib.atoiSat s), .iface T (.chan (some 0))]
 | _ => .tuple #[.int .i64 0, .iface T (.chan (some 0))]
theorem atoiV_clo (T : Nat) (s : List UInt8) : clo (atoiV T s) = true := by unfold atoiV; split <;> rfl
theorem bstr_data (s : List UInt8) : (bstr s).data.toList = s := by simp [bstr]
theorem atoi_sc {ρ : Ren} (L : LaysC.n172 P ρ) {f : FuncId} (hf : ρ.f 172 = f) (hG : 1000 ≤ G) (h15 : ρ.g 15 + 1 = gE1 G ∨ ρ.g 15 + 1 = gE2 G) (h16 : ρ.g 16 + 1 = gE1 G ∨ ρ.g 16 + 1 = gE2 G) (s : List UInt8) (hn : s.length ≤ 281474976710656) :
    SC P G f [.string (bstr s)] (St.empty 0) fun v s' => v = atoiV (ρ.t 168) s ∧ s' = St.empty 0 := by
  intro hw β own w args' hs hGl hf' ha cs;subst hf;have en : ∀ args w, (callFunc (ρ.f 172) args).run P w = .ok (.enter (ρ.f 172) args) w := enters_of L.f172 Z3 rfl;obtain ⟨args'⟩ := args';simp only at ha;obtain ⟨a0, r, rfl, h2, ha⟩ := ha.cons_inv;obtain rfl := ha.nil_inv;obtain rfl : a0 = .string (bstr s) := by cases h2; rfl
  have hsz : (bstr s).size = s.length := rfl;have jk : ∀ N : Nat, VR β (.iface (ρ.t 168) (.chan (some 0))) (.iface (ρ.t 168) (.pointer (some ⟨N, 0, none⟩))) := fun N => .iface (.junk 0 rfl fun i hi => by rw [dec_zero] at hi; cases hi)
  cases hE : Lib.atoiAll s with
  | ok v =>
    obtain ⟨e, w', fr, ⟨rfl, hW⟩, q1, q2, q3⟩ := Any.strconv_Atoi_ok L (bstr s) (by rw [hsz]; omega) v (by rw [bstr_data]; exact hE) w cs;have hb : Below w.heap.size w w' := by
      rcases hW with rfl | ⟨t, rfl⟩
      · exact Below.refl _ _
      · exact Lib.bytesWorld_below _ _ _
    obtain ⟨e1, e2⟩ := below_ext hs hb;exact ⟨_, _, β, own, _, _, ⟨rfl, rfl⟩, hw, .refl _, e1, e2, by unfold atoiV; rw [hE]; exact .tuple (.cons (.int _ _) (.cons .nilIface .nil)), en _ _, fr, q1, q2, q3⟩
  | range =>
    obtain ⟨p, hp⟩ := err_of hs hGl hG h16;obtain ⟨e, w', fr, ⟨N, rfl, _, _, hb⟩, q1, q2, q3⟩ := Any.strconv_Atoi_range L (bstr s) (by rw [hsz]; exact hn) (by rw [bstr_data]; exact hE) _ w hp (.inr ⟨_, _, rfl⟩) cs;obtain ⟨e1, e2⟩ := below_ext hs hb;exact ⟨_, _, β, own, _, _, ⟨rfl, rfl⟩, hw, .refl _, e1, e2, by unfold atoiV; rw [hE, bstr_data]; exact .tuple (.cons (.int _ _) (.cons (jk N) .nil)), en _ _, fr, q1, q2, q3⟩
  | _ =>
    obtain ⟨p, hp⟩ := err_of hs hGl hG h15;obtain ⟨e, w', fr, ⟨N, rfl, _, _, hb⟩, q1, q2, q3⟩ := Any.strconv_Atoi_syntax L (bstr s) (by rw [hsz]; exact hn) (by rw [bstr_data]; exact hE) _ w hp (.inr ⟨_, _, rfl⟩) cs;obtain ⟨e1, e2⟩ := below_ext hs hb;exact ⟨_, _, β, own, _, _, ⟨rfl, rfl⟩, hw, .refl _, e1, e2, by unfold atoiV; rw [hE]; exact .tuple (.cons (.int _ _) (.cons (jk N) .nil)), en _ _, fr, q1, q2, q3⟩
end
end Go.Ai
/-
  Numbers as figures, and back: plain Lean.
-/
namespace Go.Ai
theorem parse_app : ∀ (l : List UInt8) (a v : Nat) (c : UInt8), Lib.parseUint10 a l = .ok v → 48 ≤ c.toNat ∧ c.toNat ≤ 57 → v * 10 + (c.toNat - 48) < 18446744073709551616 → Lib.parseUint10 a (l ++ [c]) = .ok (v * 10 + (c.toNat - 48))
  | [], a, v, c, h, hc, hv => by
    simp only [Lib.parseUint10] at h;injection h with h;subst h;show Lib.parseUint10 a [c] = _;simp only [Lib.parseUint10];rw [if_pos hc, if_neg Z4, if_neg Z4]
  | x :: l, a, v, c, h, hc, hv => by
    simp only [Lib.parseUint10] at h;show Lib.parseUint10 a (x :: (l ++ [c])) = _;simp only [Lib.parseUint10];split at h
    · rename_i h1
      rw [if_pos h1];split at h
      · cases h
      · rename_i h2
        rw [if_neg h2];split at h
        · cases h
        · rename_i h3
          rw [if_neg h3];exact parse_app l _ v c h hc hv
    · cases h
theorem parse_dec (u : Nat) : u < 18446744073709551616 → Lib.parseUint10 0 (Lib.decDigits u) = .ok u := by
  induction u using Nat.strongRecOn with
  | ind u ih =>
    intro hu;rw [Lib.decDigits.eq_def];split
    · rename_i h
      have e : (UInt8.ofNat (48 + u)).toNat = 48 + u := Z1k
      simp only [Lib.parseUint10];rw [if_pos Z4, if_neg Z4, if_neg Z4, e];congr 1
      omega
    · rename_i h
      have e : (UInt8.ofNat (48 + u % 10)).toNat = 48 + u % 10 := Z1k
      have := parse_app (Lib.decDigits (u / 10)) 0 (u / 10) (UInt8.ofNat (48 + u % 10)) (ih _ Z4 Z4) Z4 Z4;rw [this];congr 1
      omega
theorem digs_all (u : Nat) : ∀ x ∈ Lib.decDigits u, 48 ≤ x.toNat ∧ x.toNat ≤ 57 := by
  induction u using Nat.strongRecOn with
  | ind u ih =>
    intro x hx;rw [Lib.decDigits.eq_def] at hx;split at hx
    · obtain rfl := List.mem_singleton.1 hx
      rw [UInt8.toNat_ofNat']; omega
    · rcases List.mem_append.1 hx with hx | hx
      · exact ih _ Z4 x hx
      · obtain rfl := List.mem_singleton.1 hx
        rw [UInt8.toNat_ofNat']; omega
theorem digs_ne (u : Nat) : Lib.decDigits u ≠ [] := by
 rw [Lib.decDigits.eq_def];split <;> simp
theorem mag_dec {u : Nat} (h : u < 18446744073709551616) : Lib.parseMag (Lib.decDigits u) = .ok u := by
 unfold Lib.parseMag;rw [if_neg (digs_ne u), parse_dec u h]
theorem atoi_itoa {n : Int} (h : in64 n) : Lib.atoiAll (Lib.itoa n) = .ok n := by
  unfold in64 at h;unfold Lib.itoa;split
  · rename_i hn
    unfold Lib.atoiAll;simp only;rw [if_pos (.inr Zj), mag_dec Z4];simp only;rw [if_neg (fun q => q.1 Zj), if_neg (fun q => Z1g), if_pos Zj];congr 1
    omega
  · rename_i hn
    have hne := digs_ne n.toNat;have hall := digs_all n.toNat;have hm : Lib.parseMag (Lib.decDigits n.toNat) = .ok n.toNat := mag_dec Z4;generalize Lib.decDigits n.toNat = l at hne hall hm
    cases l with
    | nil => exact absurd rfl hne
    | cons c r =>
      have hc := hall c (List.mem_cons_self ..);unfold Lib.atoiAll;simp only;rw [if_neg Z4, hm];simp only;rw [if_neg Z4, if_neg Z4, if_neg Z4];congr 1
      omega
noncomputable def atN (s : List UInt8) : Int :=
 match Lib.atoiAll s with
 | .ok v => v
 | .range => Lib.atoiSat s
 | _ => 0
def okA (s : List UInt8) : Prop := ∃ v, Lib.atoiAll s = .ok v
theorem atoi_t {T : Nat} {s : List UInt8} (h : okA s) : atoiV T s = .tuple #[.int .i64 (atN s), .nilIface] := by
 obtain ⟨v, h⟩ := h;unfold atoiV atN;rw [h]
theorem atoi_f {T : Nat} {s : List UInt8} (h : ¬ okA s) : atoiV T s = .tuple #[.int .i64 (atN s), .iface T (.chan (some 0))] := by
 unfold atoiV atN;cases e : Lib.atoiAll s with
 | ok v => exact absurd ⟨v, e⟩ h
 | _ => rfl
theorem atN_in (s : List UInt8) : in64 (atN s) := by
  unfold atN in64;cases e : Lib.atoiAll s with
  | ok v =>
    have := Lib.atoiAll_bounds e;show -9223372036854775808 ≤ v ∧ v < 9223372036854775808;omega
  | range =>
    simp only [Lib.atoiSat];split <;> decide
  | _ => exact (show (-9223372036854775808 : Int) ≤ 0 ∧ (0 : Int) < 9223372036854775808 by decide)
def numP (s : List UInt8) : Prop := ∃ n, in64 n ∧ Lib.itoa n = s
theorem atN_itoa {n : Int} (h : in64 n) : atN (Lib.itoa n) = n := by unfold atN; rw [atoi_itoa h]
theorem num_yes {s : List UInt8} (h : Lib.itoa (atN s) = s) : numP s := ⟨atN s, atN_in s, h⟩
theorem num_ok {s : List UInt8} (h : numP s) : okA s ∧ Lib.itoa (atN s) = s := by
 obtain ⟨n, hn, rfl⟩ := h;exact ⟨⟨n, atoi_itoa hn⟩, by rw [atN_itoa hn]⟩
theorem num_no1 {s : List UInt8} (h : ¬ okA s) : ¬ numP s := fun q => h (num_ok q).1
theorem num_no2 {s : List UInt8} (h : ¬ Lib.itoa (atN s) = s) : ¬ numP s := fun q => h (num_ok q).2
def cutR (m s : List UInt8) : List UInt8 := if m <+: s then s.drop m.length else s
theorem cut_pre (m s : List UInt8) : cutR m (m ++ s) = s := by
 unfold cutR;rw [if_pos (List.prefix_append m s), List.drop_left]
end Go.Ai
/-
  A text's pieces between bytes: plain Lean.
-/
namespace Go.Ai
open Go.Lib
def pcs (b : UInt8) : List UInt8 → List (List UInt8)
  | [] => [[]]
  | x :: l => if x = b then [] :: pcs b l else match pcs b l with
    | [] => [[x]]
    | w :: r => (x :: w) :: r
theorem index_cons_eq (b : UInt8) (l : List UInt8) : Lib.index (b :: l) [b] = 0 := by rw [Lib.index]; simp [List.isPrefixOf]
theorem index_cons_ne {x b : UInt8} (l : List UInt8) (h : x ≠ b) : Lib.index (x :: l) [b] = if Lib.index l [b] == -1 then -1 else Lib.index l [b] + 1 := by
 have hp : ([b] : List UInt8).isPrefixOf (x :: l) = false := by simp [List.isPrefixOf, Ne.symm h]
 rw [Lib.index, hp]; simp
theorem splitK_pcs (b : UInt8) : ∀ s : List UInt8, Lib.splitK [b] 0 (s.count b) s = pcs b s
  | [] => rfl
  | x :: l => by
    have ih := splitK_pcs b l;by_cases h : x = b
    · subst h
      rw [List.count_cons_self];show Lib.splitK [x] 0 (l.count x + 1) (x :: l) = _;unfold Lib.splitK;rw [index_cons_eq];simp only [pcs];rw [if_neg Zj, if_pos trivial];simpa using ih
    · rw [List.count_cons_of_ne h]
      simp only [pcs];rw [if_neg h, ← ih];generalize l.count b = k
      cases k with
      | zero => rfl
      | succ k =>
        unfold Lib.splitK;rw [index_cons_ne l h];by_cases hm : Lib.index l [b] = -1
        · rw [hm]; rfl
        · have hge := Lib.index_ge l [b]
          obtain ⟨j, hj⟩ : ∃ j : Nat, Lib.index l [b] = j := ⟨(Lib.index l [b]).toNat, Z4⟩;have e0 : (Lib.index l [b] == -1) = false := by simpa using hm
          simp only [e0, Bool.false_eq_true, if_false];have e4 : (Lib.index l [b] + 1 == -1) = false := by rw [beq_eq_false_iff_ne]; omega
          rw [e4, hj];simp only [Bool.false_eq_true, if_false];have e2 : ((j : Int) + 1).toNat = j + 1 := Z4
          have e3 : ((j : Int)).toNat = j := Z4
          rw [e2, e3];simp
theorem split_pcs (b : UInt8) (s : List UInt8) : Z2e b s = pcs b s := by
 unfold Z2e Lib.split;rw [Lib.count_one, splitK_pcs]
theorem pcs_no {b : UInt8} : ∀ {a : List UInt8}, (∀ x ∈ a, x ≠ b) → pcs b a = [a]
  | [], _ => rfl
  | x :: a, h => by
    simp only [pcs];rw [if_neg (h x (List.mem_cons_self ..)), pcs_no fun y hy => h y (List.mem_cons_of_mem _ hy)]
theorem pcs_app {b : UInt8} {r : List UInt8} : ∀ {a : List UInt8}, (∀ x ∈ a, x ≠ b) → pcs b (a ++ b :: r) = a :: pcs b r
  | [], _ => by
    show pcs b (b :: r) = _;simp only [pcs];rw [if_pos trivial]
  | x :: a, h => by
    show pcs b (x :: (a ++ b :: r)) = _;simp only [pcs];rw [if_neg (h x (List.mem_cons_self ..)), pcs_app fun y hy => h y (List.mem_cons_of_mem _ hy)]
theorem pcs_len {b : UInt8} : ∀ {s w : List UInt8}, w ∈ pcs b s → w.length ≤ s.length
  | [], w, h => by
    obtain rfl := List.mem_singleton.1 h;exact Nat.le_refl _
  | x :: l, w, h => by
    simp only [pcs] at h;split at h
    · rcases List.mem_cons.1 h with rfl | h
      · exact Nat.zero_le _
      · have := pcs_len h
        rw [List.length_cons]; omega
    · cases hp : pcs b l with
      | nil =>
        rw [hp] at h;obtain rfl := List.mem_singleton.1 h;simp
      | cons v r =>
        rw [hp] at h;rcases List.mem_cons.1 h with rfl | h
        · have := pcs_len (b := b) (s := l) (w := v) (by rw [hp]; exact List.mem_cons_self ..)
          simpa using this
        · have := pcs_len (b := b) (s := l) (w := w) (by rw [hp]; exact List.mem_cons_of_mem _ h)
          rw [List.length_cons]; omega
theorem pcs_many (b : UInt8) : ∀ s : List UInt8, (pcs b s).length ≤ s.length + 1
  | [] => Nat.le_refl _
  | x :: l => by
    have ih := pcs_many b l;simp only [pcs];split
    · simp only [List.length_cons]; omega
    · split
      · simp
      · rename_i h
        rw [h] at ih;simp only [List.length_cons] at ih ⊢;omega
theorem pcs_ne (b : UInt8) (s : List UInt8) : pcs b s ≠ [] := by
  cases s with
  | nil => simp [pcs]
  | cons x l =>
    simp only [pcs];split
    · simp
    · split <;> simp
def unpcs (b : UInt8) : List (List UInt8) → List UInt8
 | [] => []
 | [w] => w
 | w :: r => w ++ b :: unpcs b r
theorem pcs_un (b : UInt8) : ∀ s : List UInt8, unpcs b (pcs b s) = s
  | [] => rfl
  | x :: l => by
    have ih := pcs_un b l;simp only [pcs];split
    · rename_i h
      subst h;cases hp : pcs x l with
      | nil => exact absurd hp (pcs_ne x l)
      | cons w r => rw [hp] at ih; show [] ++ x :: unpcs x (w :: r) = _; rw [ih]; rfl
    · cases hp : pcs b l with
      | nil => exact absurd hp (pcs_ne b l)
      | cons w r =>
        rw [hp] at ih;cases r with
        | nil => exact congrArg (x :: ·) ih
        | cons v r => exact congrArg (x :: ·) ih
end Go.Ai