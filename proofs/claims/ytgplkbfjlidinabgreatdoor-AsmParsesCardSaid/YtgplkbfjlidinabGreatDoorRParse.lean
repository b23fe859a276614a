/- The document: the program of a text. -/
import Derived.Test.YtgplkbfjlidinabGreatDoorRLaw
import Derived.Test.YtgplkbfjlidinabGreatDoorKit
set_option linter.unusedVariables false
set_option linter.unusedSimpArgs false
set_option linter.unnecessarySimpa false
set_option maxHeartbeats 4000000
set_option maxRecDepth 100000
namespace Go.Proofs.YtgplkbfjlidinabGreatDoor
open Go.Ai
def qinv (s : List UInt8) (i n : Nat) (w : List UInt8) : Prop := (∀ x ∈ w, x ≠ 10) ∧ n ≤ (pcs 10 s).length ∧ pcs 10 s = (pcs 10 s).take n ++ pcs 10 (w ++ s.drop i)
theorem qinv_0 {s : List UInt8} : qinv s 0 0 [] := ⟨fun _ h => absurd h List.not_mem_nil, Nat.zero_le _, rfl⟩
theorem qinv_add {s w : List UInt8} {i n : Nat} {x : UInt8} (hx : s[i]? = some x) (e : ¬ ((x.toNat : Nat) : Int) = 10) (h : qinv s i n w) : qinv s (i + 1) n (w ++ [x]) := by
 refine ⟨fun y hy => ?_, h.2.1, ?_⟩
 ·rcases List.mem_append.1 hy with hy | hy
  ·exact h.1 y hy
  ·obtain rfl := List.mem_singleton.1 hy;exact fun q => e (by rw [q]; rfl)
 ·have q := h.2.2;rw [drop_at hx] at q;rw [List.append_assoc];exact q
section
variable {s w : List UInt8} {i n : Nat} {x : UInt8} (hx : s[i]? = some x) (e : ((x.toNat : Nat) : Int) = 10) (h : qinv s i n w)
include hx e h
theorem q_split : pcs 10 s = (pcs 10 s).take n ++ (w :: pcs 10 (s.drop (i + 1))) := by
 obtain rfl : x = 10 := UInt8.toNat_inj.1 (by have : (10 : UInt8).toNat = 10 := rfl; omega);have q := h.2.2;rw [drop_at hx, pcs_app h.1] at q;exact q
theorem q_at : (Z2e 10 s)[n]? = some w ∧ n + 1 < (Z2e 10 s).length := by
 rw [split_pcs];have q := q_split hx e h;have hl : ((pcs 10 s).take n).length = n := by rw [List.length_take]; have := h.2.1; omega
 constructor
 ·rw [q, List.getElem?_append_right Z4, hl, Nat.sub_self];rfl
 ·have q1 := congrArg List.length q;rw [List.length_append, hl, List.length_cons] at q1;cases hp : pcs 10 (s.drop (i + 1)) with
  | nil => exact absurd hp (pcs_ne _ _)
  | cons a l => rw [hp, List.length_cons] at q1; omega
theorem qinv_new : qinv s (i + 1) (n + 1) [] := by
 have q := q_split hx e h;have q2 := q_at hx e h;rw [split_pcs] at q2;refine ⟨fun _ h => absurd h List.not_mem_nil, Z4, ?_⟩;rw [List.take_add_one, q2.1];show _ = _ ++ [w] ++ _;rw [List.append_assoc];exact q
theorem q_lines : lnW s n = w ∧ n < (Z2j s).length ∧ ¬ (n = (Z2j s).length - 1 ∧ ¬ wholeP s) := by
 have q := q_at hx e h;by_cases hl : lnS s ((Z2e 10 s).length - 1) = []
 ·have el : Z2j s = (Z2e 10 s).take ((Z2e 10 s).length - 1) := by rw [Z2j, if_pos hl]
  have en : (Z2j s).length = (Z2e 10 s).length - 1 := by rw [el, List.length_take]; omega
  refine ⟨?_, Z4, fun k => k.2 ⟨hl, Z4⟩⟩;unfold lnW;rw [el, List.getElem?_take, if_pos Z4, q.1];rfl
 ·have el : Z2j s = Z2e 10 s := by rw [Z2j, if_neg hl]
  rw [el];refine ⟨?_, Z4, Z4⟩;unfold lnW;rw [el, q.1];rfl
theorem good0 (hn : ((n : Nat) : Int) = 0) (ht : w.take 5 = [102, 117, 101, 108, 32]) (hp : numP (w.drop 5)) : ¬ lineBad s n := by
 obtain ⟨q1, q2, q3⟩ := q_lines hx e h;have hpre : [102, 117, 101, 108, 32] <+: w := List.prefix_iff_eq_take.2 ht.symm;rintro (k | ⟨_, k⟩ | ⟨k, _⟩)
 ·exact q3 k
 ·rw [q1] at k;exact k ⟨hpre, by rw [cutR, if_pos hpre]; exact hp⟩
 ·omega
theorem fu_0 (hn : ((n : Nat) : Int) = 0) (ht : w.take 5 = [102, 117, 101, 108, 32]) (hp : numP (w.drop 5)) : rnN (w.drop 5) = pFuI s (n + 1) := by
 obtain ⟨q1, q2, q3⟩ := q_lines hx e h;have hpre : [102, 117, 101, 108, 32] <+: w := List.prefix_iff_eq_take.2 ht.symm;obtain rfl : n = 0 := Z4
 rw [pFuI, if_neg Z4, q1, cutR, if_pos hpre, rn_t hp];rfl
theorem bad0 (hn : ((n : Nat) : Int) = 0) (k : ¬ ((w.length : Nat) : Int) > 5 ∨ ¬ w.take 5 = [102, 117, 101, 108, 32] ∨ ¬ numP (w.drop 5)) : n < (Z2j s).length ∧ lineBad s n ∧ (0 : Int) = ((n : Nat) : Int) := by
 obtain ⟨q1, q2, q3⟩ := q_lines hx e h;refine ⟨q2, .inr (.inl ⟨Z4, ?_⟩), Z4⟩;rw [q1];rintro ⟨m1, m2⟩;rw [cutR, if_pos m1] at m2;have m2 : numP (w.drop 5) := m2;rcases k with k | k | k
 ·have := (num_len m2).1;rw [List.length_drop] at this;omega
 ·exact k (List.prefix_iff_eq_take.1 m1).symm
 ·exact k m2
theorem goodk (hn : ¬ ((n : Nat) : Int) = 0) (hc : codeP w) : ¬ lineBad s n := by
 obtain ⟨q1, q2, q3⟩ := q_lines hx e h;rintro (k | ⟨k, _⟩ | ⟨_, k⟩)
 ·exact q3 k
 ·omega
 ·rw [q1] at k; exact k hc
theorem badk (hn : ¬ ((n : Nat) : Int) = 0) (hc : ¬ codeP w) : n < (Z2j s).length ∧ lineBad s n ∧ ((n : Nat) : Int) = ((n : Nat) : Int) := by
 obtain ⟨q1, q2, q3⟩ := q_lines hx e h;exact ⟨q2, .inr (.inr ⟨Z4, by rw [q1]; exact hc⟩), rfl⟩
theorem co_2 {l : List Code} {c : Code} (hn : ¬ ((n : Nat) : Int) = 0) (el : l = coI s n) (hc : c = cV w) : l ++ [c] = coI s (n + 1) :=
 co_1 Z4 el (by rw [(q_lines hx e h).1]; exact hc)
end
theorem q_end {s w : List UInt8} {i n : Nat} (h : qinv s i n w) (hi : ¬ i < s.length) : (Z2e 10 s).length = n + 1 ∧ lnS s n = w := by
 have q := h.2.2;rw [List.drop_of_length_le Z4, List.append_nil, pcs_no h.1] at q;have hl : ((pcs 10 s).take n).length = n := by rw [List.length_take]; have := h.2.1; omega
 rw [lnS, split_pcs];constructor
 ·rw [q, List.length_append, hl]; rfl
 ·rw [q, List.getElem?_append_right Z4, hl, Nat.sub_self];rfl
noncomputable def rparseV (s : List UInt8) : Value :=
 if tf (formP s) = true then (if tf (checkP (pFu s) (pCo s)) = true then .tuple #[.agg #[.int .i64 (pFu s), inlL Z29 6 (pCo s)], .int .i64 (-2), .bool true] else .tuple #[.agg #[.int .i64 0, inlL Z29 6 ([] : List Code)], .int .i64 (checkI (pFu s) (pCo s)), .bool true])
 else .tuple #[.agg #[.int .i64 0, inlL Z29 6 ([] : List Code)], .int .i64 ((pBad s : Nat) : Int), .bool false]
theorem rparseV_clo (s : List UInt8) : clo (rparseV s) = true := by unfold rparseV; split <;> (try split) <;> rfl
theorem rp_bad {s : List UInt8} {i : Nat} {e : Int} (h : NoI (fun i : Nat => lineBad s i) i) (hx : i < (Z2j s).length ∧ lineBad s i ∧ e = ((i : Nat) : Int)) : (.tuple #[.agg #[.int .i64 0, inlL Z29 6 ([] : List Code)], .int .i64 e, .bool false] : Value) = rparseV s := by
 obtain ⟨h1, h2, rfl⟩ := hx;have e : pBad s = i := by
  unfold pBad;rw [List.find?_range_eq_some.2 ⟨tf_true h2, List.mem_range.2 h1, fun j hj => Z22⟩];rfl
 rw [rparseV, tf_false (fun q => q.2 i h1 h2), e];rfl
theorem rp_tail {s w : List UInt8} {i n : Nat} (h : NoI (fun i : Nat => lineBad s i) n) (hq : qinv s i n w) (hi : ¬ i < s.length) (k : ¬ w = [] ∨ ((n : Nat) : Int) = 0) : (.tuple #[.agg #[.int .i64 0, inlL Z29 6 ([] : List Code)], .int .i64 ((n : Nat) : Int), .bool false] : Value) = rparseV s := by
 obtain ⟨q1, q2⟩ := q_end hq hi;have q3 : (Z2e 10 s).length - 1 = n := Z4
 by_cases hw : w = []
 ·obtain rfl : n = 0 := by rcases k with k | k; exact absurd hw k; omega
  have hl : Z2j s = [] := by rw [Z2j, q3, q2, if_pos hw]; rfl
  have hf : ¬ formP s := fun f => f.1 (by rw [hl]; rfl)
  rw [rparseV, tf_false hf, pBad, hl];rfl
 ·have hl : Z2j s = Z2e 10 s := by rw [Z2j, q3, q2, if_neg hw]
  exact rp_bad h ⟨by rw [hl]; omega, .inl ⟨by rw [hl]; omega, fun f => hw (by rw [← q2, ← q3]; exact f.1)⟩, rfl⟩
theorem rp_form {s w : List UInt8} {i n : Nat} (h : NoI (fun i : Nat => lineBad s i) n) (hq : qinv s i n w) (hi : ¬ i < s.length) (hw : w = []) (hn : ¬ ((n : Nat) : Int) = 0) : formP s ∧ (Z2j s).length = n := by
 obtain ⟨q1, q2⟩ := q_end hq hi;have q3 : (Z2e 10 s).length - 1 = n := Z4
 have hl : (Z2j s).length = n := by rw [Z2j, q3, q2, if_pos hw, List.length_take]; omega
 exact ⟨⟨Z4, fun j hj => h j Z4⟩, hl⟩
section
variable {s w : List UInt8} {i n : Nat} {fu : Int} {l : List Code} (h : NoI (fun i : Nat => lineBad s i) n) (hq : qinv s i n w) (hi : ¬ i < s.length) (hw : w = []) (hn : ¬ ((n : Nat) : Int) = 0) (e1 : fu = pFuI s n) (e2 : l = coI s n)
include h hq hi hw hn e1 e2
theorem rp_chk (q : ¬ checkP fu l) : (.tuple #[.agg #[.int .i64 0, inlL Z29 6 ([] : List Code)], .int .i64 (checkI fu l), .bool true] : Value) = rparseV s := by
 obtain ⟨hf, hl⟩ := rp_form h hq hi hw hn;subst e1 e2;rw [← hl] at q ⊢;have q : ¬ checkP (pFu s) (pCo s) := q;rw [rparseV, tf_true hf, if_pos rfl, tf_false q];rfl
theorem rp_ok (q : checkP fu l) : (.tuple #[.agg #[.int .i64 fu, inlL Z29 6 l], .int .i64 (-2), .bool true] : Value) = rparseV s := by
 obtain ⟨hf, hl⟩ := rp_form h hq hi hw hn;subst e1 e2;rw [← hl] at q ⊢;have q : checkP (pFu s) (pCo s) := q;rw [rparseV, tf_true hf, if_pos rfl, tf_true q, if_pos rfl];rfl
end
theorem rparse_fn : Tryz.cfg.fn 6 = some Tryz.f6 := Z3
theorem rparse_sc (tx : List UInt8) (h0 : tx.length ≤ 100000) : SC Tryz.prog 135000004004000 6 [.string (bstr tx)] (St.empty 0) fun v s' => v = rparseV tx ∧ s'.n ≤ 400 := by
 obtain ⟨rc, hS, hC⟩ := rc_con (Z2q Tryz.cfgOk 300) [con_rnumber, con_rcode, con_rcheck] Z3;have hC16 := hC con_rnumber (.head _);have hC17 := hC con_rcode (.tail _ (.head _));have hC18 := hC con_rcheck (.tail _ (.tail _ (.head _)));refine sc_ice0 (N := 400) (v2 := rparseV tx) (Q := fun v s' => FS 0 s' v (rparseV tx) ∧ s'.n ≤ 400) ?_ (fun _ _ h => h);refine sc_body Tryz.cfgOk rparse_fn rfl ?_;refine Z28 ?_;refine kK Tryz.cfgOk hS ?_;refine Z28 ?_;refine kK Tryz.cfgOk hS ?_;refine Z28 ?_;refine sk_live 86 [(0, .string (bstr tx)), (2, .pointer (some ⟨0, 0, none⟩)), (5, .pointer (some ⟨1, 0, none⟩))] Z3 ⟨Z3, Z3, Z3, trivial⟩ fun m1 => ?_
 refine sk_st (((St.empty 0).new (.cells [.int .i64 0, .slice none 0 0])).new (.cells [.int .i64 0, .slice none 0 0])) Z3 ?_;refine virt_cell 5 1 0 6 [.int .i64 0] [] Zj (((Z2d 0).new _).new _) Z3 Z3 Zj ?_;refine sk_st ((((St.empty 0).new (.cells [.int .i64 0, .slice none 0 0])).new (.cells [.int .i64 0, slL 2 6 (([] : List Code).length)])).new (rowL Z29 ([] : List Code))) Z3 ?_;refine kK Tryz.cfgOk hS ?_;refine Z28 ?_;refine kK Tryz.cfgOk hS ?_;refine Z28 (Z28 ?_);refine kK Tryz.cfgOk hS ?_;refine Z2s ?_;refine sk_live 86 ((fun a : Nat × (List UInt8) × Nat × Int × (List Code) => [(0, .string (bstr tx)), (2, .pointer (some ⟨0, 0, none⟩)), (5, .pointer (some ⟨1, 0, none⟩)), (6, .string (bstr a.2.1)), (7, .int .i64 ((a.2.2.1 : Nat) : Int)), (8, .int .i64 ((a.1 : Nat) : Int))]) (0, ([] : List UInt8), 0, 0, ([] : List Code))) Z3 ⟨Z3, Z3, Z3, Z3, Z3, Z3, trivial⟩ fun m2 => ?_
 refine sk_st ((fun a : Nat × (List UInt8) × Nat × Int × (List Code) => ((((St.empty 0).new (.cells [.int .i64 0, .slice none 0 0])).new (.cells [.int .i64 a.2.2.2.1, slL 2 6 a.2.2.2.2.length])).new (rowL Z29 a.2.2.2.2))) (0, ([] : List UInt8), 0, 0, ([] : List Code))) Z3 ?_;refine (sk_while (k := 3) (N := 400) (live := (fun a : Nat × (List UInt8) × Nat × Int × (List Code) => [(0, .string (bstr tx)), (2, .pointer (some ⟨0, 0, none⟩)), (5, .pointer (some ⟨1, 0, none⟩)), (6, .string (bstr a.2.1)), (7, .int .i64 ((a.2.2.1 : Nat) : Int)), (8, .int .i64 ((a.1 : Nat) : Int))])) (M := (fun a : Nat × (List UInt8) × Nat × Int × (List Code) => ((((St.empty 0).new (.cells [.int .i64 0, .slice none 0 0])).new (.cells [.int .i64 a.2.2.2.1, slL 2 6 a.2.2.2.2.length])).new (rowL Z29 a.2.2.2.2)))) (fun a : Nat × (List UInt8) × Nat × Int × (List Code) => (a.1 ≤ tx.length) ∧ (qinv tx a.1 a.2.2.1 a.2.1) ∧ (NoI (fun z : Nat => lineBad tx z) a.2.2.1) ∧ (a.2.2.2.1 = pFuI tx a.2.2.1) ∧ (a.2.2.2.2 = coI tx a.2.2.1) ∧ (a.2.1.length ≤ a.1) ∧ (a.2.2.1 ≤ a.1)) (fun a : Nat × (List UInt8) × Nat × Int × (List Code) => tx.length - a.1) (fun (a : Nat × (List UInt8) × Nat × Int × (List Code)) (o : Out) (lv : List (Nat × Value)) (M : St) => (o = .exit 0 ∧ (¬ a.1 < tx.length) ∧ lv = [(0, .string (bstr tx)), (2, .pointer (some ⟨0, 0, none⟩)), (5, .pointer (some ⟨1, 0, none⟩)), (6, .string (bstr a.2.1)), (7, .int .i64 ((a.2.2.1 : Nat) : Int)), (8, .int .i64 ((a.1 : Nat) : Int))] ∧ M = ((((St.empty 0).new (.cells [.int .i64 0, .slice none 0 0])).new (.cells [.int .i64 a.2.2.2.1, slL 2 6 a.2.2.2.2.length])).new (rowL Z29 a.2.2.2.2))) ∨ (o = .ret ∧ ∃ e : Int, (a.2.2.1 < (Z2j tx).length ∧ lineBad tx a.2.2.1 ∧ e = ((a.2.2.1 : Nat) : Int)) ∧ lv = [(2, .pointer (some ⟨0, 0, none⟩)), (3, .int .i64 e), (4, .bool false)] ∧ M = ((((St.empty 0).new (.cells [.int .i64 0, .slice none 0 0])).new (.cells [.int .i64 a.2.2.2.1, slL 2 6 a.2.2.2.2.length])).new (rowL Z29 a.2.2.2.2)))) (Nat.zero_le _) (fun a ha => ?_) (fun a ha => ?_) (fun a m ha => ?_) (fun a m ha => ?_) (0, ([] : List UInt8), 0, 0, ([] : List Code)) m2 ?_).up ?_
 ·exact ⟨Z3, ((((Z2d 0).new _).new _).new _), (selfs (all_cons (o := .cells [.int .i64 0, .slice none 0 0]) Z3 (OSub.cells (.cons (sub_clo rfl) (.cons (sub_clo rfl) .nil))) (all_cons (o := .cells [.int .i64 a.2.2.2.1, slL 2 6 a.2.2.2.2.length]) Z3 (OSub.cells (.cons (sub_clo rfl) (.cons (.slice ⟨Zj, rfl⟩) .nil))) (all_cons (o := rowL Z29 a.2.2.2.2) Z3 (OSub.arr (subs_clo (Z2o Z2i))) (Z2g)))))⟩
 ·exact ⟨sub_clo rfl, .ptr ⟨Zj, rfl⟩, .ptr ⟨Zj, rfl⟩, sub_clo rfl, sub_clo rfl, sub_clo rfl, trivial⟩
 ·exact ⟨Z3, Z3, Z3, Z3, Z3, Z3, trivial⟩
 ·obtain ⟨i, ln, n, fu, l⟩ := a;obtain ⟨i0, i1, i2, i3, i4, i5, i6⟩ := ha;dsimp only at i0 i1 i2 i3 i4 i5 i6;refine Z28 (Z28 ?_);refine Z27 Tryz.cfgOk hS ?_;refine aK 3 ?_;refine aT (fun h3 => ?_) (fun h3 => ?_)
  ·have c4e : (decide ((((i : Nat) : Int) : Int) < ((tx.length : Nat) : Int))) = true := Eq.trans Z3 h3;clear h3;have c4 : (((i : Nat) : Int) : Int) < ((tx.length : Nat) : Int) := of_decide_eq_true c4e;clear c4e;refine Z2f ?_;refine kT ?_;refine Z2c (Z28 (Z2s (Z28 (Z28 ?_))));have hx5l : i < tx.length := by omega
   refine Exists.elim (get_ex hx5l) fun x5 hx5 => ?_
   clear hx5l;refine Z27 Tryz.cfgOk hS ?_;refine aK 2 ?_;refine aM (indexV Tryz.cfg 9 (.string (bstr tx)) (.int .i64 ((i : Nat) : Int))) (.int .u8 ((x5.toNat : Nat) : Int)) (Z2k Z3 hx5) ?_;refine aT (fun h6 => ?_) (fun h6 => ?_)
   ·have c7e : ((((x5.toNat : Nat) : Int) : Int) != 10) = true := Eq.trans Z3 h6;clear h6;have c7 : ¬ (((x5.toNat : Nat) : Int) : Int) = 10 := bne_iff_ne.1 c7e;clear c7e;refine Z2f ?_;refine kT ?_;refine Z28 ?_;refine Z27 Tryz.cfgOk hS ?_;refine aK 4 ?_;refine aE (v := .int .i64 (IntKind.wrap .i64 (((i : Nat) : Int) + 1))) (.int .i64 ((i + 1 : Nat) : Int)) (congrArg (Value.int .i64) (Z2t Z4 Z4)) ?_;refine aM (sliceV Tryz.cfg 9 (.string (bstr tx)) (some (.int .i64 ((i : Nat) : Int))) (some (.int .i64 ((i + 1 : Nat) : Int))) none) (.string (bstr [x5])) (slice_strOne Z3 hx5) ?_;refine aM (strBin .add (bstr ln) (bstr [x5])) (.string (bstr (ln ++ [x5]))) (add_bstr (by simp only [List.length_cons, List.length_nil]; omega)) ?_;refine aN ?_;refine sk_exit ?_;dsimp only;try rw [if_pos rfl]
    refine Z27 Tryz.cfgOk hS ?_;refine aK 1 ?_;refine aE (v := .int .i64 (IntKind.wrap .i64 (((i : Nat) : Int) + 1))) (.int .i64 ((i + 1 : Nat) : Int)) (congrArg (Value.int .i64) (Z2t Z4 Z4)) ?_;refine aN ?_;refine .inl ⟨(i + 1, (ln ++ [x5]), n, fu, l), rfl, ⟨?_, ?_, ?_, ?_, ?_, ?_, ?_⟩, ?_, ⟨Z3, ⟨Z3, Z3, Z3, Z3, Z3, Z3, trivial⟩, ⟨sub_clo rfl, .ptr ⟨Zj, rfl⟩, .ptr ⟨Zj, rfl⟩, sub_clo rfl, sub_clo rfl, sub_clo rfl, trivial⟩, Zle, ⟨Z3, ((((Z2d 0).new _).new _).new _), (selfs (all_cons (o := .cells [.int .i64 0, .slice none 0 0]) Z3 (OSub.cells (.cons (sub_clo rfl) (.cons (sub_clo rfl) .nil))) (all_cons (o := .cells [.int .i64 fu, slL 2 6 l.length]) Z3 (OSub.cells (.cons (sub_clo rfl) (.cons (.slice ⟨Zj, rfl⟩) .nil))) (all_cons (o := rowL Z29 l) Z3 (OSub.arr (subs_clo (Z2o Z2i))) (Z2g)))))⟩, Z2n Z3⟩⟩
    ·(try dsimp only); omega
    ·(try dsimp only); first | exact qinv_new Z2 Z2 i1 | exact qinv_add Z2 Z2 i1
    ·(try dsimp only); first | assumption | exact NoI.succ (p := fun z : Nat => lineBad tx z) Z2 (good0 Z2 Z2 i1 Z2 Z2 Z2) | exact NoI.succ (p := fun z : Nat => lineBad tx z) Z2 (goodk Z2 Z2 i1 Z2 Z2)
    ·(try dsimp only); first | exact i3 | exact fu_0 Z2 Z2 i1 Z2 Z2 Z2 | exact pfu_1 Z4 Z2
    ·(try dsimp only); first | exact i4 | exact co_0 Z4 Z2 | exact co_2 Z2 Z2 i1 Z2 i4 rfl
    ·(try dsimp only); first | (simp only [List.length_append, List.length_cons, List.length_nil]; omega)
    ·(try dsimp only); omega
    ·omega
   ·have c7e : ((((x5.toNat : Nat) : Int) : Int) != 10) = false := Eq.trans Z3 h6;clear h6;have c7 : (((x5.toNat : Nat) : Int) : Int) = 10 := bne_eq_false_iff_eq.1 c7e;clear c7e;refine Z2f ?_;refine kF ?_;refine Z2c (Z28 (Z28 ?_));refine Z27 Tryz.cfgOk hS ?_;refine aK 1 ?_;refine aT (fun h8 => ?_) (fun h8 => ?_)
    ·have c9e : ((((n : Nat) : Int) : Int) == 0) = true := Eq.trans Z3 h8;clear h8;have c9 : (((n : Nat) : Int) : Int) = 0 := eq_of_beq c9e;clear c9e;refine Z2f ?_;refine kT ?_;refine Z28 ?_;refine kK Tryz.cfgOk hS ?_;refine Z28 ?_;refine Z27 Tryz.cfgOk hS ?_;refine aK 2 ?_;refine aT (fun h10 => ?_) (fun h10 => ?_)
     ·have c11e : (decide ((((ln.length : Nat) : Int) : Int) > 5)) = true := Eq.trans Z3 h10;clear h10;have c11 : (((ln.length : Nat) : Int) : Int) > 5 := of_decide_eq_true c11e;clear c11e;refine aK 2 ?_;refine aM (sliceV Tryz.cfg 9 (.string (bstr ln)) none (some (.int .i64 5)) none) (.string (bstr (ln.take 5))) (slice_strHi (m := 5) Z3 Z4) ?_;refine aT (fun h12 => ?_) (fun h12 => ?_)
      ·have c13e : (((bstr (ln.take 5)).toList == (bstr [102, 117, 101, 108, 32]).toList)) = true := Eq.trans Z3 h12;clear h12;have c13 : ln.take 5 = [102, 117, 101, 108, 32] := bstr_t c13e;clear c13e;refine aN ?_;refine Z28 (Z28 ?_);refine kK Tryz.cfgOk hS ?_;refine kT ?_;refine Z27 Tryz.cfgOk hS ?_;refine aK 1 ?_;refine aM (sliceV Tryz.cfg 9 (.string (bstr ln)) (some (.int .i64 5)) none none) (.string (bstr (ln.drop 5))) (slice_strLo (m := 5) Z3 Z4) ?_;by_cases q14 : numP (ln.drop 5)
       ·
        refine aC 16 [.string (bstr (ln.drop 5))] (.tuple #[.int .i64 (rnN (ln.drop 5)), .bool true]) _ rfl (rc_eq (hC16 _ _ _ _ (con_rnumber_at (ln.drop 5)  _)) (rnumber_t q14)) ?_;refine aN ?_;refine Z28 (Z28 ?_);refine kK Tryz.cfgOk hS ?_;refine kF ?_;refine Z2c ?_;refine kK Tryz.cfgOk hS ?_;refine Z28 ?_;refine Z27 Tryz.cfgOk hS ?_;refine aK 1 ?_;refine aE (v := .int .i64 (IntKind.wrap .i64 (((n : Nat) : Int) + 1))) (.int .i64 ((n + 1 : Nat) : Int)) (congrArg (Value.int .i64) (Z2t Z4 Z4)) ?_;refine aN ?_;refine kK Tryz.cfgOk hS ?_;refine Z27 Tryz.cfgOk hS ?_;refine aK 1 ?_;refine aE (v := .int .i64 (IntKind.wrap .i64 (((i : Nat) : Int) + 1))) (.int .i64 ((i + 1 : Nat) : Int)) (congrArg (Value.int .i64) (Z2t Z4 Z4)) ?_;refine aN ?_;refine .inl ⟨(i + 1, [], n + 1, rnN (ln.drop 5), l), rfl, ⟨?_, ?_, ?_, ?_, ?_, ?_, ?_⟩, ?_, ⟨Z3, ⟨Z3, Z3, Z3, Z3, Z3, Z3, trivial⟩, ⟨sub_clo rfl, .ptr ⟨Zj, rfl⟩, .ptr ⟨Zj, rfl⟩, sub_clo rfl, sub_clo rfl, sub_clo rfl, trivial⟩, Zle, ⟨Z3, ((((Z2d 0).new _).new _).new _), (selfs (all_cons (o := .cells [.int .i64 0, .slice none 0 0]) Z3 (OSub.cells (.cons (sub_clo rfl) (.cons (sub_clo rfl) .nil))) (all_cons (o := .cells [.int .i64 (rnN (ln.drop 5)), slL 2 6 l.length]) Z3 (OSub.cells (.cons (sub_clo rfl) (.cons (.slice ⟨Zj, rfl⟩) .nil))) (all_cons (o := rowL Z29 l) Z3 (OSub.arr (subs_clo (Z2o Z2i))) (Z2g)))))⟩, Z2n Z3⟩⟩
        ·(try dsimp only); omega
        ·(try dsimp only); first | exact qinv_new Z2 Z2 i1 | exact qinv_add Z2 Z2 i1
        ·(try dsimp only); first | assumption | exact NoI.succ (p := fun z : Nat => lineBad tx z) Z2 (good0 Z2 Z2 i1 Z2 Z2 Z2) | exact NoI.succ (p := fun z : Nat => lineBad tx z) Z2 (goodk Z2 Z2 i1 Z2 Z2)
        ·(try dsimp only); first | exact i3 | exact fu_0 Z2 Z2 i1 Z2 Z2 Z2 | exact pfu_1 Z4 Z2
        ·(try dsimp only); first | exact i4 | exact co_0 Z4 Z2 | exact co_2 Z2 Z2 i1 Z2 i4 rfl
        ·(try dsimp only); first | (simp only [List.length_append, List.length_cons, List.length_nil]; omega)
        ·(try dsimp only); omega
        ·omega
       ·
        refine aC 16 [.string (bstr (ln.drop 5))] (.tuple #[.int .i64 (rnN (ln.drop 5)), .bool false]) _ rfl (rc_eq (hC16 _ _ _ _ (con_rnumber_at (ln.drop 5)  _)) (rnumber_f q14)) ?_;refine aN ?_;refine Z28 (Z28 ?_);refine kK Tryz.cfgOk hS ?_;refine kT ?_;refine Z28 ?_;refine kK Tryz.cfgOk hS ?_;refine Z2a ?_;refine .inr ⟨_, _, (fun h => Z02), .inr ⟨rfl, 0, ?_, rfl, rfl⟩, ⟨Z3, ⟨Z3, Z3, Z3, trivial⟩, ⟨.ptr ⟨Zj, rfl⟩, sub_clo rfl, sub_clo rfl, trivial⟩, Zle, ⟨Z3, ((((Z2d 0).new _).new _).new _), (selfs (all_cons (o := .cells [.int .i64 0, .slice none 0 0]) Z3 (OSub.cells (.cons (sub_clo rfl) (.cons (sub_clo rfl) .nil))) (all_cons (o := .cells [.int .i64 fu, slL 2 6 l.length]) Z3 (OSub.cells (.cons (sub_clo rfl) (.cons (.slice ⟨Zj, rfl⟩) .nil))) (all_cons (o := rowL Z29 l) Z3 (OSub.arr (subs_clo (Z2o Z2i))) (Z2g)))))⟩, Z2n Z3⟩⟩
        ·first | exact bad0 Z2 Z2 i1 Z2 (.inl Z2) | exact bad0 Z2 Z2 i1 Z2 (.inr (.inl Z2)) | exact bad0 Z2 Z2 i1 Z2 (.inr (.inr Z2)) | exact badk Z2 Z2 i1 Z2 Z2
      ·have c13e : (((bstr (ln.take 5)).toList == (bstr [102, 117, 101, 108, 32]).toList)) = false := Eq.trans Z3 h12;clear h12;have c13 : ¬ ln.take 5 = [102, 117, 101, 108, 32] := bstr_f c13e;clear c13e;refine aN ?_;refine Z28 (Z28 ?_);refine kK Tryz.cfgOk hS ?_;refine kF ?_;refine Z2c (Z28 (Z28 ?_));refine kK Tryz.cfgOk hS ?_;refine kT ?_;refine Z28 ?_;refine kK Tryz.cfgOk hS ?_;refine Z2a ?_;refine .inr ⟨_, _, (fun h => Z02), .inr ⟨rfl, 0, ?_, rfl, rfl⟩, ⟨Z3, ⟨Z3, Z3, Z3, trivial⟩, ⟨.ptr ⟨Zj, rfl⟩, sub_clo rfl, sub_clo rfl, trivial⟩, Zle, ⟨Z3, ((((Z2d 0).new _).new _).new _), (selfs (all_cons (o := .cells [.int .i64 0, .slice none 0 0]) Z3 (OSub.cells (.cons (sub_clo rfl) (.cons (sub_clo rfl) .nil))) (all_cons (o := .cells [.int .i64 fu, slL 2 6 l.length]) Z3 (OSub.cells (.cons (sub_clo rfl) (.cons (.slice ⟨Zj, rfl⟩) .nil))) (all_cons (o := rowL Z29 l) Z3 (OSub.arr (subs_clo (Z2o Z2i))) (Z2g)))))⟩, Z2n Z3⟩⟩
       ·first | exact bad0 Z2 Z2 i1 Z2 (.inl Z2) | exact bad0 Z2 Z2 i1 Z2 (.inr (.inl Z2)) | exact bad0 Z2 Z2 i1 Z2 (.inr (.inr Z2)) | exact badk Z2 Z2 i1 Z2 Z2
     ·have c11e : (decide ((((ln.length : Nat) : Int) : Int) > 5)) = false := Eq.trans Z3 h10;clear h10;have c11 : ¬ (((ln.length : Nat) : Int) : Int) > 5 := of_decide_eq_false c11e;clear c11e;refine aN ?_;refine Z28 (Z28 ?_);refine kK Tryz.cfgOk hS ?_;refine kF ?_;refine Z2c (Z28 (Z28 ?_));refine kK Tryz.cfgOk hS ?_;refine kT ?_;refine Z28 ?_;refine kK Tryz.cfgOk hS ?_;refine Z2a ?_;refine .inr ⟨_, _, (fun h => Z02), .inr ⟨rfl, 0, ?_, rfl, rfl⟩, ⟨Z3, ⟨Z3, Z3, Z3, trivial⟩, ⟨.ptr ⟨Zj, rfl⟩, sub_clo rfl, sub_clo rfl, trivial⟩, Zle, ⟨Z3, ((((Z2d 0).new _).new _).new _), (selfs (all_cons (o := .cells [.int .i64 0, .slice none 0 0]) Z3 (OSub.cells (.cons (sub_clo rfl) (.cons (sub_clo rfl) .nil))) (all_cons (o := .cells [.int .i64 fu, slL 2 6 l.length]) Z3 (OSub.cells (.cons (sub_clo rfl) (.cons (.slice ⟨Zj, rfl⟩) .nil))) (all_cons (o := rowL Z29 l) Z3 (OSub.arr (subs_clo (Z2o Z2i))) (Z2g)))))⟩, Z2n Z3⟩⟩
      ·first | exact bad0 Z2 Z2 i1 Z2 (.inl Z2) | exact bad0 Z2 Z2 i1 Z2 (.inr (.inl Z2)) | exact bad0 Z2 Z2 i1 Z2 (.inr (.inr Z2)) | exact badk Z2 Z2 i1 Z2 Z2
    ·have c9e : ((((n : Nat) : Int) : Int) == 0) = false := Eq.trans Z3 h8;clear h8;have c9 : ¬ (((n : Nat) : Int) : Int) = 0 := ne_of_beq_false c9e;clear c9e;refine Z2f ?_;refine kF ?_;refine Z28 ?_;refine Z27 Tryz.cfgOk hS ?_;refine aK 1 ?_;by_cases q15 : codeP ln
     ·
      refine aC 17 [.string (bstr ln)] (.tuple #[.agg #[.int .i64 ((cV ln).1), .int .i64 ((cV ln).2.1), .int .i64 ((cV ln).2.2.1), .int .i64 ((cV ln).2.2.2.1), .int .i64 ((cV ln).2.2.2.2.1), .int .i64 ((cV ln).2.2.2.2.2)], .bool true]) _ rfl (rc_eq (hC17 _ _ _ _ (con_rcode_at ln Z0a Z0a _)) (rcode_t q15)) ?_;refine aN ?_;refine Z28 (Z28 ?_);refine kK Tryz.cfgOk hS ?_;refine kF ?_;refine Z2c ?_;refine Z27 Tryz.cfgOk hS ?_;refine aK 4 ?_;refine al_opF (v := slL 2 6 (l ++ [(((cV ln).1), ((cV ln).2.1), ((cV ln).2.2.1), ((cV ln).2.2.2.1), ((cV ln).2.2.2.2.1), ((cV ln).2.2.2.2.2))]).length) (s1 := ((((((St.empty 0).new (.cells [.int .i64 0, .slice none 0 0])).new (.cells [.int .i64 fu, slL 2 6 l.length])).new (rowL Z29 l)).new (.cells [.int .i64 ((cV ln).1), .int .i64 ((cV ln).2.1), .int .i64 ((cV ln).2.2.1), .int .i64 ((cV ln).2.2.2.1), .int .i64 ((cV ln).2.2.2.2.1), .int .i64 ((cV ln).2.2.2.2.2)])).new (.arr [.int .i64 ((cV ln).1), .int .i64 ((cV ln).2.1), .int .i64 ((cV ln).2.2.1), .int .i64 ((cV ln).2.2.2.1), .int .i64 ((cV ln).2.2.2.2.1), .int .i64 ((cV ln).2.2.2.2.2)] 0 false)).set 2 (rowL Z29 (l ++ [(((cV ln).1), ((cV ln).2.1), ((cV ln).2.2.1), ((cV ln).2.2.2.1), ((cV ln).2.2.2.2.1), ((cV ln).2.2.2.2.2))]))) Z3 Z3 (Eq.trans (b := appendV Tryz.cfg ((((((St.empty 0).new (.cells [.int .i64 0, .slice none 0 0])).new (.cells [.int .i64 fu, slL 2 6 l.length])).new (rowL Z29 l)).new (.cells [.int .i64 ((cV ln).1), .int .i64 ((cV ln).2.1), .int .i64 ((cV ln).2.2.1), .int .i64 ((cV ln).2.2.2.1), .int .i64 ((cV ln).2.2.2.2.1), .int .i64 ((cV ln).2.2.2.2.2)])).new (.arr [.int .i64 ((cV ln).1), .int .i64 ((cV ln).2.1), .int .i64 ((cV ln).2.2.1), .int .i64 ((cV ln).2.2.2.1), .int .i64 ((cV ln).2.2.2.2.1), .int .i64 ((cV ln).2.2.2.2.2)] 0 false)) 23 (slL 2 6 l.length) (.slice (some ⟨4, 0, some 6⟩) 1 6)) Z3 (app_rowL (l := l) (l2 := [(((cV ln).1), ((cV ln).2.1), ((cV ln).2.2.1), ((cV ln).2.2.2.1), ((cV ln).2.2.2.2.1), ((cV ln).2.2.2.2.2))]) (bytes := 48) tokC Z3 ccells_len ccells_one Z3 Z3 Z3 (by (have q := congrArg List.length i4; rw [co_len] at q; simp only [List.length_append, List.length_cons, List.length_nil]; omega)))) ?_;refine aN ?_;refine Z28 ?_;refine Z27 Tryz.cfgOk hS ?_;refine aK 1 ?_;refine aE (v := .int .i64 (IntKind.wrap .i64 (((n : Nat) : Int) + 1))) (.int .i64 ((n + 1 : Nat) : Int)) (congrArg (Value.int .i64) (Z2t Z4 Z4)) ?_;refine aN ?_;refine kK Tryz.cfgOk hS ?_;refine Z27 Tryz.cfgOk hS ?_;refine aK 1 ?_;refine aE (v := .int .i64 (IntKind.wrap .i64 (((i : Nat) : Int) + 1))) (.int .i64 ((i + 1 : Nat) : Int)) (congrArg (Value.int .i64) (Z2t Z4 Z4)) ?_;refine aN ?_;refine .inl ⟨(i + 1, [], n + 1, fu, (l ++ [(((cV ln).1), ((cV ln).2.1), ((cV ln).2.2.1), ((cV ln).2.2.2.1), ((cV ln).2.2.2.2.1), ((cV ln).2.2.2.2.2))])), rfl, ⟨?_, ?_, ?_, ?_, ?_, ?_, ?_⟩, ?_, ⟨Z3, ⟨Z3, Z3, Z3, Z3, Z3, Z3, trivial⟩, ⟨sub_clo rfl, .ptr ⟨Zj, rfl⟩, .ptr ⟨Zj, rfl⟩, sub_clo rfl, sub_clo rfl, sub_clo rfl, trivial⟩, Zle, ⟨Z3, ((((Z2d 0).new _).new _).new _), (selfs (all_cons (o := .cells [.int .i64 0, .slice none 0 0]) Z3 (OSub.cells (.cons (sub_clo rfl) (.cons (sub_clo rfl) .nil))) (all_cons (o := .cells [.int .i64 fu, slL 2 6 ((l ++ [(((cV ln).1), ((cV ln).2.1), ((cV ln).2.2.1), ((cV ln).2.2.2.1), ((cV ln).2.2.2.2.1), ((cV ln).2.2.2.2.2))]).length)]) Z3 (OSub.cells (.cons (sub_clo rfl) (.cons (.slice ⟨Zj, rfl⟩) .nil))) (all_cons (o := rowL Z29 (l ++ [(((cV ln).1), ((cV ln).2.1), ((cV ln).2.2.1), ((cV ln).2.2.2.1), ((cV ln).2.2.2.2.1), ((cV ln).2.2.2.2.2))])) Z3 (OSub.arr (subs_clo (Z2o Z2i))) (Z2g)))))⟩, Z2n Z3⟩⟩
      ·(try dsimp only); omega
      ·(try dsimp only); first | exact qinv_new Z2 Z2 i1 | exact qinv_add Z2 Z2 i1
      ·(try dsimp only); first | assumption | exact NoI.succ (p := fun z : Nat => lineBad tx z) Z2 (good0 Z2 Z2 i1 Z2 Z2 Z2) | exact NoI.succ (p := fun z : Nat => lineBad tx z) Z2 (goodk Z2 Z2 i1 Z2 Z2)
      ·(try dsimp only); first | exact i3 | exact fu_0 Z2 Z2 i1 Z2 Z2 Z2 | exact pfu_1 Z4 Z2
      ·(try dsimp only); first | exact i4 | exact co_0 Z4 Z2 | exact co_2 Z2 Z2 i1 Z2 i4 rfl
      ·(try dsimp only); first | (simp only [List.length_append, List.length_cons, List.length_nil]; omega)
      ·(try dsimp only); omega
      ·omega
     ·
      refine aC 17 [.string (bstr ln)] (.tuple #[.agg #[.int .i64 ((rcC ln).1), .int .i64 ((rcC ln).2.1), .int .i64 ((rcC ln).2.2.1), .int .i64 ((rcC ln).2.2.2.1), .int .i64 ((rcC ln).2.2.2.2.1), .int .i64 ((rcC ln).2.2.2.2.2)], .bool false]) _ rfl (rc_eq (hC17 _ _ _ _ (con_rcode_at ln Z0a Z0a _)) (rcode_f q15)) ?_;refine aN ?_;refine Z28 (Z28 ?_);refine kK Tryz.cfgOk hS ?_;refine kT ?_;refine Z28 ?_;refine kK Tryz.cfgOk hS ?_;refine Z2a ?_;refine .inr ⟨_, _, (fun h => Z02), .inr ⟨rfl, ((n : Nat) : Int), ?_, rfl, rfl⟩, ⟨Z3, ⟨Z3, Z3, Z3, trivial⟩, ⟨.ptr ⟨Zj, rfl⟩, sub_clo rfl, sub_clo rfl, trivial⟩, Zle, ⟨Z3, ((((Z2d 0).new _).new _).new _), (selfs (all_cons (o := .cells [.int .i64 0, .slice none 0 0]) Z3 (OSub.cells (.cons (sub_clo rfl) (.cons (sub_clo rfl) .nil))) (all_cons (o := .cells [.int .i64 fu, slL 2 6 l.length]) Z3 (OSub.cells (.cons (sub_clo rfl) (.cons (.slice ⟨Zj, rfl⟩) .nil))) (all_cons (o := rowL Z29 l) Z3 (OSub.arr (subs_clo (Z2o Z2i))) (Z2g)))))⟩, Z2n Z3⟩⟩
      ·first | exact bad0 Z2 Z2 i1 Z2 (.inl Z2) | exact bad0 Z2 Z2 i1 Z2 (.inr (.inl Z2)) | exact bad0 Z2 Z2 i1 Z2 (.inr (.inr Z2)) | exact badk Z2 Z2 i1 Z2 Z2
  ·have c4e : (decide ((((i : Nat) : Int) : Int) < ((tx.length : Nat) : Int))) = false := Eq.trans Z3 h3;clear h3;have c4 : ¬ (((i : Nat) : Int) : Int) < ((tx.length : Nat) : Int) := of_decide_eq_false c4e;clear c4e;refine Z2f ?_;refine kF ?_;refine sk_exit ?_;dsimp only;refine .inr ⟨_, _, (fun h => Z02), .inl ⟨rfl, ?_, rfl, rfl⟩, ⟨Z3, ⟨Z3, Z3, Z3, Z3, Z3, Z3, trivial⟩, ⟨sub_clo rfl, .ptr ⟨Zj, rfl⟩, .ptr ⟨Zj, rfl⟩, sub_clo rfl, sub_clo rfl, sub_clo rfl, trivial⟩, Zle, ⟨Z3, ((((Z2d 0).new _).new _).new _), (selfs (all_cons (o := .cells [.int .i64 0, .slice none 0 0]) Z3 (OSub.cells (.cons (sub_clo rfl) (.cons (sub_clo rfl) .nil))) (all_cons (o := .cells [.int .i64 fu, slL 2 6 l.length]) Z3 (OSub.cells (.cons (sub_clo rfl) (.cons (.slice ⟨Zj, rfl⟩) .nil))) (all_cons (o := rowL Z29 l) Z3 (OSub.arr (subs_clo (Z2o Z2i))) (Z2g)))))⟩, Z2n Z3⟩⟩
   ·omega
 ·exact ⟨Zx, by ((try dsimp only); first | done | (exact qinv_0)), Z0n, Z04, Z04, by ((try dsimp only); first | done | (exact Nat.zero_le _)), Zx⟩
 rintro o e1 s1 ⟨a, lv1, M1, m2, ha, (⟨rfl, hx, rfl, rfl⟩ | ⟨rfl, e, hx, rfl, rfl⟩), rfl, rfl⟩
 ·
  obtain ⟨i, ln, n, fu, l⟩ := a;obtain ⟨i0, i1, i2, i3, i4, i5, i6⟩ := ha;dsimp only at hx i0 i1 i2 i3 i4 i5 i6;dsimp only;try rw [if_pos rfl]
  refine Z28 (Z28 ?_);refine Z27 Tryz.cfgOk hS ?_;refine aK 1 ?_;refine aT (fun h16 => ?_) (fun h16 => ?_)
  ·have c17e : (!((bstr ln).toList == (bstr []).toList)) = true := Eq.trans Z3 h16;clear h16;have c17 : ¬ ln = [] := bstr_f (not_t c17e);clear c17e;refine aN ?_;refine kT ?_;refine Z28 ?_;refine kK Tryz.cfgOk hS ?_;refine Z2a ?_;exact ⟨[.agg #[.int .i64 0, .slice none 0 0], .int .i64 ((n : Nat) : Int), .bool false], Z3, fs_to (.tuple (.cons (.agg (.cons (.same (sub_clo rfl)) (.cons (fs_to (fs_nilL (f := Z29) (sz := 6) Zj) (congrArg (inlL Z29 6) (by rfl))) (.nil)))) (.cons (.same (sub_clo rfl)) (.cons (.same (sub_clo rfl)) (.nil))))) (show (.tuple #[.agg #[.int .i64 0, inlL Z29 6 ([] : List Code)], .int .i64 ((n : Nat) : Int), .bool false] : Value) = rparseV tx by first | exact rp_bad Z2 hx | exact rp_tail Z2 i1 hx (.inl Z2) | exact rp_tail Z2 i1 hx (.inr Z2) | exact rp_chk Z2 i1 hx Z2 Z2 i3 i4 Z2 | exact rp_ok Z2 i1 hx Z2 Z2 i3 i4 Z2), Zle⟩
  ·have c17e : (!((bstr ln).toList == (bstr []).toList)) = false := Eq.trans Z3 h16;clear h16;have c17 : ln = [] := bstr_t (not_f c17e);clear c17e;refine aK 2 ?_;refine aT (fun h18 => ?_) (fun h18 => ?_)
   ·have c19e : ((((n : Nat) : Int) : Int) == 0) = true := Eq.trans Z3 h18;clear h18;have c19 : (((n : Nat) : Int) : Int) = 0 := eq_of_beq c19e;clear c19e;refine aN ?_;refine kT ?_;refine Z28 ?_;refine kK Tryz.cfgOk hS ?_;refine Z2a ?_;exact ⟨[.agg #[.int .i64 0, .slice none 0 0], .int .i64 ((n : Nat) : Int), .bool false], Z3, fs_to (.tuple (.cons (.agg (.cons (.same (sub_clo rfl)) (.cons (fs_to (fs_nilL (f := Z29) (sz := 6) Zj) (congrArg (inlL Z29 6) (by rfl))) (.nil)))) (.cons (.same (sub_clo rfl)) (.cons (.same (sub_clo rfl)) (.nil))))) (show (.tuple #[.agg #[.int .i64 0, inlL Z29 6 ([] : List Code)], .int .i64 ((n : Nat) : Int), .bool false] : Value) = rparseV tx by first | exact rp_bad Z2 hx | exact rp_tail Z2 i1 hx (.inl Z2) | exact rp_tail Z2 i1 hx (.inr Z2) | exact rp_chk Z2 i1 hx Z2 Z2 i3 i4 Z2 | exact rp_ok Z2 i1 hx Z2 Z2 i3 i4 Z2), Zle⟩
   ·have c19e : ((((n : Nat) : Int) : Int) == 0) = false := Eq.trans Z3 h18;clear h18;have c19 : ¬ (((n : Nat) : Int) : Int) = 0 := ne_of_beq_false c19e;clear c19e;refine aN ?_;refine kF ?_;refine Z2c (Z28 ?_);refine sk_live 86 [(2, .pointer (some ⟨0, 0, none⟩)), (5, .pointer (some ⟨1, 0, none⟩))] Z3 ⟨Z3, Z3, trivial⟩ fun m20 => ?_
    refine sk_st ((((St.empty 0).new (.cells [.int .i64 0, .slice none 0 0])).new (.cells [.int .i64 fu, slL 2 6 l.length])).new (rowL Z29 l)) Z3 ?_;refine ice_cell Z29 l 2 5 1 0 6 [.int .i64 fu] [] Zj ccells_len Z2i ccells_one ((((Z2d 0).new _).new _).new _) Z3 Z3 Z3 Zj ?_;refine sk_st ((((St.empty 0).new (.cells [.int .i64 0, .slice none 0 0])).new (.cells [.int .i64 fu, inlL Z29 6 l])).new (.arr (flatL Z29 l) 0 true)) Z3 ?_;refine Z27 Tryz.cfgOk hS ?_;refine aK 1 ?_;by_cases q21 : checkP fu l
    ·
     refine aC 18 [.agg #[.int .i64 fu, inlL Z29 6 l]] (.int .i64 (-2)) _ rfl (rc_eq (hC18 _ _ _ _ (con_rcheck_at fu l Z0a _)) (rcheckV_t q21)) ?_;refine aN ?_;refine Z28 (Z28 ?_);refine kK Tryz.cfgOk hS ?_;refine kF ?_;refine Z2c (Z28 ?_);refine kK Tryz.cfgOk hS ?_;refine Z2a ?_;exact ⟨[.agg #[.int .i64 fu, inlL Z29 6 l], .int .i64 (-2), .bool true], Z3, fs_to (.tuple (.cons (.agg (.cons (.same (sub_clo rfl)) (.cons (.same (sub_clo rfl)) (.nil)))) (.cons (.same (sub_clo rfl)) (.cons (.same (sub_clo rfl)) (.nil))))) (show (.tuple #[.agg #[.int .i64 fu, inlL Z29 6 l], .int .i64 (-2), .bool true] : Value) = rparseV tx by first | exact rp_bad Z2 hx | exact rp_tail Z2 i1 hx (.inl Z2) | exact rp_tail Z2 i1 hx (.inr Z2) | exact rp_chk Z2 i1 hx Z2 Z2 i3 i4 Z2 | exact rp_ok Z2 i1 hx Z2 Z2 i3 i4 Z2), Zle⟩
    ·
     refine aC 18 [.agg #[.int .i64 fu, inlL Z29 6 l]] (.int .i64 (checkI fu l)) _ rfl (rc_eq (hC18 _ _ _ _ (con_rcheck_at fu l Z0a _)) (rcheckV_f q21)) ?_;refine aN ?_;refine Z28 (Z28 ?_);refine Z27 Tryz.cfgOk hS ?_;refine aK 1 ?_;refine aT (fun h22 => ?_) (fun h22 => ?_)
     ·have c23e : (((checkI fu l) : Int) != (-2)) = true := Eq.trans Z3 h22;clear h22;have c23 : ¬ ((checkI fu l) : Int) = (-2) := bne_iff_ne.1 c23e;clear c23e;refine Z2f ?_;refine kT ?_;refine Z28 ?_;refine kK Tryz.cfgOk hS ?_;refine Z2a ?_;exact ⟨[.agg #[.int .i64 0, .slice none 0 0], .int .i64 (checkI fu l), .bool true], Z3, fs_to (.tuple (.cons (.agg (.cons (.same (sub_clo rfl)) (.cons (fs_to (fs_nilL (f := Z29) (sz := 6) Zj) (congrArg (inlL Z29 6) (by rfl))) (.nil)))) (.cons (.same (sub_clo rfl)) (.cons (.same (sub_clo rfl)) (.nil))))) (show (.tuple #[.agg #[.int .i64 0, inlL Z29 6 ([] : List Code)], .int .i64 (checkI fu l), .bool true] : Value) = rparseV tx by first | exact rp_bad Z2 hx | exact rp_tail Z2 i1 hx (.inl Z2) | exact rp_tail Z2 i1 hx (.inr Z2) | exact rp_chk Z2 i1 hx Z2 Z2 i3 i4 Z2 | exact rp_ok Z2 i1 hx Z2 Z2 i3 i4 Z2), Zle⟩
     ·have c23e : (((checkI fu l) : Int) != (-2)) = false := Eq.trans Z3 h22;clear h22;have c23 : ((checkI fu l) : Int) = (-2) := bne_eq_false_iff_eq.1 c23e;clear c23e;exact absurd c23 check_ne
 ·
  obtain ⟨i, ln, n, fu, l⟩ := a;obtain ⟨i0, i1, i2, i3, i4, i5, i6⟩ := ha;dsimp only at hx i0 i1 i2 i3 i4 i5 i6;dsimp only;exact ⟨[.agg #[.int .i64 0, .slice none 0 0], .int .i64 e, .bool false], Z3, fs_to (.tuple (.cons (.agg (.cons (.same (sub_clo rfl)) (.cons (fs_to (fs_nilL (f := Z29) (sz := 6) Zj) (congrArg (inlL Z29 6) (by rfl))) (.nil)))) (.cons (.same (sub_clo rfl)) (.cons (.same (sub_clo rfl)) (.nil))))) (show (.tuple #[.agg #[.int .i64 0, inlL Z29 6 ([] : List Code)], .int .i64 e, .bool false] : Value) = rparseV tx by first | exact rp_bad Z2 hx | exact rp_tail Z2 i1 hx (.inl Z2) | exact rp_tail Z2 i1 hx (.inr Z2) | exact rp_chk Z2 i1 hx Z2 Z2 i3 i4 Z2 | exact rp_ok Z2 i1 hx Z2 Z2 i3 i4 Z2), Zle⟩
noncomputable def con_rparse : Con Tryz.prog 135000004004000 := Con.pure (α := (List UInt8)) 6 (fun z9 => [.string (bstr z9)]) (fun z9 => rparseV z9) (fun z9 => (z9.length ≤ 100000)) (by
 intro x y h
 simp only [injA, bstr_iff] at h
 first | exact h | (simp only [Prod.ext_iff, h, and_self, and_true, true_and]; done) | simp_all [Prod.ext_iff]) (fun _ => rfl) (fun z9 => rparseV_clo z9) 400 (by
 rintro x p0
 exact rparse_sc x p0)
theorem con_rparse_at (tx : List UInt8) (h0 : tx.length ≤ 100000) (s : St) : con_rparse.rel [.string (bstr tx)] s (rparseV tx) s := con_pure tx h0 s
end Go.Proofs.YtgplkbfjlidinabGreatDoor