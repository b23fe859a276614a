/- AsmParses: the walk of the law. -/
import Derived.Test.YtgplkbfjlidinabGreatDoorRParse
import Derived.Test.YtgplkbfjlidinabGreatDoorAiCon
import Derived.Test.YtgplkbfjlidinabGreatDoorKit
set_option linter.unusedVariables false
set_option linter.unusedSimpArgs false
set_option linter.unnecessarySimpa false
set_option maxHeartbeats 4000000
set_option maxRecDepth 100000
namespace Go.Proofs.YtgplkbfjlidinabGreatDoor
open Go.Ai
theorem form_whole {s : List UInt8} (h : formP s) : wholeP s := Classical.byContradiction fun q => h.2 ((Z2j s).length - 1) Z1p (.inl ⟨rfl, q⟩)
theorem pfu_in (s : List UInt8) : in64 (pFu s) := by
 unfold pFu pFuI;split
 ·unfold in64; omega
 ·exact atN_in _
theorem pco_in (s : List UInt8) : ∀ c ∈ pCo s, inC c := by
 intro c hc;obtain ⟨k, _, rfl⟩ := List.mem_map.1 hc;exact cV_in _
theorem pco_len (s : List UInt8) : (pCo s).length ≤ s.length := by
 have := lines_many s;have q : (pCo s).length = (Z2j s).length - 1 := co_len;omega
theorem print_back {s : List UInt8} (h : formP s) : printR (pFu s) (pCo s) = s := by
  have hw := form_whole h;have el : Z2j s = (Z2e 10 s).take ((Z2e 10 s).length - 1) := by rw [Z2j, if_pos hw.1]
  have en : (Z2j s).length = (Z2e 10 s).length - 1 := by rw [el, List.length_take]; omega
  have at_ : ∀ i, i < (Z2j s).length → (Z2e 10 s)[i]? = some (lnW s i) := fun i hi => by
    have q := lnW_at hi;rw [el, List.getElem?_take, if_pos Z4] at q;exact q
  refine un_inj (b := 10) ?_;rw [split_print];refine List.ext_getElem? fun i => ?_
  cases i with
  | zero =>
    rw [at_ 0 Z1p];have hm : markP [102, 117, 101, 108, 32] (lnW s 0) := Classical.byContradiction fun q => h.2 0 Z1p (.inr (.inl ⟨rfl, q⟩))
    obtain ⟨⟨r, hr⟩, hn⟩ := hm;rw [pFu, pFuI, if_neg h.1, (num_ok hn).2, ← hr, cut_pre];rfl
  | succ k =>
    have hco : (pCo s).length = (Z2j s).length - 1 := co_len;rw [List.getElem?_cons_succ];by_cases hk : k < (pCo s).length
    · rw [List.getElem?_append_left (by simpa using hk), at_ (k + 1) Z4, List.getElem?_map]
      have e : (pCo s)[k]? = some (cV (lnW s (k + 1))) := by
        rw [pCo, coI, List.getElem?_map, List.getElem?_range Z4];rfl
      have hc : codeP (lnW s (k + 1)) := Classical.byContradiction fun q => h.2 (k + 1) Z4 (.inr (.inr ⟨Z4, q⟩))
      rw [e];exact congrArg some (line_code hc)
    · by_cases hk2 : k = (pCo s).length
      · rw [List.getElem?_append_right Z0d]
        have e : (Z2e 10 s)[k + 1]? = some (lnS s (k + 1)) := lnS_at Z1p;have e2 : k + 1 = (Z2e 10 s).length - 1 := Z1p
        rw [e, e2, hw.1, hk2];simp
      · rw [List.getElem?_eq_none Z0d, List.getElem?_eq_none Z1p]
theorem pf_1 {s : List UInt8} (h : ¬ formP s) : parseV s = .tuple #[.agg #[.int .i64 0, inlL Z29 6 ([] : List Code)], faultV ((pBad s : Nat) : Int) 2] := by rw [parseV, tf_false h]; rfl
theorem pf_2 {s : List UInt8} (h : formP s ∧ ¬ checkP (pFu s) (pCo s)) : parseV s = .tuple #[.agg #[.int .i64 0, inlL Z29 6 ([] : List Code)], faultV (checkI (pFu s) (pCo s)) 5] := by rw [parseV, tf_true h.1, if_pos rfl, tf_false h.2]; rfl
theorem rpf_1 {s : List UInt8} (h : ¬ formP s) : rparseV s = .tuple #[.agg #[.int .i64 0, inlL Z29 6 ([] : List Code)], .int .i64 ((pBad s : Nat) : Int), .bool false] := by rw [rparseV, tf_false h]; rfl
theorem rpf_2 {s : List UInt8} (h : formP s ∧ ¬ checkP (pFu s) (pCo s)) : rparseV s = .tuple #[.agg #[.int .i64 0, inlL Z29 6 ([] : List Code)], .int .i64 (checkI (pFu s) (pCo s)), .bool true] := by rw [rparseV, tf_true h.1, if_pos rfl, tf_false h.2]; rfl
theorem rpf_3 {s : List UInt8} (h : formP s ∧ checkP (pFu s) (pCo s)) : rparseV s = .tuple #[.agg #[.int .i64 (pFu s), inlL Z29 6 (pCo s)], .int .i64 (-2), .bool true] := by rw [rparseV, tf_true h.1, if_pos rfl, tf_true h.2]; rfl
noncomputable def con_alive : Con Tryz.prog 135000004004000 := Con.pure (α := Unit) 4 (fun z9 => []) (fun z9 => .bool true) (fun z9 => True) (by
 intro x y _; rfl) (fun _ => rfl) (fun _ => rfl) 400 (by
 intro x hp; exact alive_sc)
theorem con_alive_at   (s : St) : con_alive.rel [] s (.bool true) s := con_pure () trivial s
theorem nprogs_fn : Tryz.cfg.fn 7 = some Tryz.f7 := Z3
theorem nprogs_sc (fu : Int) (co : List Code) (fv : Int) (cp : List Code) (h0 : co.length ≤ 1000000) (h1 : cp.length ≤ 1000000) : SC Tryz.prog 135000004004000 7 [.agg #[.int .i64 fu, inlL Z29 6 co], .agg #[.int .i64 fv, inlL Z29 6 cp]] (St.empty 0) fun v s' => v = .bool (decide (fu = fv ∧ co = cp)) ∧ s'.n ≤ 400 := by
 have hS := Z2q Tryz.cfgOk 300;refine sc_ice0 (N := 400) (v2 := .bool (decide (fu = fv ∧ co = cp))) (Q := fun v s' => FS 0 s' v (.bool (decide (fu = fv ∧ co = cp))) ∧ s'.n ≤ 400) ?_ (fun _ _ h => h);refine sc_body Tryz.cfgOk nprogs_fn rfl ?_;refine Z28 ?_;refine kK Tryz.cfgOk hS ?_;refine Z28 (Z28 ?_);refine Z27 Tryz.cfgOk hS ?_;refine aK 4 ?_;refine aT (fun h1 => ?_) (fun h1 => ?_)
 ·have c2e : ((fu : Int) != fv) = true := Eq.trans Z3 h1;clear h1;have c2 : ¬ (fu : Int) = fv := bne_iff_ne.1 c2e;clear c2e;refine aN ?_;refine kT ?_;refine Z28 ?_;refine kK Tryz.cfgOk hS ?_;refine Z2a ?_;exact ⟨[.bool false], Z3, fs_to (Z2b rfl) (congrArg Value.bool Zt), Zle⟩
 ·have c2e : ((fu : Int) != fv) = false := Eq.trans Z3 h1;clear h1;have c2 : (fu : Int) = fv := bne_eq_false_iff_eq.1 c2e;clear c2e;refine aK 3 ?_;refine aM (lenB Tryz.cfg (St.empty 0) 23 (inlL Z29 6 co)) (.int .i64 ((co.length : Nat) : Int)) (len_inl tokC Z3) ?_;refine aK 2 ?_;refine aM (lenB Tryz.cfg (St.empty 0) 23 (inlL Z29 6 cp)) (.int .i64 ((cp.length : Nat) : Int)) (len_inl tokC Z3) ?_;refine aT (fun h3 => ?_) (fun h3 => ?_)
  ·have c4e : ((((co.length : Nat) : Int) : Int) != ((cp.length : Nat) : Int)) = true := Eq.trans Z3 h3;clear h3;have c4 : ¬ (((co.length : Nat) : Int) : Int) = ((cp.length : Nat) : Int) := bne_iff_ne.1 c4e;clear c4e;refine aN ?_;refine kT ?_;refine Z28 ?_;refine kK Tryz.cfgOk hS ?_;refine Z2a ?_;exact ⟨[.bool false], Z3, fs_to (Z2b rfl) (congrArg Value.bool Zt), Zle⟩
  ·have c4e : ((((co.length : Nat) : Int) : Int) != ((cp.length : Nat) : Int)) = false := Eq.trans Z3 h3;clear h3;have c4 : (((co.length : Nat) : Int) : Int) = ((cp.length : Nat) : Int) := bne_eq_false_iff_eq.1 c4e;clear c4e;refine aN ?_;refine kF ?_;refine Z2c (Z28 (Z28 ?_));refine Z27 Tryz.cfgOk hS ?_;refine aK 2 ?_;refine aM (lenB Tryz.cfg (St.empty 0) 23 (inlL Z29 6 co)) (.int .i64 ((co.length : Nat) : Int)) (len_inl tokC Z3) ?_;refine aN ?_;refine Z2s ?_;refine sk_live 38 ((fun a : Nat => [(2, .pointer (some ⟨0, 0, none⟩)), (3, .pointer (some ⟨1, 0, none⟩)), (22, .int .i64 ((co.length : Nat) : Int)), (23, .int .i64 ((a : Nat) : Int))]) 0) Z3 ⟨Z3, Z3, Z3, Z3, trivial⟩ fun m5 => ?_
   refine sk_st ((fun a : Nat => (((St.empty 0).new (.cells [.int .i64 fu, inlL Z29 6 co])).new (.cells [.int .i64 fv, inlL Z29 6 cp]))) 0) Z3 ?_;refine (sk_while (k := 2) (N := 400) (live := (fun a : Nat => [(2, .pointer (some ⟨0, 0, none⟩)), (3, .pointer (some ⟨1, 0, none⟩)), (22, .int .i64 ((co.length : Nat) : Int)), (23, .int .i64 ((a : Nat) : Int))])) (M := (fun a : Nat => (((St.empty 0).new (.cells [.int .i64 fu, inlL Z29 6 co])).new (.cells [.int .i64 fv, inlL Z29 6 cp])))) (fun a : Nat => (a ≤ co.length) ∧ (co.take a = cp.take a)) (fun a : Nat => co.length - a) (fun (a : Nat) (o : Out) (lv : List (Nat × Value)) (M : St) => (o = .exit 0 ∧ (¬ a < co.length) ∧ lv = [(2, .pointer (some ⟨0, 0, none⟩)), (3, .pointer (some ⟨1, 0, none⟩)), (22, .int .i64 ((co.length : Nat) : Int)), (23, .int .i64 ((a : Nat) : Int))] ∧ M = (((St.empty 0).new (.cells [.int .i64 fu, inlL Z29 6 co])).new (.cells [.int .i64 fv, inlL Z29 6 cp]))) ∨ (o = .ret ∧ (¬ co = cp) ∧ lv = [(4, .bool false)] ∧ M = (((St.empty 0).new (.cells [.int .i64 fu, inlL Z29 6 co])).new (.cells [.int .i64 fv, inlL Z29 6 cp])))) (Nat.zero_le _) (fun a ha => ?_) (fun a ha => ?_) (fun a m ha => ?_) (fun a m ha => ?_) 0 m5 ?_).up ?_
   ·exact ⟨Z3, (((Z2d 0).new _).new _), (selfs (all_cons (o := .cells [.int .i64 fu, inlL Z29 6 co]) Z3 (OSub.cells (.cons (sub_clo rfl) (.cons (sub_clo rfl) .nil))) (all_cons (o := .cells [.int .i64 fv, inlL Z29 6 cp]) Z3 (OSub.cells (.cons (sub_clo rfl) (.cons (sub_clo rfl) .nil))) (Z2g))))⟩
   ·exact ⟨.ptr ⟨Zj, rfl⟩, .ptr ⟨Zj, rfl⟩, sub_clo rfl, sub_clo rfl, trivial⟩
   ·exact ⟨Z3, Z3, Z3, Z3, trivial⟩
   ·obtain ⟨i, ea⟩ : ∃ z, z = a := ⟨_, rfl⟩;subst ea;obtain ⟨i0, i1⟩ := ha;refine Z28 ?_;refine Z27 Tryz.cfgOk hS ?_;refine aT (fun h6 => ?_) (fun h6 => ?_)
    ·have c7e : (decide ((((i : Nat) : Int) : Int) < ((co.length : Nat) : Int))) = true := Eq.trans Z3 h6;clear h6;have c7 : (((i : Nat) : Int) : Int) < ((co.length : Nat) : Int) := of_decide_eq_true c7e;clear c7e;refine Z2f ?_;refine Z28 ?_;refine kT ?_;refine Z2c (Z28 (Z2s (Z28 ?_)));refine kK Tryz.cfgOk hS ?_;refine Z28 ?_;refine sk_drawL Tryz.cfgOk hS ?_;refine dK 3 ?_;refine dM (indexAddrV Tryz.cfg 23 (inlL Z29 6 co) (.int .i64 ((i : Nat) : Int))) (elt (flatL Z29 co) (i * 6)) (idx_inlL tokC Z3 Z13) ?_;have hx8l : i < co.length := by omega
     refine Exists.elim (get_ex hx8l) fun x8 hx8 => ?_
     clear hx8l;refine dM (loadV Tryz.cfg (St.empty 0) 40 (elt (flatL Z29 co) (i * 6))) (.agg #[.int .i64 x8.1, .int .i64 x8.2.1, .int .i64 x8.2.2.1, .int .i64 x8.2.2.2.1, .int .i64 x8.2.2.2.2.1, .int .i64 x8.2.2.2.2.2]) (load_el tokC Z3 ccells_len hx8) ?_;refine dK 3 ?_;refine dM (indexAddrV Tryz.cfg 23 (inlL Z29 6 cp) (.int .i64 ((i : Nat) : Int))) (elt (flatL Z29 cp) (i * 6)) (idx_inlL tokC Z3 Z13) ?_;have hx9l : i < cp.length := Z4
     refine Exists.elim (get_ex hx9l) fun x9 hx9 => ?_
     clear hx9l;refine dM (loadV Tryz.cfg (St.empty 0) 40 (elt (flatL Z29 cp) (i * 6))) (.agg #[.int .i64 x9.1, .int .i64 x9.2.1, .int .i64 x9.2.2.1, .int .i64 x9.2.2.2.1, .int .i64 x9.2.2.2.2.1, .int .i64 x9.2.2.2.2.2]) (load_el tokC Z3 ccells_len hx9) ?_;refine dT (fun h10 => ?_) (fun h10 => ?_)
     ·have c11e : (!((x8.1 == x9.1) && ((x8.2.1 == x9.2.1) && ((x8.2.2.1 == x9.2.2.1) && ((x8.2.2.2.1 == x9.2.2.2.1) && ((x8.2.2.2.2.1 == x9.2.2.2.2.1) && ((x8.2.2.2.2.2 == x9.2.2.2.2.2) && true))))))) = true := Eq.trans Z3 h10;clear h10;have c11 : ¬ (x8.1 = x9.1 ∧ x8.2.1 = x9.2.1 ∧ x8.2.2.1 = x9.2.2.1 ∧ x8.2.2.2.1 = x9.2.2.2.1 ∧ x8.2.2.2.2.1 = x9.2.2.2.2.1 ∧ x8.2.2.2.2.2 = x9.2.2.2.2.2) := fun q => Bool.noConfusion (((not_t c11e)).symm.trans (and_i (beq_iff_eq.2 q.1) (and_i (beq_iff_eq.2 q.2.1) (and_i (beq_iff_eq.2 q.2.2.1) (and_i (beq_iff_eq.2 q.2.2.2.1) (and_i (beq_iff_eq.2 q.2.2.2.2.1) (and_i (beq_iff_eq.2 q.2.2.2.2.2) (rfl))))))))
      clear c11e;refine ald_nil ?_;refine kT ?_;refine Z28 ?_;refine kK Tryz.cfgOk hS ?_;refine Z2a ?_;refine .inr ⟨_, _, (fun h => Z02), .inr ⟨rfl, ?_, rfl, rfl⟩, ⟨Z3, ⟨Z3, trivial⟩, ⟨sub_clo rfl, trivial⟩, Zle, ⟨Z3, (((Z2d 0).new _).new _), (selfs (all_cons (o := .cells [.int .i64 fu, inlL Z29 6 co]) Z3 (OSub.cells (.cons (sub_clo rfl) (.cons (sub_clo rfl) .nil))) (all_cons (o := .cells [.int .i64 fv, inlL Z29 6 cp]) Z3 (OSub.cells (.cons (sub_clo rfl) (.cons (sub_clo rfl) .nil))) (Z2g))))⟩, Z2n Z3⟩⟩
      ·refine ne_at Z2 Z2 (fun e => ?_); subst e; simp_all
     ·have c11e : (!((x8.1 == x9.1) && ((x8.2.1 == x9.2.1) && ((x8.2.2.1 == x9.2.2.1) && ((x8.2.2.2.1 == x9.2.2.2.1) && ((x8.2.2.2.2.1 == x9.2.2.2.2.1) && ((x8.2.2.2.2.2 == x9.2.2.2.2.2) && true))))))) = false := Eq.trans Z3 h10;clear h10;have c11 : x8.1 = x9.1 ∧ x8.2.1 = x9.2.1 ∧ x8.2.2.1 = x9.2.2.1 ∧ x8.2.2.2.1 = x9.2.2.2.1 ∧ x8.2.2.2.2.1 = x9.2.2.2.2.1 ∧ x8.2.2.2.2.2 = x9.2.2.2.2.2 := ⟨eq_of_beq (and_l (not_f c11e)), eq_of_beq (and_l (and_r (not_f c11e))), eq_of_beq (and_l (and_r (and_r (not_f c11e)))), eq_of_beq (and_l (and_r (and_r (and_r (not_f c11e))))), eq_of_beq (and_l (and_r (and_r (and_r (and_r (not_f c11e)))))), eq_of_beq (and_l (and_r (and_r (and_r (and_r (and_r (not_f c11e)))))))⟩;clear c11e;refine ald_nil ?_;refine kF ?_;refine Z2c ?_;refine Z27 Tryz.cfgOk hS ?_;refine aE (v := .int .i64 (IntKind.wrap .i64 (((i : Nat) : Int) + 1))) (.int .i64 ((i + 1 : Nat) : Int)) (congrArg (Value.int .i64) (Z2t Z4 Z4)) ?_;refine aN ?_;refine .inl ⟨i + 1, rfl, ⟨?_, ?_⟩, ?_, ⟨Z3, ⟨Z3, Z3, Z3, Z3, trivial⟩, ⟨.ptr ⟨Zj, rfl⟩, .ptr ⟨Zj, rfl⟩, sub_clo rfl, sub_clo rfl, trivial⟩, Zle, ⟨Z3, (((Z2d 0).new _).new _), (selfs (all_cons (o := .cells [.int .i64 fu, inlL Z29 6 co]) Z3 (OSub.cells (.cons (sub_clo rfl) (.cons (sub_clo rfl) .nil))) (all_cons (o := .cells [.int .i64 fv, inlL Z29 6 cp]) Z3 (OSub.cells (.cons (sub_clo rfl) (.cons (sub_clo rfl) .nil))) (Z2g))))⟩, Z2n Z3⟩⟩
      ·(try dsimp only); omega
      ·(try dsimp only); exact take_eq_succ Z2 Z2 Z2 (by simp only [Prod.ext_iff]; assumption)
      ·omega
    ·have c7e : (decide ((((i : Nat) : Int) : Int) < ((co.length : Nat) : Int))) = false := Eq.trans Z3 h6;clear h6;have c7 : ¬ (((i : Nat) : Int) : Int) < ((co.length : Nat) : Int) := of_decide_eq_false c7e;clear c7e;refine Z2f ?_;refine Z28 ?_;refine kF ?_;refine sk_exit ?_;dsimp only;refine .inr ⟨_, _, (fun h => Z02), .inl ⟨rfl, ?_, rfl, rfl⟩, ⟨Z3, ⟨Z3, Z3, Z3, Z3, trivial⟩, ⟨.ptr ⟨Zj, rfl⟩, .ptr ⟨Zj, rfl⟩, sub_clo rfl, sub_clo rfl, trivial⟩, Zle, ⟨Z3, (((Z2d 0).new _).new _), (selfs (all_cons (o := .cells [.int .i64 fu, inlL Z29 6 co]) Z3 (OSub.cells (.cons (sub_clo rfl) (.cons (sub_clo rfl) .nil))) (all_cons (o := .cells [.int .i64 fv, inlL Z29 6 cp]) Z3 (OSub.cells (.cons (sub_clo rfl) (.cons (sub_clo rfl) .nil))) (Z2g))))⟩, Z2n Z3⟩⟩
     ·omega
   ·exact ⟨Zx, Z04⟩
   rintro o e1 s1 ⟨a, lv1, M1, m5, ha, (⟨rfl, hx, rfl, rfl⟩ | ⟨rfl, hx, rfl, rfl⟩), rfl, rfl⟩
   ·
    obtain ⟨i, ea⟩ : ∃ z, z = a := ⟨_, rfl⟩;subst ea;obtain ⟨i0, i1⟩ := ha;dsimp only;try rw [if_pos rfl]
    refine Z28 ?_;refine kK Tryz.cfgOk hS ?_;refine Z2a ?_;exact ⟨[.bool true], Z3, fs_to (Z2b rfl) (congrArg Value.bool Zt), Zle⟩
   ·
    obtain ⟨i, ea⟩ : ∃ z, z = a := ⟨_, rfl⟩;subst ea;obtain ⟨i0, i1⟩ := ha;dsimp only;exact ⟨[.bool false], Z3, fs_to (Z2b rfl) (congrArg Value.bool Zt), Zle⟩
noncomputable def con_nprogs : Con Tryz.prog 135000004004000 := Con.pure (α := Int × (List Code) × Int × (List Code)) 7 (fun z9 => [.agg #[.int .i64 z9.1, inlL Z29 6 z9.2.1], .agg #[.int .i64 z9.2.2.1, inlL Z29 6 z9.2.2.2]]) (fun z9 => .bool (decide (z9.1 = z9.2.2.1 ∧ z9.2.1 = z9.2.2.2))) (fun z9 => (z9.2.1.length ≤ 1000000) ∧ (z9.2.2.2.length ≤ 1000000)) (by
 rintro ⟨a0, a1, a2, a3⟩ ⟨b0, b1, b2, b3⟩ h
 simp only [injA, ccells_iff] at h
 first | exact h | (simp only [Prod.ext_iff, h, and_self, and_true, true_and]; done) | simp_all [Prod.ext_iff]) (fun _ => rfl) (fun _ => rfl) 400 (by
 rintro ⟨a0, a1, a2, a3⟩ ⟨p0, p1⟩
 exact nprogs_sc a0 a1 a2 a3 p0 p1)
theorem con_nprogs_at (fu : Int) (co : List Code) (fv : Int) (cp : List Code) (h0 : co.length ≤ 1000000) (h1 : cp.length ≤ 1000000) (s : St) : con_nprogs.rel [.agg #[.int .i64 fu, inlL Z29 6 co], .agg #[.int .i64 fv, inlL Z29 6 cp]] s (.bool (decide (fu = fv ∧ co = cp))) s := con_pure (fu, co, fv, cp) ⟨h0, h1⟩ s
theorem printG_sc (fu : Int) (co : List Code) (h0 : checkP fu co) (h1 : in64 fu) (h2 : ∀ c ∈ co, inC c) : SC Tryz.prog 135000004004000 10 [.agg #[.int .i64 fu, inlL Z29 6 co]] (St.empty 0) fun v s' => v = .tuple #[.string (bstr (printR fu co)), .nilIface] ∧ s'.n ≤ 400 := printGood_sc fu co h0 h1 h2
noncomputable def con_printG : Con Tryz.prog 135000004004000 := Con.pure (α := Int × (List Code)) 10 (fun z9 => [.agg #[.int .i64 z9.1, inlL Z29 6 z9.2]]) (fun z9 => .tuple #[.string (bstr (printR z9.1 z9.2)), .nilIface]) (fun z9 => (checkP z9.1 z9.2) ∧ (in64 z9.1) ∧ (∀ c ∈ z9.2, inC c)) (by
 rintro ⟨a0, a1⟩ ⟨b0, b1⟩ h
 simp only [injA, ccells_iff] at h
 first | exact h | (simp only [Prod.ext_iff, h, and_self, and_true, true_and]; done) | simp_all [Prod.ext_iff]) (fun _ => rfl) (fun _ => rfl) 400 (by
 rintro ⟨a0, a1⟩ ⟨p0, p1, p2⟩
 exact printG_sc a0 a1 p0 p1 p2)
theorem con_printG_at (fu : Int) (co : List Code) (h0 : checkP fu co) (h1 : in64 fu) (h2 : ∀ c ∈ co, inC c) (s : St) : con_printG.rel [.agg #[.int .i64 fu, inlL Z29 6 co]] s (.tuple #[.string (bstr (printR fu co)), .nilIface]) s := con_pure (fu, co) ⟨h0, h1, h2⟩ s
theorem lawForm_fn : Tryz.cfg.fn 3 = some Tryz.f3 := Z3
theorem lawForm_sc (tx : List UInt8) (h0 : ¬ formP tx) : SC Tryz.prog 135000004004000 3 [.string (bstr tx)] (St.empty 0) fun v s' => v = .bool true ∧ s'.n ≤ 400 := by
 obtain ⟨rc, hS, hC⟩ := rc_con (Z2q Tryz.cfgOk 300) [con_alive, con_parsew, con_rparse, con_nprogs, con_isF, con_atF, con_printG] Z3;have hC4 := hC con_alive (.head _);have hC5 := hC con_parsew (.tail _ (.head _));have hC6 := hC con_rparse (.tail _ (.tail _ (.head _)));have hC7 := hC con_nprogs (.tail _ (.tail _ (.tail _ (.head _))));have hC8 := hC con_isF (.tail _ (.tail _ (.tail _ (.tail _ (.head _)))));have hC9 := hC con_atF (.tail _ (.tail _ (.tail _ (.tail _ (.tail _ (.head _))))));have hC10 := hC con_printG (.tail _ (.tail _ (.tail _ (.tail _ (.tail _ (.tail _ (.head _)))))));refine sc_ice0 (N := 400) (v2 := .bool true) (Q := fun v s' => FS 0 s' v (.bool true) ∧ s'.n ≤ 400) ?_ (fun _ _ h => h);refine sc_body Tryz.cfgOk lawForm_fn rfl ?_;refine Z28 ?_;refine kK Tryz.cfgOk hS ?_;refine Z28 (Z28 ?_);refine Z27 Tryz.cfgOk hS ?_;refine aC 4 [] (.bool true) _ rfl (hC4 _ _ _ _ (con_alive_at   _)) ?_;refine aN ?_;refine kF ?_;refine Z2c (Z28 (Z28 ?_));refine Z27 Tryz.cfgOk hS ?_;refine aK 2 ?_;refine aT (fun h1 => ?_) (fun h1 => ?_)
 ·have c2e : (decide ((((tx.length : Nat) : Int) : Int) > 2000)) = true := Eq.trans Z3 h1;clear h1;have c2 : (((tx.length : Nat) : Int) : Int) > 2000 := of_decide_eq_true c2e;clear c2e;refine Z2f ?_;refine kT ?_;refine Z28 ?_;refine kK Tryz.cfgOk hS ?_;refine Z2a ?_;exact ⟨[.bool true], Z3, .same (sub_clo rfl), Zle⟩
 ·have c2e : (decide ((((tx.length : Nat) : Int) : Int) > 2000)) = false := Eq.trans Z3 h1;clear h1;have c2 : ¬ (((tx.length : Nat) : Int) : Int) > 2000 := of_decide_eq_false c2e;clear c2e;refine Z2f ?_;refine kF ?_;refine Z2c (Z28 ?_);refine Z27 Tryz.cfgOk hS ?_;refine aK 1 ?_;by_cases q3 : ¬ formP tx
  ·
   refine aC 5 [.string (bstr tx)] (.tuple #[.agg #[.int .i64 0, inlL Z29 6 ([] : List Code)], .iface 52 (elt (flatL Z2r ([(((pBad tx : Nat) : Int), 2)])) (0 * 2))]) _ rfl (rc_eq (hC5 _ _ _ _ (con_parsew_at tx Z8 Z8 Z8 Z8 _)) (pf_1 q3)) ?_;refine aN ?_;refine Z28 ?_;refine Z27 Tryz.cfgOk hS ?_;refine aK 1 ?_;by_cases q4 : ¬ formP tx
   ·
    refine aC 6 [.string (bstr tx)] (.tuple #[.agg #[.int .i64 0, inlL Z29 6 ([] : List Code)], .int .i64 ((pBad tx : Nat) : Int), .bool false]) _ rfl (rc_eq (hC6 _ _ _ _ (con_rparse_at tx Z8 _)) (rpf_1 q4)) ?_;refine aN ?_;refine Z28 (Z28 ?_);refine Z27 Tryz.cfgOk hS ?_;refine aK 2 ?_;refine aB 7 [.agg #[.int .i64 0, inlL Z29 6 ([] : List Code)], .agg #[.int .i64 0, inlL Z29 6 ([] : List Code)]] (decide (0 = 0 ∧ ([] : List Code) = ([] : List Code))) _ rfl (hC7 _ _ _ _ (con_nprogs_at 0 ([] : List Code) 0 ([] : List Code) Z8 Z8 _)) (fun h5 => ?_) (fun h5 => ?_)
    ·have c6 : 0 = 0 ∧ ([] : List Code) = ([] : List Code) := of_decide_eq_true h5;clear h5;refine aN ?_;refine kF ?_;refine Z2c (Z28 (Z28 ?_));refine kK Tryz.cfgOk hS ?_;refine kT ?_;refine Z28 ?_;refine Z27 Tryz.cfgOk hS ?_;refine aK 1 ?_;refine aC 8 [.iface 52 (elt (flatL Z2r ([(((pBad tx : Nat) : Int), 2)])) (0 * 2)), .int .i64 2] (.bool true) _ rfl (hC8 _ _ _ _ (con_isF_at (((pBad tx : Nat) : Int), 2) 2 Z8 Z8 _)) ?_;refine aK 2 ?_;refine aC 9 [.iface 52 (elt (flatL Z2r ([(((pBad tx : Nat) : Int), 2)])) (0 * 2))] (.int .i64 ((((pBad tx : Nat) : Int), 2).1)) _ rfl (hC9 _ _ _ _ (con_atF_at (((pBad tx : Nat) : Int), 2)  _)) ?_;refine aK 1 ?_;refine aT (fun h7 => ?_) (fun h7 => ?_)
     ·have c8e : ((((((pBad tx : Nat) : Int), 2).1) : Int) == ((pBad tx : Nat) : Int)) = true := Eq.trans Z3 h7;clear h7;have c8 : (((((pBad tx : Nat) : Int), 2).1) : Int) = ((pBad tx : Nat) : Int) := eq_of_beq c8e;clear c8e;refine aN ?_;refine Z2a ?_;exact ⟨[.bool true], Z3, .same (sub_clo rfl), Zle⟩
     ·have c8e : ((((((pBad tx : Nat) : Int), 2).1) : Int) == ((pBad tx : Nat) : Int)) = false := Eq.trans Z3 h7;clear h7;have c8 : ¬ (((((pBad tx : Nat) : Int), 2).1) : Int) = ((pBad tx : Nat) : Int) := ne_of_beq_false c8e;clear c8e;exact absurd rfl c8
    ·have c6 : ¬ (0 = 0 ∧ ([] : List Code) = ([] : List Code)) := of_decide_eq_false h5;clear h5;refine aN ?_;refine kT ?_;refine Z28 ?_;refine kK Tryz.cfgOk hS ?_;refine Z2a ?_;exact ⟨[.bool false], Z3, fs_to (Z2b rfl) (congrArg Value.bool Z05), Zle⟩
   ·
    exact absurd h0 q4
  ·
   exact absurd h0 q3
theorem lawChk_fn : Tryz.cfg.fn 3 = some Tryz.f3 := Z3
theorem lawChk_sc (tx : List UInt8) (h0 : formP tx ∧ ¬ checkP (pFu tx) (pCo tx)) : SC Tryz.prog 135000004004000 3 [.string (bstr tx)] (St.empty 0) fun v s' => v = .bool true ∧ s'.n ≤ 400 := by
 obtain ⟨rc, hS, hC⟩ := rc_con (Z2q Tryz.cfgOk 300) [con_alive, con_parsew, con_rparse, con_nprogs, con_isF, con_atF, con_printG] Z3;have hC4 := hC con_alive (.head _);have hC5 := hC con_parsew (.tail _ (.head _));have hC6 := hC con_rparse (.tail _ (.tail _ (.head _)));have hC7 := hC con_nprogs (.tail _ (.tail _ (.tail _ (.head _))));have hC8 := hC con_isF (.tail _ (.tail _ (.tail _ (.tail _ (.head _)))));have hC9 := hC con_atF (.tail _ (.tail _ (.tail _ (.tail _ (.tail _ (.head _))))));have hC10 := hC con_printG (.tail _ (.tail _ (.tail _ (.tail _ (.tail _ (.tail _ (.head _)))))));refine sc_ice0 (N := 400) (v2 := .bool true) (Q := fun v s' => FS 0 s' v (.bool true) ∧ s'.n ≤ 400) ?_ (fun _ _ h => h);refine sc_body Tryz.cfgOk lawChk_fn rfl ?_;refine Z28 ?_;refine kK Tryz.cfgOk hS ?_;refine Z28 (Z28 ?_);refine Z27 Tryz.cfgOk hS ?_;refine aC 4 [] (.bool true) _ rfl (hC4 _ _ _ _ (con_alive_at   _)) ?_;refine aN ?_;refine kF ?_;refine Z2c (Z28 (Z28 ?_));refine Z27 Tryz.cfgOk hS ?_;refine aK 2 ?_;refine aT (fun h1 => ?_) (fun h1 => ?_)
 ·have c2e : (decide ((((tx.length : Nat) : Int) : Int) > 2000)) = true := Eq.trans Z3 h1;clear h1;have c2 : (((tx.length : Nat) : Int) : Int) > 2000 := of_decide_eq_true c2e;clear c2e;refine Z2f ?_;refine kT ?_;refine Z28 ?_;refine kK Tryz.cfgOk hS ?_;refine Z2a ?_;exact ⟨[.bool true], Z3, .same (sub_clo rfl), Zle⟩
 ·have c2e : (decide ((((tx.length : Nat) : Int) : Int) > 2000)) = false := Eq.trans Z3 h1;clear h1;have c2 : ¬ (((tx.length : Nat) : Int) : Int) > 2000 := of_decide_eq_false c2e;clear c2e;refine Z2f ?_;refine kF ?_;refine Z2c (Z28 ?_);refine Z27 Tryz.cfgOk hS ?_;refine aK 1 ?_;by_cases q3 : formP tx ∧ ¬ checkP (pFu tx) (pCo tx)
  ·
   refine aC 5 [.string (bstr tx)] (.tuple #[.agg #[.int .i64 0, inlL Z29 6 ([] : List Code)], .iface 52 (elt (flatL Z2r ([((checkI (pFu tx) (pCo tx)), 5)])) (0 * 2))]) _ rfl (rc_eq (hC5 _ _ _ _ (con_parsew_at tx Z8 Z8 Z8 Z8 _)) (pf_2 q3)) ?_;refine aN ?_;refine Z28 ?_;refine Z27 Tryz.cfgOk hS ?_;refine aK 1 ?_;by_cases q4 : formP tx ∧ ¬ checkP (pFu tx) (pCo tx)
   ·
    refine aC 6 [.string (bstr tx)] (.tuple #[.agg #[.int .i64 0, inlL Z29 6 ([] : List Code)], .int .i64 (checkI (pFu tx) (pCo tx)), .bool true]) _ rfl (rc_eq (hC6 _ _ _ _ (con_rparse_at tx Z8 _)) (rpf_2 q4)) ?_;refine aN ?_;refine Z28 (Z28 ?_);refine Z27 Tryz.cfgOk hS ?_;refine aK 2 ?_;refine aB 7 [.agg #[.int .i64 0, inlL Z29 6 ([] : List Code)], .agg #[.int .i64 0, inlL Z29 6 ([] : List Code)]] (decide (0 = 0 ∧ ([] : List Code) = ([] : List Code))) _ rfl (hC7 _ _ _ _ (con_nprogs_at 0 ([] : List Code) 0 ([] : List Code) Z8 Z8 _)) (fun h5 => ?_) (fun h5 => ?_)
    ·have c6 : 0 = 0 ∧ ([] : List Code) = ([] : List Code) := of_decide_eq_true h5;clear h5;refine aN ?_;refine kF ?_;refine Z2c (Z28 (Z28 ?_));refine kK Tryz.cfgOk hS ?_;refine kF ?_;refine Z2c (Z28 (Z28 ?_));refine Z27 Tryz.cfgOk hS ?_;refine aK 1 ?_;refine aT (fun h7 => ?_) (fun h7 => ?_)
     ·have c8e : (((checkI (pFu tx) (pCo tx)) : Int) != (-2)) = true := Eq.trans Z3 h7;clear h7;have c8 : ¬ ((checkI (pFu tx) (pCo tx)) : Int) = (-2) := bne_iff_ne.1 c8e;clear c8e;refine Z2f ?_;refine kT ?_;refine Z28 ?_;refine Z27 Tryz.cfgOk hS ?_;refine aK 1 ?_;refine aC 8 [.iface 52 (elt (flatL Z2r ([((checkI (pFu tx) (pCo tx)), 5)])) (0 * 2)), .int .i64 5] (.bool true) _ rfl (hC8 _ _ _ _ (con_isF_at ((checkI (pFu tx) (pCo tx)), 5) 5 Z8 Z8 _)) ?_;refine aK 2 ?_;refine aC 9 [.iface 52 (elt (flatL Z2r ([((checkI (pFu tx) (pCo tx)), 5)])) (0 * 2))] (.int .i64 (((checkI (pFu tx) (pCo tx)), 5).1)) _ rfl (hC9 _ _ _ _ (con_atF_at ((checkI (pFu tx) (pCo tx)), 5)  _)) ?_;refine aK 1 ?_;refine aT (fun h9 => ?_) (fun h9 => ?_)
      ·have c10e : (((((checkI (pFu tx) (pCo tx)), 5).1) : Int) == (checkI (pFu tx) (pCo tx))) = true := Eq.trans Z3 h9;clear h9;have c10 : ((((checkI (pFu tx) (pCo tx)), 5).1) : Int) = (checkI (pFu tx) (pCo tx)) := eq_of_beq c10e;clear c10e;refine aN ?_;refine Z2a ?_;exact ⟨[.bool true], Z3, .same (sub_clo rfl), Zle⟩
      ·have c10e : (((((checkI (pFu tx) (pCo tx)), 5).1) : Int) == (checkI (pFu tx) (pCo tx))) = false := Eq.trans Z3 h9;clear h9;have c10 : ¬ ((((checkI (pFu tx) (pCo tx)), 5).1) : Int) = (checkI (pFu tx) (pCo tx)) := ne_of_beq_false c10e;clear c10e;exact absurd rfl c10
     ·have c8e : (((checkI (pFu tx) (pCo tx)) : Int) != (-2)) = false := Eq.trans Z3 h7;clear h7;have c8 : ((checkI (pFu tx) (pCo tx)) : Int) = (-2) := bne_eq_false_iff_eq.1 c8e;clear c8e;exact absurd c8 check_ne
    ·have c6 : ¬ (0 = 0 ∧ ([] : List Code) = ([] : List Code)) := of_decide_eq_false h5;clear h5;refine aN ?_;refine kT ?_;refine Z28 ?_;refine kK Tryz.cfgOk hS ?_;refine Z2a ?_;exact ⟨[.bool false], Z3, fs_to (Z2b rfl) (congrArg Value.bool Z05), Zle⟩
   ·
    exact absurd h0 q4
  ·
   exact absurd h0 q3
theorem lawOk_fn : Tryz.cfg.fn 3 = some Tryz.f3 := Z3
theorem lawOk_sc (tx : List UInt8) (h0 : formP tx ∧ checkP (pFu tx) (pCo tx)) : SC Tryz.prog 135000004004000 3 [.string (bstr tx)] (St.empty 0) fun v s' => v = .bool true ∧ s'.n ≤ 400 := by
 obtain ⟨rc, hS, hC⟩ := rc_con (Z2q Tryz.cfgOk 300) [con_alive, con_parsew, con_rparse, con_nprogs, con_isF, con_atF, con_printG] Z3;have hC4 := hC con_alive (.head _);have hC5 := hC con_parsew (.tail _ (.head _));have hC6 := hC con_rparse (.tail _ (.tail _ (.head _)));have hC7 := hC con_nprogs (.tail _ (.tail _ (.tail _ (.head _))));have hC8 := hC con_isF (.tail _ (.tail _ (.tail _ (.tail _ (.head _)))));have hC9 := hC con_atF (.tail _ (.tail _ (.tail _ (.tail _ (.tail _ (.head _))))));have hC10 := hC con_printG (.tail _ (.tail _ (.tail _ (.tail _ (.tail _ (.tail _ (.head _)))))));refine sc_ice0 (N := 400) (v2 := .bool true) (Q := fun v s' => FS 0 s' v (.bool true) ∧ s'.n ≤ 400) ?_ (fun _ _ h => h);refine sc_body Tryz.cfgOk lawOk_fn rfl ?_;refine Z28 ?_;refine kK Tryz.cfgOk hS ?_;refine Z28 (Z28 ?_);refine Z27 Tryz.cfgOk hS ?_;refine aC 4 [] (.bool true) _ rfl (hC4 _ _ _ _ (con_alive_at   _)) ?_;refine aN ?_;refine kF ?_;refine Z2c (Z28 (Z28 ?_));refine Z27 Tryz.cfgOk hS ?_;refine aK 2 ?_;refine aT (fun h1 => ?_) (fun h1 => ?_)
 ·have c2e : (decide ((((tx.length : Nat) : Int) : Int) > 2000)) = true := Eq.trans Z3 h1;clear h1;have c2 : (((tx.length : Nat) : Int) : Int) > 2000 := of_decide_eq_true c2e;clear c2e;refine Z2f ?_;refine kT ?_;refine Z28 ?_;refine kK Tryz.cfgOk hS ?_;refine Z2a ?_;exact ⟨[.bool true], Z3, .same (sub_clo rfl), Zle⟩
 ·have c2e : (decide ((((tx.length : Nat) : Int) : Int) > 2000)) = false := Eq.trans Z3 h1;clear h1;have c2 : ¬ (((tx.length : Nat) : Int) : Int) > 2000 := of_decide_eq_false c2e;clear c2e;refine Z2f ?_;refine kF ?_;refine Z2c (Z28 ?_);refine Z27 Tryz.cfgOk hS ?_;refine aK 1 ?_;by_cases q3 : formP tx ∧ checkP (pFu tx) (pCo tx)
  ·
   refine aC 5 [.string (bstr tx)] (.tuple #[.agg #[.int .i64 (pFu tx), inlL Z29 6 (pCo tx)], .nilIface]) _ rfl (rc_eq (hC5 _ _ _ _ (con_parsew_at tx Z8 Z8 Z8 Z8 _)) (parse_t q3)) ?_;refine aN ?_;refine Z28 ?_;refine Z27 Tryz.cfgOk hS ?_;refine aK 1 ?_;by_cases q4 : formP tx ∧ checkP (pFu tx) (pCo tx)
   ·
    refine aC 6 [.string (bstr tx)] (.tuple #[.agg #[.int .i64 (pFu tx), inlL Z29 6 (pCo tx)], .int .i64 (-2), .bool true]) _ rfl (rc_eq (hC6 _ _ _ _ (con_rparse_at tx Z8 _)) (rpf_3 q4)) ?_;refine aN ?_;refine Z28 (Z28 ?_);refine Z27 Tryz.cfgOk hS ?_;refine aK 2 ?_;refine aB 7 [.agg #[.int .i64 (pFu tx), inlL Z29 6 (pCo tx)], .agg #[.int .i64 (pFu tx), inlL Z29 6 (pCo tx)]] (decide ((pFu tx) = (pFu tx) ∧ (pCo tx) = (pCo tx))) _ rfl (hC7 _ _ _ _ (con_nprogs_at (pFu tx) (pCo tx) (pFu tx) (pCo tx) Z8 Z8 _)) (fun h5 => ?_) (fun h5 => ?_)
    ·have c6 : (pFu tx) = (pFu tx) ∧ (pCo tx) = (pCo tx) := of_decide_eq_true h5;clear h5;refine aN ?_;refine kF ?_;refine Z2c (Z28 (Z28 ?_));refine kK Tryz.cfgOk hS ?_;refine kF ?_;refine Z2c (Z28 (Z28 ?_));refine kK Tryz.cfgOk hS ?_;refine kF ?_;refine Z2c (Z28 ?_);refine Z27 Tryz.cfgOk hS ?_;refine aK 1 ?_;refine aC 10 [.agg #[.int .i64 (pFu tx), inlL Z29 6 (pCo tx)]] (.tuple #[.string (bstr (printR (pFu tx) (pCo tx))), .nilIface]) _ rfl (hC10 _ _ _ _ (con_printG_at (pFu tx) (pCo tx) Z8 Z8 Z8 _)) ?_;refine aN ?_;refine Z28 ?_;refine Z27 Tryz.cfgOk hS ?_;refine aK 9 ?_;refine aT (fun h7 => ?_) (fun h7 => ?_)
     ·have c8e : (((bstr (printR (pFu tx) (pCo tx))).toList == (bstr tx).toList)) = true := Eq.trans Z3 h7;clear h7;have c8 : printR (pFu tx) (pCo tx) = tx := bstr_t c8e;clear c8e;refine aN ?_;refine Z2a ?_;exact ⟨[.bool true], Z3, .same (sub_clo rfl), Zle⟩
     ·have c8e : (((bstr (printR (pFu tx) (pCo tx))).toList == (bstr tx).toList)) = false := Eq.trans Z3 h7;clear h7;have c8 : ¬ printR (pFu tx) (pCo tx) = tx := bstr_f c8e;clear c8e;exact absurd (print_back h0.1) c8
    ·have c6 : ¬ ((pFu tx) = (pFu tx) ∧ (pCo tx) = (pCo tx)) := of_decide_eq_false h5;clear h5;refine aN ?_;refine kT ?_;refine Z28 ?_;refine kK Tryz.cfgOk hS ?_;refine Z2a ?_;exact ⟨[.bool false], Z3, fs_to (Z2b rfl) (congrArg Value.bool Z05), Zle⟩
   ·
    exact absurd h0 q4
  ·
   exact absurd h0 q3
theorem lawParses_sc (tx : List UInt8) : SC Tryz.prog 135000004004000 3 [.string (bstr tx)] (St.empty 0) fun v s' => v = .bool true ∧ s'.n ≤ 400 := by
 by_cases h : formP tx
 ·by_cases hc : checkP (pFu tx) (pCo tx)
  ·exact lawOk_sc tx ⟨h, hc⟩
  ·exact lawChk_sc tx ⟨h, hc⟩
 ·exact lawForm_sc tx h
end Go.Proofs.YtgplkbfjlidinabGreatDoor