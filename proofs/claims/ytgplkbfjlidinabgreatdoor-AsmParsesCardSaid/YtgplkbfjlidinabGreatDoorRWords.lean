/- The document: the words of a line. -/
import Derived.Test.YtgplkbfjlidinabGreatDoorRNum
import Derived.Test.YtgplkbfjlidinabGreatDoorAiCon
import Derived.Test.YtgplkbfjlidinabGreatDoorKit
set_option linter.unusedVariables false
set_option linter.unusedSimpArgs false
set_option linter.unnecessarySimpa false
set_option maxHeartbeats 4000000
set_option maxRecDepth 100000
namespace Go.Proofs.YtgplkbfjlidinabGreatDoor
open Go.Ai
def pinv (b : UInt8) (s : List UInt8) (i : Nat) (o : List (List UInt8)) : Prop := ∃ d w, o = d ++ [w] ∧ (∀ x ∈ w, x ≠ b) ∧ pcs b s = d ++ pcs b (w ++ s.drop i)
theorem pinv_0 {b : UInt8} {s : List UInt8} : pinv b s 0 [[]] := ⟨[], [], rfl, fun _ h => absurd h List.not_mem_nil, rfl⟩
theorem drop_at {s : List UInt8} {i : Nat} {x : UInt8} (h : s[i]? = some x) : s.drop i = x :: s.drop (i + 1) := by
 obtain ⟨hi, rfl⟩ := List.getElem?_eq_some_iff.1 h;exact List.drop_eq_getElem_cons hi
theorem pinv_new {b : UInt8} {s : List UInt8} {i : Nat} {o : List (List UInt8)} {x : UInt8} (hx : s[i]? = some x) (h : pinv b s i o) (e : ((x.toNat : Nat) : Int) = ((b.toNat : Nat) : Int)) : pinv b s (i + 1) (o ++ [[]]) := by
 obtain rfl : x = b := UInt8.toNat_inj.1 Z4;obtain ⟨d, w, rfl, hw, hp⟩ := h;refine ⟨d ++ [w], [], rfl, fun _ h => absurd h List.not_mem_nil, ?_⟩;rw [hp, drop_at hx, pcs_app hw];simp
theorem pinv_add {b : UInt8} {s : List UInt8} {i : Nat} {o : List (List UInt8)} {x : UInt8} {v : List UInt8} (hx : s[i]? = some x) (h : pinv b s i o) (hv : o[o.length - 1]? = some v) (e : ¬ ((x.toNat : Nat) : Int) = ((b.toNat : Nat) : Int)) : pinv b s (i + 1) (o.set (o.length - 1) (v ++ [x])) := by
 obtain ⟨d, w, rfl, hw, hp⟩ := h;have el : (d ++ [w]).length - 1 = d.length := Z0u
 rw [el] at hv ⊢;rw [List.getElem?_append_right (Nat.le_refl _), Nat.sub_self] at hv;obtain rfl : w = v := by simpa using hv
 refine ⟨d, w ++ [x], ?_, fun y hy => ?_, ?_⟩
 ·rw [List.set_append_right _ _ (Nat.le_refl _), Nat.sub_self];rfl
 ·rcases List.mem_append.1 hy with hy | hy
  ·exact hw y hy
  ·obtain rfl := List.mem_singleton.1 hy;exact fun q => e (by rw [q])
 ·rw [hp, drop_at hx];simp
theorem pinv_end {b : UInt8} {s : List UInt8} {i : Nat} {o : List (List UInt8)} (h : pinv b s i o) (hi : ¬ i < s.length) : o = Z2e b s := by
 obtain ⟨d, w, rfl, hw, hp⟩ := h;rw [split_pcs, hp, List.drop_of_length_le Z4, List.append_nil, pcs_no hw]
theorem pinv_len {b : UInt8} {s : List UInt8} {i : Nat} {o : List (List UInt8)} (h : pinv b s i o) : ∀ v ∈ o, v.length ≤ s.length := by
  obtain ⟨d, w, rfl, hw, hp⟩ := h;intro v hv;rcases List.mem_append.1 hv with hv | hv
  · exact pcs_len (b := b) (by rw [hp]; exact List.mem_append_left _ hv)
  · obtain rfl := List.mem_singleton.1 hv
    cases hl : pcs b (v ++ s.drop i) with
    | nil => exact absurd hl (pcs_ne _ _)
    | cons u r =>
      have hu := pcs_len (b := b) (s := s) (w := u) (by rw [hp, hl]; simp);have : v.length ≤ u.length := by
        clear hp hu hv;induction v generalizing u r with
        | nil => exact Nat.zero_le _
        | cons y v ih =>
          have hy := hw y (List.mem_cons_self ..);have hl : pcs b (y :: (v ++ s.drop i)) = u :: r := hl;simp only [pcs] at hl;rw [if_neg hy] at hl;cases hq : pcs b (v ++ s.drop i) with
          | nil => exact absurd hq (pcs_ne _ _)
          | cons u2 r2 =>
            rw [hq] at hl;obtain ⟨rfl, _⟩ := List.cons.inj hl;have := ih (fun x hx => hw x (List.mem_cons_of_mem _ hx)) Z0u u2 r2 hq;simpa using this
      omega
theorem rwords_fn : Tryz.cfg.fn 35 = some Tryz.f35 := Z3
theorem rwords_sc (tx : List UInt8) (h0 : tx.length ≤ 100000) : SC Tryz.prog 135000004004000 35 [.string (bstr tx)] (St.empty 0) fun v s' => v = inlL Z2h 1 (Z2e 32 tx) ∧ s'.n ≤ 400 := by
 have hS := Z2q Tryz.cfgOk 300;refine sc_ice0 (N := 400) (v2 := inlL Z2h 1 (Z2e 32 tx)) (Q := fun v s' => FS 0 s' v (inlL Z2h 1 (Z2e 32 tx)) ∧ s'.n ≤ 400) ?_ (fun _ _ h => h);refine sc_body Tryz.cfgOk rwords_fn rfl ?_;refine Z28 ?_;refine kK Tryz.cfgOk hS ?_;refine Z28 ?_;refine kK Tryz.cfgOk hS ?_;refine Z28 (Z28 ?_);refine kK Tryz.cfgOk hS ?_;refine Z2s ?_;refine sk_live 37 ((fun a : Nat × (List (List UInt8)) × Nat => [(0, .string (bstr tx)), (3, slL 0 1 a.2.1.length), (4, .int .i64 ((a.1 : Nat) : Int))]) (0, [[]], 0)) Z3 ⟨Z3, Z3, Z3, trivial⟩ fun m1 => ?_
 refine sk_st ((fun a : Nat × (List (List UInt8)) × Nat => ((St.empty 0).new (rowM Z2h a.2.2 a.2.1))) (0, [[]], 0)) Z3 ?_;refine (sk_while (k := 1) (N := 400) (live := (fun a : Nat × (List (List UInt8)) × Nat => [(0, .string (bstr tx)), (3, slL 0 1 a.2.1.length), (4, .int .i64 ((a.1 : Nat) : Int))])) (M := (fun a : Nat × (List (List UInt8)) × Nat => ((St.empty 0).new (rowM Z2h a.2.2 a.2.1)))) (fun a : Nat × (List (List UInt8)) × Nat => (a.1 ≤ tx.length) ∧ (pinv 32 tx a.1 a.2.1) ∧ (a.2.2 ≤ a.2.1.length * 1) ∧ (0 < a.2.1.length) ∧ (a.2.1.length ≤ a.1 + 1)) (fun a : Nat × (List (List UInt8)) × Nat => tx.length - a.1) (fun (a : Nat × (List (List UInt8)) × Nat) (o : Out) (lv : List (Nat × Value)) (M : St) => (o = .exit 0 ∧ (¬ a.1 < tx.length) ∧ lv = [(0, .string (bstr tx)), (3, slL 0 1 a.2.1.length), (4, .int .i64 ((a.1 : Nat) : Int))] ∧ M = ((St.empty 0).new (rowM Z2h a.2.2 a.2.1)))) (Nat.zero_le _) (fun a ha => ?_) (fun a ha => ?_) (fun a m ha => ?_) (fun a m ha => ?_) (0, [[]], 0) m1 ?_).up ?_
 ·exact ⟨Z3, ((Z2d 0).new _), (selfs (all_cons (o := rowM Z2h a.2.2 a.2.1) Z3 (OSub.arr (subs_clo (Z2o tcells_clo))) (Z2g)))⟩
 ·exact ⟨sub_clo rfl, .slice ⟨Zj, rfl⟩, sub_clo rfl, trivial⟩
 ·exact ⟨Z3, Z3, Z3, trivial⟩
 ·obtain ⟨i, o, mv⟩ := a;obtain ⟨i0, i1, i2, i3, i4⟩ := ha;dsimp only at i0 i1 i2 i3 i4;refine Z28 (Z28 ?_);refine Z27 Tryz.cfgOk hS ?_;refine aK 3 ?_;refine aT (fun h2 => ?_) (fun h2 => ?_)
  ·have c3e : (decide ((((i : Nat) : Int) : Int) < ((tx.length : Nat) : Int))) = true := Eq.trans Z3 h2;clear h2;have c3 : (((i : Nat) : Int) : Int) < ((tx.length : Nat) : Int) := of_decide_eq_true c3e;clear c3e;refine Z2f ?_;refine kT ?_;refine Z2c (Z28 (Z2s (Z28 ?_)));have hx4l : i < tx.length := by omega
   refine Exists.elim (get_ex hx4l) fun x4 hx4 => ?_
   clear hx4l;refine Z27 Tryz.cfgOk hS ?_;refine aK 2 ?_;refine aM (indexV Tryz.cfg 9 (.string (bstr tx)) (.int .i64 ((i : Nat) : Int))) (.int .u8 ((x4.toNat : Nat) : Int)) (Z2k Z3 hx4) ?_;refine aT (fun h5 => ?_) (fun h5 => ?_)
   ·have c6e : ((((x4.toNat : Nat) : Int) : Int) == 32) = true := Eq.trans Z3 h5;clear h5;have c6 : (((x4.toNat : Nat) : Int) : Int) = 32 := eq_of_beq c6e;clear c6e;refine Z2f ?_;refine kT ?_;refine Z27 Tryz.cfgOk hS ?_;refine aK 2 ?_;refine al_opF (v := slL 0 1 (o ++ [[]]).length) (s1 := (((St.empty 0).new (rowM Z2h mv o)).new (.arr [.string (bstr [])] 0 false)).set 0 (rowM Z2h mv (o ++ [[]]))) Z3 Z3 (Eq.trans (b := appendV Tryz.cfg (((St.empty 0).new (rowM Z2h mv o)).new (.arr [.string (bstr [])] 0 false)) 41 (slL 0 1 o.length) (.slice (some ⟨1, 0, some 1⟩) 1 1)) Z3 (app_rowM (l := o) (l2 := [[]]) (bytes := 16) tokC Z3 tcells_len tcells_one Z3 Z0c Z3 Z3 (by (simp only [List.length_append, List.length_cons, List.length_nil]; omega)))) ?_;refine aN ?_;refine Z27 Tryz.cfgOk hS ?_;refine aK 1 ?_;refine aE (v := .int .i64 (IntKind.wrap .i64 (((i : Nat) : Int) + 1))) (.int .i64 ((i + 1 : Nat) : Int)) (congrArg (Value.int .i64) (Z2t Z4 Z4)) ?_;refine aN ?_;refine .inl ⟨(i + 1, (o ++ [[]]), mv), rfl, ⟨?_, ?_, ?_, ?_, ?_⟩, ?_, ⟨Z3, ⟨Z3, Z3, Z3, trivial⟩, ⟨sub_clo rfl, .slice ⟨Zj, rfl⟩, sub_clo rfl, trivial⟩, Zle, ⟨Z3, ((Z2d 0).new _), (selfs (all_cons (o := rowM Z2h mv (o ++ [[]])) Z3 (OSub.arr (subs_clo (Z2o tcells_clo))) (Z2g)))⟩, Z2n Z3⟩⟩
    ·(try dsimp only); omega
    ·(try dsimp only); first | exact pinv_new Z2 i1 Z2 | exact pinv_add Z2 i1 Z2 Z2
    ·(try dsimp only); first | (simp only [List.length_append, List.length_cons, List.length_nil, List.length_set]; omega)
    ·(try dsimp only); simp only [List.length_append, List.length_cons, List.length_nil, List.length_set]; omega
    ·(try dsimp only); simp only [List.length_append, List.length_cons, List.length_nil, List.length_set]; omega
    ·omega
   ·have c6e : ((((x4.toNat : Nat) : Int) : Int) == 32) = false := Eq.trans Z3 h5;clear h5;have c6 : ¬ (((x4.toNat : Nat) : Int) : Int) = 32 := ne_of_beq_false c6e;clear c6e;refine Z2f ?_;refine kF ?_;refine sk_drawL Tryz.cfgOk hS ?_;refine dK 3 ?_;refine dE (v := .int .i64 (IntKind.wrap .i64 (((o.length : Nat) : Int) - 1))) (.int .i64 ((o.length - 1 : Nat) : Int)) (congrArg (Value.int .i64) (Z2t Z4 Z4)) ?_;refine dK 3 ?_;refine dE (v := .int .i64 (IntKind.wrap .i64 (((o.length : Nat) : Int) - 1))) (.int .i64 ((o.length - 1 : Nat) : Int)) (congrArg (Value.int .i64) (Z2t Z4 Z4)) ?_;refine dM (indexAddrV Tryz.cfg 41 (slL 0 1 o.length) (.int .i64 ((o.length - 1 : Nat) : Int))) (.pointer (some ⟨0, (o.length - 1) * 1, some (o.length * 1)⟩)) (idx_rowL Z3 Z4) ?_;have hx7l : (o.length - 1) < o.length := by omega
    refine Exists.elim (get_ex hx7l) fun x7 hx7 => ?_
    clear hx7l;refine dM (loadV Tryz.cfg ((St.empty 0).new (rowM Z2h mv o)) 9 (.pointer (some ⟨0, (o.length - 1) * 1, some (o.length * 1)⟩))) (.string (bstr x7)) (load_rowM1 (o := 0) (l := o) (mv := mv) (n := o.length) Z3 tcells_len Z3 Z0c Z0c hx7 rfl) ?_;refine dK 3 ?_;refine dE (v := .int .i64 (IntKind.wrap .i64 (((i : Nat) : Int) + 1))) (.int .i64 ((i + 1 : Nat) : Int)) (congrArg (Value.int .i64) (Z2t Z4 Z4)) ?_;refine dM (sliceV Tryz.cfg 9 (.string (bstr tx)) (some (.int .i64 ((i : Nat) : Int))) (some (.int .i64 ((i + 1 : Nat) : Int))) none) (.string (bstr [x4])) (slice_strOne Z3 hx4) ?_;refine dM (strBin .add (bstr x7) (bstr [x4])) (.string (bstr (x7 ++ [x4]))) (add_bstr (by have q := pinv_len i1 _ (List.mem_of_getElem? Z2); simp only [List.length_cons, List.length_nil]; omega)) ?_;refine dM (indexAddrV Tryz.cfg 41 (slL 0 1 o.length) (.int .i64 ((o.length - 1 : Nat) : Int))) (.pointer (some ⟨0, (o.length - 1) * 1, some (o.length * 1)⟩)) (idx_rowL Z3 Z4) ?_;refine ald_opF (v := undef) (s1 := ((St.empty 0).new (rowM Z2h mv o)).set 0 (rowM Z2h (o.length * 1) (o.set (o.length - 1) (x7 ++ [x4])))) Z3 Z3 (Eq.trans (b := (storeV Tryz.cfg ((St.empty 0).new (rowM Z2h mv o)) 9 (.pointer (some ⟨0, (o.length - 1) * 1, some (o.length * 1)⟩)) (.string (bstr (x7 ++ [x4])))).map fun s8 => (undef, s8)) Z3 (congrArg (Option.map fun s8 => (undef, s8)) (store_rowM1 (f := Z2h) (l := o) (n := o.length) (i := (o.length - 1)) (mv := mv) (x := x7 ++ [x4]) Z3 tcells_len tcells_one rfl rfl Z3 Z0c Z0c Z0c))) Z3 ?_;refine ald_nil ?_;refine Z27 Tryz.cfgOk hS ?_;refine aK 1 ?_;refine aE (v := .int .i64 (IntKind.wrap .i64 (((i : Nat) : Int) + 1))) (.int .i64 ((i + 1 : Nat) : Int)) (congrArg (Value.int .i64) (Z2t Z4 Z4)) ?_;refine aN ?_;refine .inl ⟨(i + 1, (o.set (o.length - 1) (x7 ++ [x4])), (o.length * 1)), rfl, ⟨?_, ?_, ?_, ?_, ?_⟩, ?_, ⟨Z3, ⟨Z3, Eq.trans (b := slL 0 1 o.length) Z3 (congrArg (slL 0 1) (by simp only [List.length_set])), Z3, trivial⟩, ⟨sub_clo rfl, .slice ⟨Zj, rfl⟩, sub_clo rfl, trivial⟩, Zle, ⟨Z3, ((Z2d 0).new _), (selfs (all_cons (o := rowM Z2h (o.length * 1) (o.set (o.length - 1) (x7 ++ [x4]))) Z3 (OSub.arr (subs_clo (Z2o tcells_clo))) (Z2g)))⟩, Z2n Z3⟩⟩
    ·(try dsimp only); omega
    ·(try dsimp only); first | exact pinv_new Z2 i1 Z2 | exact pinv_add Z2 i1 Z2 Z2
    ·(try dsimp only); first | (simp only [List.length_append, List.length_cons, List.length_nil, List.length_set]; omega)
    ·(try dsimp only); simp only [List.length_append, List.length_cons, List.length_nil, List.length_set]; omega
    ·(try dsimp only); simp only [List.length_append, List.length_cons, List.length_nil, List.length_set]; omega
    ·omega
  ·have c3e : (decide ((((i : Nat) : Int) : Int) < ((tx.length : Nat) : Int))) = false := Eq.trans Z3 h2;clear h2;have c3 : ¬ (((i : Nat) : Int) : Int) < ((tx.length : Nat) : Int) := of_decide_eq_false c3e;clear c3e;refine Z2f ?_;refine kF ?_;refine sk_exit ?_;dsimp only;refine .inr ⟨_, _, (fun h => Z02), ⟨rfl, ?_, rfl, rfl⟩, ⟨Z3, ⟨Z3, Z3, Z3, trivial⟩, ⟨sub_clo rfl, .slice ⟨Zj, rfl⟩, sub_clo rfl, trivial⟩, Zle, ⟨Z3, ((Z2d 0).new _), (selfs (all_cons (o := rowM Z2h mv o) Z3 (OSub.arr (subs_clo (Z2o tcells_clo))) (Z2g)))⟩, Z2n Z3⟩⟩
   ·omega
 ·exact ⟨Zx, by ((try dsimp only); first | done | (exact pinv_0)), Zx, by ((try dsimp only); first | done | (decide)), by ((try dsimp only); first | done | (decide))⟩
 rintro o e1 s1 ⟨a, lv1, M1, m1, ha, ⟨rfl, hx, rfl, rfl⟩, rfl, rfl⟩;obtain ⟨i, o, mv⟩ := a;obtain ⟨i0, i1, i2, i3, i4⟩ := ha;dsimp only at hx i0 i1 i2 i3 i4;dsimp only;try rw [if_pos rfl]
 refine Z28 ?_;refine kK Tryz.cfgOk hS ?_;refine Z2a ?_;exact ⟨[slL 0 1 o.length], Z3, fs_to (fs_slM (mv := mv) (l := o) Zj tcells_len tcells_clo tcells_one Zle Z3 Z0c Z0c) (congrArg (inlL Z2h 1) (by exact pinv_end i1 hx)), Zle⟩
noncomputable def con_rwords : Con Tryz.prog 135000004004000 := Con.pure (α := (List UInt8)) 35 (fun z9 => [.string (bstr z9)]) (fun z9 => inlL Z2h 1 (Z2e 32 z9)) (fun z9 => (z9.length ≤ 100000)) (by
 intro x y h
 simp only [injA, bstr_iff] at h
 first | exact h | (simp only [Prod.ext_iff, h, and_self, and_true, true_and]; done) | simp_all [Prod.ext_iff]) (fun _ => rfl) (fun _ => rfl) 400 (by
 rintro x p0
 exact rwords_sc x p0)
theorem con_rwords_at (tx : List UInt8) (h0 : tx.length ≤ 100000) (s : St) : con_rwords.rel [.string (bstr tx)] s (inlL Z2h 1 (Z2e 32 tx)) s := con_pure tx h0 s
end Go.Proofs.YtgplkbfjlidinabGreatDoor