/- The closing steps that are written often, by name. -/
import Derived.Below
import Derived.Calls
import Derived.ChangeKeysEq
import Derived.Control
import Derived.KernelRfl
import Derived.Laws.Append
import Derived.Laws.BytesArg
import Derived.Laws.BytesString
import Derived.Laws.Cells
import Derived.Laws.CopyRow
import Derived.Laws.Externs
import Derived.Laws.Sem
import Derived.Laws.Strings
import Derived.Laws.StructEq
import Derived.Laws.Tables
import Derived.OpenShut
import Derived.Orders
import Derived.ProofKit
import GoSem.Step
theorem Z0 {P : Prop} (h : P := by kernel_rfl) : P := h
theorem Z1 {P : Prop} (h : P := by first | omega | assumption | exact u64_lt _ | exact (h1.at_ Z4).1 | exact (h1.at_ Z4).2 | exact app_leN Z5 Zg | exact app_keys Z4 Zb | exact app_keys Z4 Z5 | (exact app_le Z5) | exact app_leF (h1.at_ Z4).1 (Nat.le_trans (Nat.add_le_add_right (app_le (Nat.le_refl _)) 10) Z5) | (have q := h0.1; omega) | (have q := h1.1; omega) | (have q := h2.1; omega) | simp) : P := h
theorem Z2 {P : Prop} (h : P := by first | omega | assumption | exact rdI_false _ | exact rdI_step Z4 | exact rdI_step (rdI_step Z4) | exact (qkeys_all (rdI_false b)).2.2 | (have q := (qkeys_all (rdI_false b)).2.1; omega) | (have q := rdR_le cb false; omega) | (have q := rdR_le cb false; have q2 := rdR_le (rdR cb false) (rdB cb false); omega) | exact (q_ok h0).1 | (rw [← (q_at i1 hx).1]; exact (q_ok h0).2.1) | (rw [← (q_at i1 hx).2.1]; exact (q_ok h0).2.2) | exact Nat.le_trans (q_ok h0).1.1 Z5 | (rw [← (q_at i1 hx).1]; exact Nat.le_trans (q_ok h0).2.1.1 Z5) | (rw [← (q_at i1 hx).2.1]; exact Nat.le_trans (q_ok h0).2.2.1 Z5)) : P := h
theorem Z3 {P : Prop} (h : P := by first | omega | assumption | exact rdI_false _ | (have q := (tkeys_all (rdI_false b)).2.1; omega) | (have q := rdR_le cb cbad; omega) | (have q := rdR_le cb cbad; have q2 := rdR_le (rdR cb cbad) (rdB cb cbad); omega) | exact h1 | (rw [← (take_at i0 hx).1]; exact h2) | (rw [← (take_at i0 hx).2.1]; exact h3) | exact Nat.le_trans h1.1 Z5 | (rw [← (take_at i0 hx).1]; exact Nat.le_trans h2.1 Z5) | (rw [← (take_at i0 hx).2.1]; exact Nat.le_trans h3.1 Z5) | (exact putP_len h1 Zs Zr)) : P := h
theorem Z4 {P : Prop} (h : P := by assumption) : P := h
theorem Z5 {P : Prop} (h : P := by omega) : P := h
theorem Z6 {P : Prop} (h : P := by first | (obtain ⟨q1, q2⟩ := hx; refine Eq.symm (tf_false fun h => ?_); exact h.1 ⟨_, q1, q2⟩) | exact (tf_true ⟨NoI.none Z4 hx, Z4, Z4⟩).symm | (refine Eq.symm (tf_false fun h => ?_); obtain ⟨_, h1, h2⟩ := h; first | exact absurd h1 Z4 | exact absurd h2 Z4)) : P := h
theorem Z7 {P : Prop} (h : P := by first | (rw [(res_bad rfl h1).1]; rfl) | (rw [(res_none rfl (rd_stop i2 hx Z5)).1]; rfl) | (rw [(res_none rfl (rd_bad i2 Z4 hx Z4)).1]; rfl) | (rw [(res_some rfl (rd_good (n := n) (u := u) Z5 Z4)).1]; rfl) | rw [(res_bad rfl h1).1] | rw [(res_none rfl (rd_stop i2 hx Z5)).1] | rw [(res_none rfl (rd_bad i2 Z4 hx Z4)).1] | rw [(res_some rfl (rd_good (n := n) (u := u) Z5 Z4)).1]) : P := h
theorem Z8 {P : Prop} (h : P := by first | exact (decide_eq_true ⟨Z4, take_all Z4 Z4 Z5, Z4⟩).symm | exact (decide_eq_false (fun e => absurd e.2.1 Z4)).symm | exact (decide_eq_false (fun e => absurd e.1 Z4)).symm | exact (decide_eq_false (fun e => absurd e.2.2 Z4)).symm | exact (decide_eq_false (fun e => Z0h)).symm) : P := h
theorem Z9 {P : Prop} (h : P := by decide) : P := h
theorem Za {P : Prop} (h : P := by first | rfl | exact absurd ((take_same Z5).1.1 t1) t2 | exact absurd ((take_same Z5).1.2 t2) t1 | exact absurd ((take_same Z5).2 t1) Z4 | exact absurd (⟨rfl, rfl, rfl⟩ : ([] : List Key) = [] ∧ ([] : List Span) = [] ∧ ([] : List Key) = []) Z4 | exact absurd ((put_eq7 t1.1).trans t1.2.2) Z4) : P := h
theorem Zb {P : Prop} (h : P := by simp only [List.length_nil]; omega) : P := h
theorem Zc {P : Prop} (h : P := by first | assumption | omega | (simp; done)) : P := h
theorem Zd {P : Prop} (h : P := by first | (refine ⟨Z5, ?_⟩; first | (rw [badF_iff2 Z4 Z4]; omega) | (rw [badF_iff Z4]; first | exact .inl Z5 | exact .inr (.inl Z5))) | (rw [badF_iff2 Z4 Z4]; omega) | (rw [badF_iff Z4]; rintro (h | h | ⟨h, _⟩) <;> omega)) : P := h
theorem Ze {P : Prop} (h : P := by first | omega | exact u64_lt _ | exact h1.at_ Z4 | (have q := h1.1; omega) | (exact app_le Z5) | (have q := h1.1; first | exact app_le Z5 | exact app_leN Z5 Z5)) : P := h
theorem Zf {P : Prop} (h : P := by first | exact (decide_eq_false Z4).symm | exact (decide_eq_true (take_all Z4 Z4 Z5)).symm | exact (decide_eq_false (fun e => Z0w)).symm) : P := h
theorem Zg {P : Prop} (h : P := by have q := keysB_len h0; omega) : P := h
theorem Zh {P : Prop} (h : P := by first | (refine ⟨Z5, ?_⟩; first | (rw [badK_iff2 Z4 Z4]; omega) | (rw [badK_iff Z4]; exact .inl Z5)) | (rw [badK_iff2 Z4 Z4]; omega) | (rw [badK_iff Z4]; rintro (h | ⟨h, _⟩) <;> omega)) : P := h
theorem Zi {P : Prop} (h : P := by ((try dsimp only); first | done | (omega))) : P := h
theorem Zj {P : Prop} (h : P := by first | rfl | (have q : b = [] := List.eq_nil_of_length_eq_zero Z5; subst q; rfl) | (cases b; (simp at *; done); rfl) | (cases b with | nil => simp at * | cons c r => rfl)) : P := h
theorem Zk {P : Prop} (h : P := by first | omega | (simp; done) | (simp; omega)) : P := h
theorem Zl {P : Prop} (h : P := by first | (refine ⟨Z5, ?_⟩; first | (rw [badR_iff2 Z4 Z4]; omega) | (rw [badR_iff Z4]; first | exact .inl Z5 | exact .inr (.inl Z5))) | (rw [badR_iff2 Z4 Z4]; omega) | (rw [badR_iff Z4]; rintro (h | h | ⟨h, _⟩) <;> omega)) : P := h
theorem Zm {P : Prop} (h : P := by first | exact (decide_eq_true ⟨rfl, List.eq_nil_of_length_eq_zero Z5⟩).symm | exact (decide_eq_false (fun q : true = false ∧ b = [] => absurd q.1 Z9)).symm | exact (decide_eq_false (fun q : false = false ∧ b = [] => Z0e)).symm) : P := h
theorem Zn {P : Prop} (h : P := by (try simp only [List.length_cons, List.length_nil, List.length_append]); omega) : P := h
theorem Zo {P : Prop} (h : P := by cases h) : P := h
theorem Zp {P : Prop} (h : P := by first | omega | assumption | exact rdI_step Z4 | (have q := rdR_le b bad; omega) | (have q := rdR_le cb false; omega)) : P := h
theorem Zq {P : Prop} (h : P := by first | (rw [putP, tf_false Z4]; rfl) | (rw [putP, tf_true Z4, if_pos rfl, i1, List.take_of_length_le Z5]; simp only [footB, spansB, List.append_assoc])) : P := h
theorem Zr {P : Prop} (h : P := by rw [← (take_at i0 hx).2.1]; exact h3) : P := h
theorem Zs {P : Prop} (h : P := by rw [← (take_at i0 hx).1]; exact h2) : P := h
theorem Zt {P : Prop} (h : P := by first | omega | exact u64_lt _ | exact h0.at_ Z4 | (have q := h0.1; omega) | (exact app_le Z5) | (have q := h0.1; first | exact app_le Z5 | exact app_leN Z5 Z5)) : P := h
theorem Zu {P : Prop} (h : P := by first | omega | simp) : P := h
theorem Zv {P : Prop} (h : P := by intro e; have q := congrArg List.length e; simp only [List.length_nil] at q; omega) : P := h
theorem Zw {P : Prop} (h : P := by first | rfl | (exfalso; first | contradiction | (have q := spare_0 Z4; subst q; have e : (165 : UInt8).toNat = 165 := rfl; omega) | (have q := spare_1 Z4; subst q; have e : (90 : UInt8).toNat = 90 := rfl; omega))) : P := h
theorem Zx {P : Prop} (h : P := by first | exact (tf_false (fun h => h ⟨_, hx.1, hx.2⟩)).symm | exact (tf_true (NoI.none Z4 hx)).symm) : P := h
theorem Zy {P : Prop} (h : P := by ((try dsimp only); first | done | (rfl))) : P := h
theorem Zz {P : Prop} (h : P := by simp [bytesOf] at h) : P := h
theorem Z00 {P : Prop} (h : P := by simp; omega) : P := h
theorem Z01 {P : Prop} (h : P := by have q0 := h1.at_ (x := x4) Z4; have q1 := uv_len10 (u64_lt x4.1); have q2 := uv_len10 (fold_lt q0.1); have q3 := uv_len10 (fold_lt q0.2); simp only [List.length_append]; omega) : P := h
theorem Z02 {P : Prop} (h : P := by first | (simp only [cmp_or2]; done) | (exact (decide_eq_true (cmp_or2.1 Z4)).symm) | (exact (decide_eq_false (fun h => absurd (cmp_or2.2 h) Z4)).symm)) : P := h
theorem Z03 {P : Prop} (h : P := by simp [stepG, stepG.exec, fgo]) : P := h
theorem Z04 {P : Prop} (h : P := by first | rfl | exact hx.1 | (simp [rdV, rdR, rdB, hx]; done) | (obtain ⟨rfl, rfl, rfl⟩ := hx; rfl)) : P := h
theorem Z05 {P : Prop} (h : P := by first | omega | assumption | (have q := rdR_le b bad; omega) | (have q := rdR_le cb cbad; omega)) : P := h
theorem Z06 {P : Prop} (h : P := by first | exact (if_pos Z5).symm | exact (if_neg Z5).symm) : P := h
theorem Z07 {P : Prop} (h : P := by ((try dsimp only); first | done | (exact app_leN Z12 Z16))) : P := h
theorem Z08 {P : Prop} (h : P := by first | rfl | (rw [List.nil_append]) | (simp only [*]) | (simp [*])) : P := h
theorem Z09 {P : Prop} (h : P := by ((try dsimp only); first | done | (exact NoI.zero))) : P := h
theorem Z0a {P : Prop} (h : P := by simp) : P := h
theorem Z0b {P : Prop} (h : P := by ((try dsimp only); first | done | (simp [catB]))) : P := h
theorem Z0c {P : Prop} (h : P := by have q := rdV_lt b bad; omega) : P := h
theorem Z0d {P : Prop} (h : P := by first | omega | (simp only [in64] at *; omega)) : P := h
theorem Z0e {P : Prop} (h : P := by have e := congrArg List.length q.2; simp only [List.length_nil] at e; omega) : P := h
theorem Z0f {P : Prop} (h : P := by rw [hg]; exact id) : P := h
theorem Z0g {P : Prop} (h : P := by first | (exact (orL_hit Z4 hx.1 hx.2).symm) | exact (orL_none (NoHit.none Z4 hx)).symm) : P := h
theorem Z0h {P : Prop} (h : P := by have := congrArg List.length e.2.1; omega) : P := h
theorem Z0i {P : Prop} (h : P := by ((try dsimp only); first | done | (exact h1.1))) : P := h
theorem Z0j {P : Prop} (h : P := by first | omega | (have q := uv_pos x; simp only [List.length_cons, List.length_nil]; omega)) : P := h
theorem Z0k {P : Prop} (h : P := by rintro j rfl; exact ⟨hlt, fun _ => .inr ⟨_, L, hL⟩⟩) : P := h
theorem Z0l {P : Prop} (h : P := by rw [hx] at h1; obtain rfl := Option.some.inj h1; exact h2) : P := h
theorem Z0m {P : Prop} (h : P := by rw [St.n_new]; omega) : P := h
theorem Z0n {P : Prop} (h : P := by ((try dsimp only); first | done | (exact fun j hj => absurd hj (Nat.not_lt_zero _)))) : P := h
theorem Z0o {P : Prop} (h : P := by first | (simp [*]; done) | (simp; omega)) : P := h
theorem Z0p {P : Prop} (h : P := by first | exact folded_neg h0 Z4 | exact folded_pos h0 Z4) : P := h
theorem Z0q {P : Prop} (h : P := by first | omega | (have q := h1.1; omega)) : P := h
theorem Z0r {P : Prop} (h : P := by rw [List.getElem?_append_left Z5]; exact p1) : P := h
theorem Z0s {P : Prop} (h : P := by simp [fitsK] at h) : P := h
theorem Z0t {P : Prop} (h : P := by simpa using h) : P := h
theorem Z0u {P : Prop} (h : P := by ((try dsimp only); first | done | (assumption))) : P := h
theorem Z0v {P : Prop} (h : P := by rintro i sp j ⟨h, rfl⟩; exact ⟨h, rfl⟩) : P := h
theorem Z0w {P : Prop} (h : P := by subst e; omega) : P := h
theorem Z0x {P : Prop} (h : P := by cases a <;> cases b <;> first | rfl | cases h) : P := h
theorem Z0y {P : Prop} (h : P := by first | omega | assumption) : P := h
theorem Z0z {P : Prop} (h : P := by simp only [cmpI]; (repeat' split) <;> omega) : P := h
theorem Z10 {P : Prop} (h : P := by rw [Nat.pow_succ, Nat.mul_assoc, Nat.mul_left_comm] at h; omega) : P := h
theorem Z11 {P : Prop} (h : P := by simpa using h1) : P := h
theorem Z12 {P : Prop} (h : P := by have := h1.1; omega) : P := h
theorem Z13 {P : Prop} (h : P := by have := (List.getElem?_eq_some_iff.1 hv).1; rwa [hf] at this) : P := h
theorem Z14 {P : Prop} (h : P := by simpa [Value.cells] using hx) : P := h
theorem Z15 {P : Prop} (h : P := by first | omega | assumption | exact fold_lt Z4) : P := h
theorem Z16 {P : Prop} (h : P := by have := keysB_len h0; simp only [List.nil_append]; omega) : P := h
theorem Z17 {P : Prop} (h : P := by simpa using h2) : P := h
theorem Z18 {P : Prop} (h : P := by ((try dsimp only); first | done | (exact rdI_step h1))) : P := h
theorem Z19 {P : Prop} (h : P := by simp only [List.length_cons]; omega) : P := h
theorem Z1a {P : Prop} (h : P := by simp [*]) : P := h
theorem Z1b {P : Prop} (h : P := by constructor) : P := h
theorem Z1c {P : Prop} (h : P := by rintro i sp j ⟨h, rfl⟩; exact .inl (if_pos h)) : P := h
theorem Z1d {P : Prop} (h : P := by intros; simp) : P := h
theorem Z1e {P : Prop} (h : P := by rintro rfl; exact hno i go rfl) : P := h
theorem Z1f {P : Prop} (h : P := by rw [St.n_new, St.n_set]; omega) : P := h
theorem Z1g {P : Prop} (h : P := by rw [List.length_drop]; omega) : P := h
theorem Z1h {P : Prop} (h : P := by rfl) : P := h
theorem Z1i {P : Prop} (h : P := by simp at h) : P := h
theorem Z1j {P : Prop} (h : P := by cases h; rfl) : P := h
theorem Z1k {P : Prop} (h : P := by rw [St.get_set, if_neg hj]) : P := h
theorem Z1l {P : Prop} (h : P := by rw [p3]; exact hx1) : P := h
theorem Z1m {P : Prop} (h : P := by cases hk) : P := h
theorem Zle {n k : Nat} (h : Nat.ble n k = true := by kernel_rfl) : n ≤ k := Nat.le_of_ble_eq_true h
