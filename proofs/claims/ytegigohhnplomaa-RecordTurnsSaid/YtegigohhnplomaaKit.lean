/- The closing steps that are written often, by name. -/
import Derived.Below
import Derived.Calls
import Derived.ChangeKeysEq
import Derived.Control
import Derived.KernelRfl
import Derived.Laws.Append
import Derived.Laws.BytesArg
import Derived.Laws.BytesString
import Derived.Laws.Cells
import Derived.Laws.CopyRow
import Derived.Laws.Externs
import Derived.Laws.Sem
import Derived.Laws.Strings
import Derived.Laws.StructEq
import Derived.Laws.Tables
import Derived.OpenShut
import Derived.Orders
import Derived.ProofKit
import GoSem.Step
theorem Z0 {P : Prop} (h : P := by first | rfl | exact Eq.symm Z2 | exact (xFu_v Z2).symm | exact (xCo_v Z2).symm | exact (xRs_v Z2).symm | exact (xSs_v Z2).symm | exact (xWs_v Z2).symm | exact (xFu_t Z2 Z2).symm | exact (xCo_t Z2 Z2).symm | exact (xRs_t Z2 Z2).symm | exact (xSs_t Z2 Z2).symm | exact (xWs_t Z2 Z2).symm | exact (xFu_f Z2 Z2).symm | exact (xCo_f Z2 Z2).symm | exact (xRs_f Z2 Z2).symm | exact (xSs_f Z2 Z2).symm | exact (xWs_f Z2 Z2).symm | exact (xWr_c Z2).symm | (have q := i0; rw [tws_stop hx, List.append_nil] at q; rw [xWr_v Z2, ← q])) : P := h
theorem Z1 {P : Prop} (h : P := by kernel_rfl) : P := h
theorem Z2 {P : Prop} (h : P := by assumption) : P := h
theorem Z3 {P : Prop} (h : P := by first | omega | assumption | (have q := ((good_c Z2).1 h0).2.2.1.1.2.2; omega) | exact u64_lt _ | (simp; done) | (refine app_le ?_; simp; done) | exact ((good_c Z2).1 h0).2.2.1 | exact (h5 _ (List.mem_of_getElem? Z2)).2.1 | exact (h5 _ (List.mem_of_getElem? Z2)).2.2 | exact body_1 h0 Z2 h4 | exact body_2 h0 Z2 h4 h1 h2 h3 | exact body_3 h0 Z2 h4 h1 h2 h3 | exact bl1 Z5 | exact bl2 (h5 _ (List.mem_of_getElem? Z2)) Z5 | exact bl3 (h5 _ (List.mem_of_getElem? Z2)) Z5 | exact bl4 | exact bl5 | exact bl6 i2 Z5 | exact bl7 i1 | (exact fun e => Z0o)) : P := h
theorem Z4 {P : Prop} (h : P := by first | omega | assumption | exact rdI_false _ | (have q := (tkeys_all (rdI_false b)).2.1; omega) | (have q := rdR_le cb cbad; omega) | (have q := rdR_le cb cbad; have q2 := rdR_le (rdR cb cbad) (rdB cb cbad); omega) | exact h1 | (rw [← (take_at i0 hx).1]; exact h2) | (rw [← (take_at i0 hx).2.1]; exact h3) | exact Nat.le_trans h1.1 Z5 | (rw [← (take_at i0 hx).1]; exact Nat.le_trans h2.1 Z5) | (rw [← (take_at i0 hx).2.1]; exact Nat.le_trans h3.1 Z5) | (exact putP_len2 h1 Z00 Zx)) : P := h
theorem Z5 {P : Prop} (h : P := by omega) : P := h
theorem Z6 {P : Prop} (h : P := by first | omega | assumption | exact u64_lt _ | exact (h1.at_ Z2).1 | exact (h1.at_ Z2).2 | exact app_leN Z5 Z06 | exact app_keys Z2 Z01 | exact app_keys Z2 Z5 | (exact app_le Z5) | exact app_leF (h1.at_ Z2).1 (Nat.le_trans (Nat.add_le_add_right (app_le (Nat.le_refl _)) 10) Z5) | (have q := h0.1; omega) | (have q := h1.1; omega) | (have q := h2.1; omega) | simp) : P := h
theorem Z7 {P : Prop} (h : P := by first | omega | assumption | exact tl h0 | (have q := tl h0; omega) | exact (x_all (tl h0)).1 | exact (x_all (tl h0)).2.1 | exact (x_all (tl h0)).2.2.1 | exact (x_all (tl h0)).2.2.2.1 | exact (x_all (tl h0)).2.2.2.2.1 | exact (x_all (tl h0)).2.2.2.2.2.1 | exact (x_all (tl h0)).2.2.2.2.2.2 | exact encB_len Z2 (x_all (tl h0)).1 (x_all (tl h0)).2.1 (x_all (tl h0)).2.2.1 (x_all (tl h0)).2.2.2.1 (x_all (tl h0)).2.2.2.2.1 (x_all (tl h0)).2.2.2.2.2.1) : P := h
theorem Z8 {P : Prop} (h : P := by first | omega | assumption | exact len5 h0 | exact len2 h0 | exact len1 h0 | exact len3 h0 | exact len4 h0 | exact (tk_all h0).1 | exact (tk_all h0).2.1 | exact (tk_all h0).2.2 | exact len6 Z5 | exact len7 Z5 | exact len8 Z5 i2) : P := h
theorem Z9 {P : Prop} (h : P := by first | exact (tf_false (fun h => absurd h.1 Z5)).symm | exact (tf_true ((good_v Z2).2 ⟨Z5, Z2, Z2⟩)).symm | exact (tf_false (fun h => absurd ((good_v Z2).1 h).2.1 Z2)).symm | exact (tf_false (fun h => absurd ((good_v Z2).1 h).2.2 Z2)).symm | exact (tf_true ((good_c Z2).2 ⟨Z5, Z5, Z2, Z2⟩)).symm | exact (tf_false (fun h => absurd ((good_c Z2).1 h).2.1 Z5)).symm | exact (tf_false (fun h => absurd ((good_c Z2).1 h).2.2.1 Z2)).symm | exact (tf_false (fun h => absurd ((good_c Z2).1 h).2.2.2 Z2)).symm) : P := h
theorem Za {P : Prop} (h : P := by first | exact (decide_eq_true Z5).symm | exact (decide_eq_false Z5).symm | (refine shp_at (k := _) Z2 ?_; rfl) | (rw [shp_none Z5]; rfl)) : P := h
theorem Zb {P : Prop} (h : P := by first | omega | assumption | exact rdI_false _ | (have q := rdR_le b false; omega) | (have q := rdR_le b false; have q2 := rdR_le (rdR b false) (rdB b false); omega) | (rw [← (dec_at i0 hx).1]; exact (dcs_all b).1) | (have q := progB_len (fu := dfu b) (co := acc) Zv Z04; exact Nat.le_trans q Z5)) : P := h
theorem Zc {P : Prop} (h : P := by first | omega | assumption | exact u64_lt _ | (have := hk.1.2.2; omega) | (simp; done) | (exact app_le Z0d) | (exact fld_in (h0 _ (List.mem_of_getElem? Z2)) _) | (simp only [List.length_append, List.length_cons, List.length_nil]; omega)) : P := h
theorem Zd {P : Prop} (h : P := by first | exact (tf_true Zu).symm | exact (tf_false Zt).symm) : P := h
theorem Ze {P : Prop} (h : P := by decide) : P := h
theorem Zf {P : Prop} (h : P := by first | rfl | (rw [tnV_s Z5]; done) | (rw [tnV_k Z5]; done) | (rw [tnV_k Z5]; rfl) | (rw [tnO_s Z5]; done) | (rw [tnO_k Z5]; done)) : P := h
theorem Zg {P : Prop} (h : P := by first | assumption | omega | (have q := h0.1; omega) | (have q := h1.1; omega) | (have q := h2.1; omega) | exact bodyB_len Z2 h0 h1 h2 h3 h4 h5) : P := h
theorem Zh {P : Prop} (h : P := by (repeat' first | assumption | exact hv_lt _ | exact byte_lt32 _ | exact ones_lt | refine xor_lt32 ?_ ?_ | refine div_lt32 ?_ | refine feed_lt _ ?_ | refine add_lt ?_ | decide)) : P := h
theorem Zi {P : Prop} (h : P := by (try simp only [List.length_cons, List.length_nil, List.length_append]); omega) : P := h
theorem Zj {P : Prop} (h : P := by first | exact (decide_eq_true Z5).symm | exact (decide_eq_false Z5).symm) : P := h
theorem Zk {P : Prop} (h : P := by first | exact (tf_false (good_bad (c := (op, qa, qb, qc, qt, qn)) hx)).symm | exact (tf_true ((good_yes (c := (op, qa, qb, qc, qt, qn)) Z2 i1 i2 hx).2 Z2)).symm | exact (tf_false (fun q => absurd ((good_yes (c := (op, qa, qb, qc, qt, qn)) Z2 i1 i2 hx).1 q) Z2)).symm | exact (tf_false (fun q => absurd q.1 Z2)).symm) : P := h
theorem Zl {P : Prop} (h : P := by intro e; have q := congrArg List.length e; simp only [List.length_nil] at q; omega) : P := h
theorem Zm {P : Prop} (h : P := by first | omega | (simp; done) | (simp; omega)) : P := h
theorem Zn {P : Prop} (h : P := by first | (obtain ⟨q1, q2⟩ := hx; refine Eq.symm (tf_false fun h => ?_); exact h.1 ⟨_, q1, q2⟩) | exact (tf_true ⟨NoI.none Z2 hx, Z2, Z2⟩).symm | (refine Eq.symm (tf_false fun h => ?_); obtain ⟨_, h1, h2⟩ := h; first | exact absurd h1 Z2 | exact absurd h2 Z2)) : P := h
theorem Zo {P : Prop} (h : P := by first | omega | assumption | exact ones_lt | exact feed_lt _ Z2 | (repeat' first | assumption | exact hv_lt _ | exact byte_lt32 _ | exact ones_lt | refine xor_lt32 ?_ ?_ | refine div_lt32 ?_ | refine feed_lt _ ?_ | refine add_lt ?_ | decide)) : P := h
theorem Zp {P : Prop} (h : P := by first | omega | exact u64_lt _ | exact h1.at_ Z2 | (have q := h1.1; omega) | (exact app_le Z5) | (have q := h1.1; first | exact app_le Z5 | exact app_leN Z5 Z5)) : P := h
theorem Zq {P : Prop} (h : P := by first | omega | assumption | (rw [List.length_set]; omega)) : P := h
theorem Zr {P : Prop} (h : P := by first | exact badW_no2 Z2 Z2 Z5 Z05 Z2 | exact badW_no1 Z2 Z5 Z05 Z5) : P := h
theorem Zs {P : Prop} (h : P := by first | rfl | (have q : b = [] := List.eq_nil_of_length_eq_zero Z5; subst q; rfl) | (cases b; (simp at *; done); rfl) | (cases b with | nil => simp at * | cons c r => rfl)) : P := h
theorem Zt {P : Prop} (h : P := by unfold soundP; (repeat' split) <;> first | omega | (intro h; omega)) : P := h
theorem Zu {P : Prop} (h : P := by unfold soundP; (repeat' split) <;> first | trivial | omega) : P := h
theorem Zv {P : Prop} (h : P := by have q := (show checkP (dfu b) acc by assumption).1.2.2; omega) : P := h
theorem Zw {P : Prop} (h : P := by cases h) : P := h
theorem Zx {P : Prop} (h : P := by rw [← (take_at i0 hx).2.1]; exact h3) : P := h
theorem Zy {P : Prop} (h : P := by ((try dsimp only); first | done | (omega))) : P := h
theorem Zz {P : Prop} (h : P := by first | (refine ⟨Z5, ?_⟩; first | (rw [badF_iff2 Z2 Z2]; omega) | (rw [badF_iff Z2]; first | exact .inl Z5 | exact .inr (.inl Z5))) | (rw [badF_iff2 Z2 Z2]; omega) | (rw [badF_iff Z2]; rintro (h | h | ⟨h, _⟩) <;> omega)) : P := h
theorem Z00 {P : Prop} (h : P := by rw [← (take_at i0 hx).1]; exact h2) : P := h
theorem Z01 {P : Prop} (h : P := by simp only [List.length_nil]; omega) : P := h
theorem Z02 {P : Prop} (h : P := by first | exact (decide_eq_false Z2).symm | exact (decide_eq_true (take_all Z2 Z2 Z5)).symm | exact (decide_eq_false (fun e => by subst e; omega)).symm) : P := h
theorem Z03 {P : Prop} (h : P := by first | (refine ⟨Z5, ?_⟩; first | (rw [badK_iff2 Z2 Z2]; omega) | (rw [badK_iff Z2]; exact .inl Z5)) | (rw [badK_iff2 Z2 Z2]; omega) | (rw [badK_iff Z2]; rintro (h | ⟨h, _⟩) <;> omega)) : P := h
theorem Z04 {P : Prop} (h : P := by rw [← (dec_at i0 hx).1]; exact (dcs_all b).1) : P := h
theorem Z05 {P : Prop} (h : P := by first | exact .inl Z2 | exact .inr Z2) : P := h
theorem Z06 {P : Prop} (h : P := by have q := keysB_len h0; omega) : P := h
theorem Z07 {P : Prop} (h : P := by first | exact (tf_false (fun h => h ⟨_, hx.1, hx.2⟩)).symm | exact (tf_true (NoI.none Z2 hx)).symm) : P := h
theorem Z08 {P : Prop} (h : P := by simp [bytesOf] at h) : P := h
theorem Z09 {P : Prop} (h : P := by first | omega | (simp; done) | (simp; omega) | (simp only [List.length_append, List.length_cons, List.length_nil]; omega) | assumption) : P := h
theorem Z0a {P : Prop} (h : P := by simp; omega) : P := h
theorem Z0b {P : Prop} (h : P := by simp only [Z1w, List.cons.injEq, Value.int.injEq, true_and, and_true] at h; exact Prod.ext h.1 (Prod.ext h.2.1 (Prod.ext h.2.2.1 (Prod.ext h.2.2.2.1 (Prod.ext h.2.2.2.2.1 (h.2.2.2.2.2)))))) : P := h
theorem Z0c {P : Prop} (h : P := by first | omega | (simp only [in64] at *; omega)) : P := h
theorem Z0d {P : Prop} (h : P := by simp) : P := h
theorem Z0e {P : Prop} (h : P := by ((try dsimp only); first | done | (rfl))) : P := h
theorem Z0f {P : Prop} (h : P := by first | (rw [putP, tf_false Z2]; rfl) | (rw [putP, tf_true Z2, if_pos rfl, i1, List.take_of_length_le Z5]; simp only [footB, spansB, List.append_assoc])) : P := h
theorem Z0g {P : Prop} (h : P := by first | omega | simp) : P := h
theorem Z0h {P : Prop} (h : P := by first | (simp only [cmp_or2]; done) | (exact (decide_eq_true (cmp_or2.1 Z2)).symm) | (exact (decide_eq_false (fun h => absurd (cmp_or2.2 h) Z2)).symm)) : P := h
theorem Z0i {P : Prop} (h : P := by simp [stepG, stepG.exec, fgo]) : P := h
theorem Z0j {P : Prop} (h : P := by first | omega | (have q := uv_len10 (x := b.length) Z5; simp only [List.length_append]; omega)) : P := h
theorem Z0k {P : Prop} (h : P := by first | rfl | exact hx.1 | (simp [rdV, rdR, rdB, hx]; done) | (obtain ⟨rfl, rfl, rfl⟩ := hx; rfl)) : P := h
theorem Z0l {P : Prop} (h : P := by first | omega | assumption | (have q := rdR_le b bad; omega) | (have q := rdR_le cb cbad; omega)) : P := h
theorem Z0m {P : Prop} (h : P := by rfl) : P := h
theorem Z0n {P : Prop} (h : P := by first | rfl | (rw [List.nil_append]) | (simp only [*]) | (simp [*])) : P := h
theorem Z0o {P : Prop} (h : P := by simp at e) : P := h
theorem Z0p {P : Prop} (h : P := by ((try dsimp only); first | done | (simp [catB]))) : P := h
theorem Z0q {P : Prop} (h : P := by rw [flatL_len hf]; have := Nat.mul_le_mul_right sz (show i + 1 ≤ l.length from hl); rw [Nat.succ_mul] at this; omega) : P := h
theorem Z0r {P : Prop} (h : P := by rw [hg]; exact id) : P := h
theorem Z0s {P : Prop} (h : P := by first | (exact (orL_hit Z2 hx.1 hx.2).symm) | exact (orL_none (NoHit.none Z2 hx)).symm) : P := h
theorem Z0t {P : Prop} (h : P := by ((try dsimp only); first | done | (exact NoI.zero))) : P := h
theorem Z0u {P : Prop} (h : P := by first | omega | exact rdV_lt _ _ | (have q := rd_le b bad; omega)) : P := h
theorem Z0v {P : Prop} (h : P := by simpa using h) : P := h
theorem Z0w {P : Prop} (h : P := by first | omega | assumption | (have q := tkR_le b bad; omega)) : P := h
theorem Z0x {P : Prop} (h : P := by first | omega | (have q := uv_pos x; simp only [List.length_cons, List.length_nil]; omega)) : P := h
theorem Z0y {P : Prop} (h : P := by rintro j rfl; exact ⟨hlt, fun _ => .inr ⟨_, L, hL⟩⟩) : P := h
theorem Z0z {P : Prop} (h : P := by rw [hx] at h1; obtain rfl := Option.some.inj h1; exact h2) : P := h
theorem Z10 {P : Prop} (h : P := by rw [St.n_new]; omega) : P := h
theorem Z11 {P : Prop} (h : P := by simpa using h1) : P := h
theorem Z12 {P : Prop} (h : P := by rw [List.getElem?_append_left Z5]; exact p1) : P := h
theorem Z13 {P : Prop} (h : P := by simp [fitsK] at h) : P := h
theorem Z14 {P : Prop} (h : P := by ((try dsimp only); first | done | (assumption))) : P := h
theorem Z15 {P : Prop} (h : P := by rintro i sp j ⟨h, rfl⟩; exact ⟨h, rfl⟩) : P := h
theorem Z16 {P : Prop} (h : P := by cases a <;> cases b <;> first | rfl | cases h) : P := h
theorem Z17 {P : Prop} (h : P := by first | omega | assumption) : P := h
theorem Z18 {P : Prop} (h : P := by simp only [cmpI]; (repeat' split) <;> omega) : P := h
theorem Z19 {P : Prop} (h : P := by rw [Nat.pow_succ, Nat.mul_assoc, Nat.mul_left_comm] at h; omega) : P := h
theorem Z1a {P : Prop} (h : P := by cases hk) : P := h
theorem Z1b {P : Prop} (h : P := by simpa using h2) : P := h
theorem Z1c {P : Prop} (h : P := by have := (List.getElem?_eq_some_iff.1 hv).1; rwa [hf] at this) : P := h
theorem Z1d {P : Prop} (h : P := by have q := rdV_lt b bad; omega) : P := h
theorem Z1e {P : Prop} (h : P := by simp at h) : P := h
theorem Z1f {P : Prop} (h : P := by simpa [Value.cells] using hx) : P := h
theorem Z1g {P : Prop} (h : P := by ((try dsimp only); first | done | (exact shp_len _))) : P := h
theorem Z1h {P : Prop} (h : P := by constructor) : P := h
theorem Z1i {P : Prop} (h : P := by rintro i sp j ⟨h, rfl⟩; exact .inl (if_pos h)) : P := h
theorem Z1j {P : Prop} (h : P := by intros; simp) : P := h
theorem Z1k {P : Prop} (h : P := by rintro rfl; exact hno i go rfl) : P := h
theorem Z1l {P : Prop} (h : P := by rw [St.n_new, St.n_set]; omega) : P := h
theorem Z1m {P : Prop} (h : P := by rw [List.length_drop]; omega) : P := h
theorem Z1n {P : Prop} (h : P := by cases h; rfl) : P := h
theorem Z1o {P : Prop} (h : P := by rw [St.get_set, if_neg hj]) : P := h
theorem Z1p {P : Prop} (h : P := by have := h1.1; omega) : P := h
theorem Z1q {P : Prop} (h : P := by rw [p3]; exact hx1) : P := h
theorem Z1r {P : Prop} (h : P := by simp [*]) : P := h
theorem Zle {n k : Nat} (h : Nat.ble n k = true := by kernel_rfl) : n ≤ k := Nat.le_of_ble_eq_true h
