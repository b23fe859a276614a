/- The closing steps that are written often, by name. -/
import Derived.Below
import Derived.Calls
import Derived.ChangeKeysEq
import Derived.Control
import Derived.KernelRfl
import Derived.Laws.Append
import Derived.Laws.BytesArg
import Derived.Laws.BytesString
import Derived.Laws.Cells
import Derived.Laws.CopyRow
import Derived.Laws.Externs
import Derived.Laws.Sem
import Derived.Laws.Strings
import Derived.Laws.StructEq
import Derived.Laws.Tables
import Derived.Orders
import Derived.ProofKit
import GoSem.Step
theorem Z0 {P : Prop} (h : P := by first | exact (tf_true ⟨⟨Z2, Z2, Z2⟩, Z1, Z1, Z1⟩).symm | exact (tf_false (rg_no1 fun q => Z9)).symm | exact (tf_false (rg_no2 Z1)).symm | exact (tf_false (rg_no3 Z1)).symm | exact (tf_false (rg_no4 Z1)).symm) : P := h
theorem Z1 {P : Prop} (h : P := by ((try dsimp only); first | (rw [if_pos Z2]; first | omega | assumption) | (rw [if_neg Z2]; first | omega | assumption | (rw [if_pos Z2]; omega) | (rw [if_neg Z2]; first | exact .inl Z2 | exact .inr Z2 | (rintro (q | q) <;> contradiction))))) : P := h
theorem Z2 {P : Prop} (h : P := by assumption) : P := h
theorem Z3 {P : Prop} (h : P := by kernel_rfl) : P := h
theorem Z4 {P : Prop} (h : P := by omega) : P := h
theorem Z5 {P : Prop} (h : P := by first | exact rn_no hx | exact (tf_false hx).symm | exact rn_no (num_low Z4) | exact rn_no (num_big Z4) | exact (tf_false (num_low Z4)).symm | exact (tf_false (num_big Z4)).symm | exact rn_yes (w64_in _) Z2 | exact rn_yes Z2 Z2 | exact (tf_true ⟨_, w64_in _, Z2⟩).symm | exact (tf_true ⟨_, Z2, Z2⟩).symm | exact rn_no (num_calc0 Z2 Z2 hx Z2 Z2) | exact rn_no (num_calc1 Z2 Z2 hx Z2 Z2) | exact (tf_false (num_calc0 Z2 Z2 hx Z2 Z2)).symm | exact (tf_false (num_calc1 Z2 Z2 hx Z2 Z2)).symm) : P := h
theorem Z6 {P : Prop} (h : P := by first | exact rt_j Z4 Z2 Z4 Z2 | exact rt_n Z4 | exact rt_d Z4 Z4 | exact rt_e Z4 Z4 Z2) : P := h
theorem Z7 {P : Prop} (h : P := by first | exact (tf_true ⟨0, Zj, Zj, Z2⟩).symm | exact (tf_true ⟨1, Zj, Zj, Z2⟩).symm | exact (tf_true ⟨2, Zj, Zj, Z2⟩).symm | exact (tf_true ⟨3, Zj, Zj, Z2⟩).symm | exact (tf_false (rel_none Z2 Z2 Z2 Z2)).symm | (unfold relN; first | (rw [if_pos Z2]; done) | (rw [if_neg Z2, if_pos Z2]; done) | (rw [if_neg Z2, if_neg Z2, if_pos Z2]; done) | (rw [if_neg Z2, if_neg Z2, if_neg Z2, if_pos Z2]; done) | (rw [if_neg Z2, if_neg Z2, if_neg Z2, if_neg Z2]; done))) : P := h
theorem Z8 {P : Prop} (h : P := by first | omega | assumption | decide | rfl | exact split_pos _ _ | exact h0.2 | exact pfu_in _ | exact pco_in _ | exact Nat.le_trans (split_many _) Z4 | exact Nat.le_trans (lines_many _) Z4 | exact Nat.le_trans (pco_len _) Z4) : P := h
theorem Z9 {P : Prop} (h : P := by first | exact absurd q.1 Z2 | exact q.1 Z2 | exact absurd q.2.1 Z2 | exact absurd q.2.2 Z2) : P := h
theorem Za {P : Prop} (h : P := by first | (unfold takN; first | (rw [if_pos Z4]; done) | (rw [if_neg Z4, if_pos Z4]; done) | (rw [if_neg Z4, if_neg Z4, if_pos Z4]; done) | (rw [if_neg Z4, if_neg Z4, if_neg Z4]; done)) | (unfold takP; first | (rw [if_pos Z4]; done) | (rw [if_neg Z4, if_pos Z4]; done) | (rw [if_neg Z4, if_neg Z4, if_pos Z4]; done) | (rw [if_neg Z4, if_neg Z4, if_neg Z4]; done))) : P := h
theorem Zb {P : Prop} (h : P := by first | exact (decide_eq_true Z4).symm | exact (decide_eq_false Z4).symm | (refine shp_at (k := _) Z2 ?_; rfl) | (rw [shp_none Z4])) : P := h
theorem Zc {P : Prop} (h : P := by first | omega | assumption | exact Nat.le_trans (lnW_len _ _) Z2 | exact split_pos _ _ | exact shp_len _ | exact split_many _ | (rw [i3, co_len]; omega)) : P := h
theorem Zd {P : Prop} (h : P := by exact (congrArg bstr Zf)) : P := h
theorem Ze {P : Prop} (h : P := by refine add_le2 Zr Zn) : P := h
theorem Zf {P : Prop} (h : P := by unfold relB; first | (rw [if_pos Z4]; done) | (rw [if_neg Z4, if_pos Z4]; done) | (rw [if_neg Z4, if_neg Z4, if_pos Z4]; done) | (rw [if_neg Z4, if_neg Z4, if_neg Z4, if_pos Z4]; done) | (rw [if_neg Z4, if_neg Z4, if_neg Z4, if_neg Z4])) : P := h
theorem Zg {P : Prop} (h : P := by first | exact congrArg bstr (shp_arith Z4) | (refine congrArg bstr (shp_at2 (k := _) Z2 ?_); rfl) | (rw [shp_none Z4])) : P := h
theorem Zh {P : Prop} (h : P := by unfold wordP; first | (rw [if_pos Z4]; done) | (rw [if_neg Z4, if_pos Z4]; done) | (rw [if_neg Z4, if_neg Z4, if_pos Z4]; done) | (rw [if_neg Z4, if_neg Z4, if_neg Z4]; done)) : P := h
theorem Zi {P : Prop} (h : P := by first | exact (tf_true Zy).symm | exact (tf_false Zw).symm) : P := h
theorem Zj {P : Prop} (h : P := by decide) : P := h
theorem Zk {P : Prop} (h : P := by first | exact (rcheck_ok ⟨⟨⟨Z4, Z4⟩, Z4, Z4⟩, fun i h q => NoI.none Z2 hx ⟨i, h, q⟩⟩).symm | exact (rcheck_at ⟨⟨Z4, Z4⟩, Z4, Z4⟩ Z2 hx.1 hx.2).symm | exact (rcheck_range (fun q => Z07)).symm) : P := h
theorem Zl {P : Prop} (h : P := by unfold fld; first | (rw [if_pos Z4]; done) | (rw [if_neg Z4, if_pos Z4]; done) | (rw [if_neg Z4, if_neg Z4, if_pos Z4]; done) | (rw [if_neg Z4, if_neg Z4, if_neg Z4, if_pos Z4]; done) | (rw [if_neg Z4, if_neg Z4, if_neg Z4, if_neg Z4])) : P := h
theorem Zm {P : Prop} (h : P := by first | exact (decide_eq_true Z4).symm | exact (decide_eq_false Z03).symm | (rw [wordB_no Z4]; done) | (rw [wordB_no Z03]; done) | (rw [wordB_at Z4 Z2]; done) | (exact (decide_eq_true Z03).symm)) : P := h
theorem Zn {P : Prop} (h : P := by first | exact Nat.le_trans (itoa_len (fld_in h0)) Zj | exact Nat.le_trans (relB_len _) Zj | (simp only [List.length_cons, List.length_nil]; omega)) : P := h
theorem Zo {P : Prop} (h : P := by first | (rw [Z2j, if_pos Z2]; done) | (rw [Z2j, if_neg Z2]; done) | exact (tf_true ⟨Z2, Z4⟩).symm | exact (tf_false (fun q => Z1g)).symm | exact (tf_false (fun q => absurd q.1 Z2)).symm) : P := h
theorem Zp {P : Prop} (h : P := by exact (congrArg bstr Zs)) : P := h
theorem Zq {P : Prop} (h : P := by first | exact (tf_false (good_bad (c := (op, qa, qb, qc, qt, qn)) hx)).symm | exact (tf_true ((good_yes (c := (op, qa, qb, qc, qt, qn)) Z2 i1 i2 hx).2 Z2)).symm | exact (tf_false (fun q => absurd ((good_yes (c := (op, qa, qb, qc, qt, qn)) Z2 i1 i2 hx).1 q) Z2)).symm | exact (tf_false (fun q => absurd q.1 Z2)).symm) : P := h
theorem Zr {P : Prop} (h : P := by have q := line_len (c := (op, qa, qb, qc, qt, qn)) h0 i1; (try simp only [List.length_append, List.length_cons, List.length_nil]); omega) : P := h
theorem Zs {P : Prop} (h : P := by unfold wordP; first | (rw [if_pos Z4]; rfl) | (rw [if_neg Z4, if_pos Z4]; rfl) | (rw [if_neg Z4, if_neg Z4, if_pos Z4]) | (rw [if_neg Z4, if_neg Z4, if_neg Z4]; done)) : P := h
theorem Zt {P : Prop} (h : P := by first | exact (decide_eq_true ⟨Z2, take_all Z2 Z2 Z4⟩).symm | exact (decide_eq_false (fun e => absurd e.2 Z2)).symm | exact (decide_eq_false (fun e => absurd e.1 Z2)).symm | exact (decide_eq_false (fun e => Z17)).symm) : P := h
theorem Zu {P : Prop} (h : P := by unfold regP; first | exact (tf_true (.inl ⟨rfl, Z4, Z4⟩)).symm | exact (tf_true (.inr ⟨rfl, Z4⟩)).symm | exact (tf_false (fun q => Z0p)).symm) : P := h
theorem Zv {P : Prop} (h : P := by first | exact .inl ⟨Z4, Z2⟩ | exact .inr (.inl ⟨Z4, Z2⟩) | exact .inr (.inr ⟨Z4, Z2⟩)) : P := h
theorem Zw {P : Prop} (h : P := by unfold soundP; (repeat' split) <;> first | omega | (intro h; omega)) : P := h
theorem Zx {P : Prop} (h : P := by ((try dsimp only); first | done | (omega))) : P := h
theorem Zy {P : Prop} (h : P := by unfold soundP; (repeat' split) <;> first | trivial | omega) : P := h
theorem Zz {P : Prop} (h : P := by first | omega | (have q := shp_len op; omega)) : P := h
theorem Z00 {P : Prop} (h : P := by first | exact (tf_true ⟨Z2, Z2⟩).symm | exact (tf_false (fun q => absurd q.1 Z2)).symm | exact (tf_false (fun q => absurd q.2 Z2)).symm) : P := h
theorem Z01 {P : Prop} (h : P := by first | exact congrArg bstr (cut_yes Z2) | exact congrArg bstr (cut_no Z2) | exact (tf_true Z2).symm | exact (tf_false Z2).symm) : P := h
theorem Z02 {P : Prop} (h : P := by cases h) : P := h
theorem Z03 {P : Prop} (h : P := by have := wordsL_len; omega) : P := h
theorem Z04 {P : Prop} (h : P := by ((try dsimp only); first | done | (rfl))) : P := h
theorem Z05 {P : Prop} (h : P := by first | rfl | (exfalso; first | exact absurd (And.intro rfl rfl) Z2 | exact absurd (show pFu tx = pFu tx ∧ pCo tx = pCo tx from ⟨rfl, rfl⟩) Z2)) : P := h
theorem Z06 {P : Prop} (h : P := by rintro (⟨q1, q2⟩ | ⟨q1, q2⟩ | ⟨q1, q2⟩) <;> first | omega | contradiction) : P := h
theorem Z07 {P : Prop} (h : P := by have q1 := q.1.1; have q2 := q.1.2; have q3 := q.2.1; have q4 := q.2.2; omega) : P := h
theorem Z08 {P : Prop} (h : P := by first | exact (tf_true (num_yes Z2)).symm | exact (tf_false (num_no1 Z2)).symm | exact (tf_false (num_no2 Z2)).symm) : P := h
theorem Z09 {P : Prop} (h : P := by first | exact (tf_true (pre_yes Z2)).symm | exact (tf_false (pre_no1 Z2)).symm | exact (tf_false (pre_no2 Z2)).symm) : P := h
theorem Z0a {P : Prop} (h : P := by first | omega | assumption | exact split_pos _ _ | (rw [i4, co_len]; omega)) : P := h
theorem Z0b {P : Prop} (h : P := by simp [bytesOf] at h) : P := h
theorem Z0c {P : Prop} (h : P := by first | omega | (simp only [List.length_set]; omega)) : P := h
theorem Z0d {P : Prop} (h : P := by simp; omega) : P := h
theorem Z0e {P : Prop} (h : P := by first | (rw [wordB_no Z4]; done) | (rw [wordB_no Z03]; done) | (rw [wordB_at Z4 Z2])) : P := h
theorem Z0f {P : Prop} (h : P := by first | omega | assumption | (rw [join_line (c := (op, qa, qb, qc, qt, qn)) i1 hx]; exact Nat.le_trans (lineR_len h0) Zj)) : P := h
theorem Z0g {P : Prop} (h : P := by (have q := congrArg List.length i3; rw [co_len] at q; simp only [List.length_append, List.length_cons, List.length_nil]; omega)) : P := h
theorem Z0h {P : Prop} (h : P := by simp only [Z29, List.cons.injEq, Value.int.injEq, true_and, and_true] at h; exact Prod.ext h.1 (Prod.ext h.2.1 (Prod.ext h.2.2.1 (Prod.ext h.2.2.2.1 (Prod.ext h.2.2.2.2.1 (h.2.2.2.2.2)))))) : P := h
theorem Z0i {P : Prop} (h : P := by have q := itoa_len (fld_in (x := x) h0); simp only [List.length_cons, List.length_nil]; omega) : P := h
theorem Z0j {P : Prop} (h : P := by simp [stepG, stepG.exec, fgo]) : P := h
theorem Z0k {P : Prop} (h : P := by first | omega | assumption | exact Nat.le_trans (wdW_len _ _) Z2 | (rw [j1]; exact rF_in Z1o _)) : P := h
theorem Z0l {P : Prop} (h : P := by first | omega | exact Nat.le_trans (wdW_len _ _) Z2 | (have q := shp_len (opN (wdW tx 0)); omega)) : P := h
theorem Z0m {P : Prop} (h : P := by first | exact fld_in h0 | omega) : P := h
theorem Z0n {P : Prop} (h : P := by ((try dsimp only); first | done | (exact NoI.zero))) : P := h
theorem Z0o {P : Prop} (h : P := by unfold opN; first | (obtain ⟨x, h1, h2⟩ := hx; exact (fidx_hit Z2 h1 h2).symm) | exact (fidx_none (NoHit.none Z2 hx)).symm) : P := h
theorem Z0p {P : Prop} (h : P := by rcases q with q | q <;> first | omega | (cases q.1; done)) : P := h
theorem Z0q {P : Prop} (h : P := by first | exact (tf_true hx).symm | exact (tf_false fun q => NoHit.none (p := fun y : UInt8 => y = x) Z2 hx ⟨x, q, rfl⟩).symm) : P := h
theorem Z0r {P : Prop} (h : P := by first | exact (decide_eq_true Z4).symm | exact (decide_eq_false Z4).symm) : P := h
theorem Z0s {P : Prop} (h : P := by first | omega | exact Nat.le_trans (cut_len _ _) Z2) : P := h
theorem Z0t {P : Prop} (h : P := by ((try dsimp only); first | done | (exact (show (-9223372036854775808 : Int) ≤ 0 ∧ (0 : Int) < 9223372036854775808 by decide)))) : P := h
theorem Z0u {P : Prop} (h : P := by simp) : P := h
theorem Z0v {P : Prop} (h : P := by rw [hg]; exact id) : P := h
theorem Z0w {P : Prop} (h : P := by first | exact split_pos _ _ | omega) : P := h
theorem Z0x {P : Prop} (h : P := by rw [St.n_new]; omega) : P := h
theorem Z0y {P : Prop} (h : P := by exact congrArg bstr Z1b) : P := h
theorem Z0z {P : Prop} (h : P := by rintro i sp j ⟨h, rfl⟩; exact ⟨h, rfl⟩) : P := h
theorem Z10 {P : Prop} (h : P := by have := (List.getElem?_eq_some_iff.1 hv).1; rwa [hf] at this) : P := h
theorem Z11 {P : Prop} (h : P := by rintro j rfl; exact ⟨hlt, fun _ => .inr ⟨_, L, hL⟩⟩) : P := h
theorem Z12 {P : Prop} (h : P := by exact congrArg bstr Z1m) : P := h
theorem Z13 {P : Prop} (h : P := by first | omega | simp) : P := h
theorem Z14 {P : Prop} (h : P := by constructor <;> decide) : P := h
theorem Z15 {P : Prop} (h : P := by simpa using h) : P := h
theorem Z16 {P : Prop} (h : P := by ((try dsimp only); first | done | (exact shp_len op))) : P := h
theorem Z17 {P : Prop} (h : P := by have := congrArg List.length e.2; omega) : P := h
theorem Z18 {P : Prop} (h : P := by rw [List.getElem?_append_left Z4]; exact p1) : P := h
theorem Z19 {P : Prop} (h : P := by first | (unfold in64 at h0; omega) | (unfold in64 at h0; unfold u64; omega)) : P := h
theorem Z1a {P : Prop} (h : P := by simp [fitsK] at h) : P := h
theorem Z1b {P : Prop} (h : P := by first | exact itoa_neg Z2 | exact itoa_pos h0 Z2) : P := h
theorem Z1c {P : Prop} (h : P := by rw [List.length_take]; omega) : P := h
theorem Z1d {P : Prop} (h : P := by first | rfl | omega) : P := h
theorem Z1e {P : Prop} (h : P := by simpa using h1) : P := h
theorem Z1f {P : Prop} (h : P := by cases a <;> cases b <;> first | rfl | cases h) : P := h
theorem Z1g {P : Prop} (h : P := by have := q.2; omega) : P := h
theorem Z1h {P : Prop} (h : P := by first | assumption | omega) : P := h
theorem Z1i {P : Prop} (h : P := by first | exact atN_in _ | assumption | omega) : P := h
theorem Z1j {P : Prop} (h : P := by rw [Nat.pow_succ, Nat.mul_assoc, Nat.mul_left_comm] at h; omega) : P := h
theorem Z1k {P : Prop} (h : P := by rw [UInt8.toNat_ofNat']; omega) : P := h
theorem Z1l {P : Prop} (h : P := by cases h; rfl) : P := h
theorem Z1m {P : Prop} (h : P := by first | exact dec_small Z4 | exact dec_big Z4) : P := h
theorem Z1n {P : Prop} (h : P := by simpa [Value.cells] using hx) : P := h
theorem Z1o {P : Prop} (h : P := by rw [i1]; have q := rop_lt (wdW tx 0) k; unfold in64; omega) : P := h
theorem Z1p {P : Prop} (h : P := by have := h.1; omega) : P := h
theorem Z1q {P : Prop} (h : P := by simpa using h2) : P := h
theorem Z1r {P : Prop} (h : P := by ((try dsimp only); first | done | (exact NoHit.zero))) : P := h
theorem Z1s {P : Prop} (h : P := by rw [hw0, Lib.cell_of_heap (heap_alloc_new w _)]; rfl) : P := h
theorem Z1t {P : Prop} (h : P := by constructor) : P := h
theorem Z1u {P : Prop} (h : P := by rintro i sp j ⟨h, rfl⟩; exact .inl (if_pos h)) : P := h
theorem Z1v {P : Prop} (h : P := by rw [tf_false h]) : P := h
theorem Z1w {P : Prop} (h : P := by intros; simp) : P := h
theorem Z1x {P : Prop} (h : P := by rintro rfl; exact hno i go rfl) : P := h
theorem Z1y {P : Prop} (h : P := by rw [St.n_new, St.n_set]; omega) : P := h
theorem Z1z {P : Prop} (h : P := by simpa using hi) : P := h
theorem Z20 {P : Prop} (h : P := by rw [tf_true h]) : P := h
theorem Z21 {P : Prop} (h : P := by simp at h) : P := h
theorem Z22 {P : Prop} (h : P := by rw [tf_false (h j hj)]; rfl) : P := h
theorem Z23 {P : Prop} (h : P := by rw [St.get_set, if_neg hj]) : P := h
theorem Z24 {P : Prop} (h : P := by rw [p3]; exact hx1) : P := h
theorem Z25 {P : Prop} (h : P := by rw [hname.1]; rfl) : P := h
theorem Z26 {P : Prop} (h : P := by rw [hf]; exact ho) : P := h
theorem Zle {n k : Nat} (h : Nat.ble n k = true := by kernel_rfl) : n ≤ k := Nat.le_of_ble_eq_true h
