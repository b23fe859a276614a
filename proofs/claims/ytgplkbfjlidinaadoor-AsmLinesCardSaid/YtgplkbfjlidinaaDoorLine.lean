/- The document: the line of an instruction. -/
import Derived.Test.YtgplkbfjlidinaaDoorFigs
set_option linter.unusedVariables false
set_option linter.unusedSimpArgs false
set_option linter.unnecessarySimpa false
namespace Go.Proofs.YtgplkbfjlidinaaDoor
open Go.Ai
/-- what stands behind a line's first word -/
def tailB (l : List UInt8) (c : Code) : List UInt8 := (l.map fun x => 32 :: wordP x (fld x c)).flatten
def lineR (c : Code) : List UInt8 := wordB c.1 ++ tailB (shp c.1) c
theorem tail_succ {l : List UInt8} {i : Nat} {x : UInt8} {c : Code} (h : l[i]? = some x) : tailB (l.take (i + 1)) c = tailB (l.take i) c ++ (32 :: wordP x (fld x c)) := by
  unfold tailB
  rw [List.take_add_one, h]
  simp
theorem tail_len {c : Code} (h : inC c) : ∀ l : List UInt8, (tailB l c).length ≤ l.length * 23
  | [] => by simp [tailB]
  | x :: l => by
    have := tail_len h l
    have q := wordP_len (x := x) (fld_in (x := x) h)
    have e : tailB (x :: l) c = (32 :: wordP x (fld x c)) ++ tailB l c := by simp [tailB]
    rw [e, List.length_append, List.length_cons, List.length_cons]
    omega
theorem line_len {c : Code} {o : List UInt8} {i : Nat} (h : inC c) (ho : o = wordB c.1 ++ tailB ((shp c.1).take i) c) : o.length ≤ 200 := by
  have q := tail_len h ((shp c.1).take i)
  have q2 := shp_len c.1
  have q3 := wordB_len c.1
  have q4 : ((shp c.1).take i).length ≤ 5 := by rw [List.length_take]; omega
  rw [ho, List.length_append]
  omega
theorem line_step {c : Code} {o w : List UInt8} {i : Nat} {x : UInt8} (hx : (shp c.1)[i]? = some x) (ho : o = wordB c.1 ++ tailB ((shp c.1).take i) c) (hw : w = wordP x (fld x c)) : o ++ [32] ++ w = wordB c.1 ++ tailB ((shp c.1).take (i + 1)) c := by
  rw [tail_succ hx, ho, hw]
  simp
theorem line_step2 {c : Code} {o w : List UInt8} {a x : UInt8} {i : Nat} (hx : (shp c.1)[i]? = some x) (ho : o = wordB c.1 ++ tailB ((shp c.1).take i) c) (hw : a :: w = wordP x (fld x c)) : o ++ [32] ++ [a] ++ w = wordB c.1 ++ tailB ((shp c.1).take (i + 1)) c := by
  rw [← line_step hx ho hw]
  simp
theorem line_end {c : Code} {o : List UInt8} {i : Nat} (ho : o = wordB c.1 ++ tailB ((shp c.1).take i) c) (h : ¬ i < (shp c.1).length) : o = lineR c := by rw [ho, List.take_of_length_le (by omega)]; rfl
theorem add_le2 {a b : List UInt8} (h : a.length ≤ 1000) (h' : b.length ≤ 1000) : a.length + b.length ≤ 4611686018427387904 := by omega
theorem rline_fn : Tryd.cfg.fn 11 = some Tryd.f11 := by kernel_rfl
set_option maxHeartbeats 4000000 in
set_option maxRecDepth 100000 in
theorem rline_sc (op : Int) (qa : Int) (qb : Int) (qc : Int) (qt : Int) (qn : Int) (h0 : inC (op, qa, qb, qc, qt, qn)) : SC Tryd.prog 1001 11 [.agg #[.int .i64 op, .int .i64 qa, .int .i64 qb, .int .i64 qc, .int .i64 qt, .int .i64 qn]] (St.empty 0) fun v s' => v = .string (bstr (lineR (op, qa, qb, qc, qt, qn))) ∧ s'.n ≤ 400 := by
  obtain ⟨rc, hS, hC⟩ := rc_con (sound_run Tryd.cfgOk 300) [con_rword, con_rshape, con_value, con_figures, con_sign] (by kernel_rfl)
  have hC8 := hC con_rword (.head _)
  have hC20 := hC con_rshape (.tail _ (.head _))
  have hC21 := hC con_value (.tail _ (.tail _ (.head _)))
  have hC22 := hC con_figures (.tail _ (.tail _ (.tail _ (.head _))))
  have hC23 := hC con_sign (.tail _ (.tail _ (.tail _ (.tail _ (.head _)))))
  refine sc_ice0 (N := 400) (v2 := .string (bstr (lineR (op, qa, qb, qc, qt, qn)))) (Q := fun v s' => FS 0 s' v (.string (bstr (lineR (op, qa, qb, qc, qt, qn)))) ∧ s'.n ≤ 400) ?_ (fun _ _ h => h)
  refine sc_body Tryd.cfgOk rline_fn rfl ?_
  refine sk_seq ?_
  refine kK Tryd.cfgOk hS ?_
  refine sk_seq ?_
  refine sk_regionL Tryd.cfgOk hS ?_
  refine aK 2 ?_
  refine aC 8 [.int .i64 op] (.string (bstr (wordB op))) _ rfl (hC8 _ _ _ _ (con_rword_at op  _)) ?_
  refine aN ?_
  refine sk_seq ?_
  refine sk_regionL Tryd.cfgOk hS ?_
  refine aK 2 ?_
  refine aC 20 [.int .i64 op] (.string (bstr (shp op))) _ rfl (hC20 _ _ _ _ (con_rshape_at op  _)) ?_
  refine aN ?_
  refine sk_seq (sk_seq ?_)
  refine kK Tryd.cfgOk hS ?_
  refine sk_block ?_
  refine sk_live 56 ((fun a : Nat × (List UInt8) => [(1, .pointer (some ⟨0, 0, none⟩)), (3, .string (bstr a.2)), (4, .string (bstr (shp op))), (5, .int .i64 ((a.1 : Nat) : Int))]) (0, wordB op)) (by kernel_rfl) ⟨by kernel_rfl, by kernel_rfl, by kernel_rfl, by kernel_rfl, trivial⟩ fun m1 => ?_
  refine sk_st ((fun a : Nat × (List UInt8) => ((St.empty 0).new (.cells [.int .i64 op, .int .i64 qa, .int .i64 qb, .int .i64 qc, .int .i64 qt, .int .i64 qn]))) (0, wordB op)) (by kernel_rfl) ?_
  refine (sk_while (k := 1) (N := 400) (live := (fun a : Nat × (List UInt8) => [(1, .pointer (some ⟨0, 0, none⟩)), (3, .string (bstr a.2)), (4, .string (bstr (shp op))), (5, .int .i64 ((a.1 : Nat) : Int))])) (M := (fun a : Nat × (List UInt8) => ((St.empty 0).new (.cells [.int .i64 op, .int .i64 qa, .int .i64 qb, .int .i64 qc, .int .i64 qt, .int .i64 qn])))) (fun a : Nat × (List UInt8) => (a.1 ≤ (shp op).length) ∧ (a.2 = wordB op ++ tailB ((shp op).take a.1) (op, qa, qb, qc, qt, qn)) ∧ ((shp op).length ≤ 5)) (fun a : Nat × (List UInt8) => (shp op).length - a.1) (fun (a : Nat × (List UInt8)) (o : Out) (lv : List (Nat × Value)) (M : St) => (o = .exit 0 ∧ (¬ a.1 < (shp op).length) ∧ lv = [(1, .pointer (some ⟨0, 0, none⟩)), (3, .string (bstr a.2)), (4, .string (bstr (shp op))), (5, .int .i64 ((a.1 : Nat) : Int))] ∧ M = ((St.empty 0).new (.cells [.int .i64 op, .int .i64 qa, .int .i64 qb, .int .i64 qc, .int .i64 qt, .int .i64 qn])))) (Nat.zero_le _) (fun a ha => ?_) (fun a ha => ?_) (fun a m ha => ?_) (fun a m ha => ?_) (0, wordB op) m1 ?_).up ?_
  · exact ⟨by kernel_rfl, ((wf_empty 0).new _), (selfs (all_cons (o := .cells [.int .i64 op, .int .i64 qa, .int .i64 qb, .int .i64 qc, .int .i64 qt, .int .i64 qn]) (by kernel_rfl) (OSub.cells (.cons (sub_clo rfl) (.cons (sub_clo rfl) (.cons (sub_clo rfl) (.cons (sub_clo rfl) (.cons (sub_clo rfl) (.cons (sub_clo rfl) .nil))))))) (all_none)))⟩
  · exact ⟨.ptr ⟨by decide, rfl⟩, sub_clo rfl, sub_clo rfl, sub_clo rfl, trivial⟩
  · exact ⟨by kernel_rfl, by kernel_rfl, by kernel_rfl, by kernel_rfl, trivial⟩
  · obtain ⟨i, o⟩ := a
    obtain ⟨i0, i1, i2⟩ := ha
    dsimp only at i0 i1 i2
    refine sk_seq (sk_seq ?_)
    refine sk_regionL Tryd.cfgOk hS ?_
    refine aK 3 ?_
    refine aT (fun h2 => ?_) (fun h2 => ?_)
    · have c3e : (decide ((((i : Nat) : Int) : Int) < (((shp op).length : Nat) : Int))) = true := Eq.trans (by kernel_rfl) h2
      clear h2
      have c3 : (((i : Nat) : Int) : Int) < (((shp op).length : Nat) : Int) := of_decide_eq_true c3e
      clear c3e
      refine al_nil ?_
      refine kT ?_
      refine sk_skip (sk_seq (sk_block (sk_seq ?_)))
      have hx4l : i < (shp op).length := by omega
      refine Exists.elim (get_ex hx4l) fun x4 hx4 => ?_
      clear hx4l
      refine sk_drawL Tryd.cfgOk hS ?_
      refine dK 3 ?_
      refine dM (indexV Tryd.cfg 9 (.string (bstr (shp op))) (.int .i64 ((i : Nat) : Int))) (.int .u8 ((x4.toNat : Nat) : Int)) (index_bstr (by kernel_rfl) hx4) ?_
      refine dC 21 [.agg #[.int .i64 op, .int .i64 qa, .int .i64 qb, .int .i64 qc, .int .i64 qt, .int .i64 qn], .int .u8 ((x4.toNat : Nat) : Int)] (.int .i64 (fld x4 (op, qa, qb, qc, qt, qn))) _ rfl (hC21 _ _ _ _ (con_value_at x4 op qa qb qc qt qn  _)) ?_
      refine dK 1 ?_
      refine ald_nil ?_
      refine sk_seq ?_
      refine sk_regionL Tryd.cfgOk hS ?_
      refine aK 1 ?_
      refine aM (strBin .add (bstr o) (bstr [32])) (.string (bstr (o ++ [32]))) (add_bstr (by refine add_le2 (by have q := line_len (c := (op, qa, qb, qc, qt, qn)) h0 i1; (try simp only [List.length_append, List.length_cons, List.length_nil]); omega) (by first | exact Nat.le_trans (itoa_len (fld_in h0)) (by decide) | exact Nat.le_trans (relB_len _) (by decide) | (simp only [List.length_cons, List.length_nil]; omega)))) ?_
      refine aN ?_
      refine sk_seq ?_
      refine sk_regionL Tryd.cfgOk hS ?_
      refine aK 2 ?_
      refine aM (indexV Tryd.cfg 9 (.string (bstr (shp op))) (.int .i64 ((i : Nat) : Int))) (.int .u8 ((x4.toNat : Nat) : Int)) (index_bstr (by kernel_rfl) hx4) ?_
      refine al_nil ?_
      refine sk_block (sk_seq (sk_seq ?_))
      refine sk_regionL Tryd.cfgOk hS ?_
      refine aT (fun h5 => ?_) (fun h5 => ?_)
      · have c6e : ((((x4.toNat : Nat) : Int) : Int) == 97) = true := Eq.trans (by kernel_rfl) h5
        clear h5
        have c6 : (((x4.toNat : Nat) : Int) : Int) = 97 := eq_of_beq c6e
        clear c6e
        refine aN ?_
        refine kT ?_
        refine sk_skip ?_
        refine kT ?_
        refine sk_regionL Tryd.cfgOk hS ?_
        refine aK 1 ?_
        refine aM (strBin .add (bstr (o ++ [32])) (bstr [114])) (.string (bstr (o ++ [32] ++ [114]))) (add_bstr (by refine add_le2 (by have q := line_len (c := (op, qa, qb, qc, qt, qn)) h0 i1; (try simp only [List.length_append, List.length_cons, List.length_nil]); omega) (by first | exact Nat.le_trans (itoa_len (fld_in h0)) (by decide) | exact Nat.le_trans (relB_len _) (by decide) | (simp only [List.length_cons, List.length_nil]; omega)))) ?_
        refine aK 1 ?_
        refine aC 22 [.int .i64 (fld x4 (op, qa, qb, qc, qt, qn))] (.string (bstr (Lib.itoa (fld x4 (op, qa, qb, qc, qt, qn))))) _ rfl (hC22 _ _ _ _ (con_figures_at (fld x4 (op, qa, qb, qc, qt, qn)) (by first | exact fld_in h0 | omega) _)) ?_
        refine aM (strBin .add (bstr (o ++ [32] ++ [114])) (bstr (Lib.itoa (fld x4 (op, qa, qb, qc, qt, qn))))) (.string (bstr (o ++ [32] ++ [114] ++ Lib.itoa (fld x4 (op, qa, qb, qc, qt, qn))))) (add_bstr (by refine add_le2 (by have q := line_len (c := (op, qa, qb, qc, qt, qn)) h0 i1; (try simp only [List.length_append, List.length_cons, List.length_nil]); omega) (by first | exact Nat.le_trans (itoa_len (fld_in h0)) (by decide) | exact Nat.le_trans (relB_len _) (by decide) | (simp only [List.length_cons, List.length_nil]; omega)))) ?_
        refine aN ?_
        refine sk_regionL Tryd.cfgOk hS ?_
        refine aK 1 ?_
        refine aE (v := .int .i64 (IntKind.wrap .i64 (((i : Nat) : Int) + 1))) (.int .i64 ((i + 1 : Nat) : Int)) (congrArg (Value.int .i64) (wrap_to (by omega) (by omega))) ?_
        refine aN ?_
        refine .inl ⟨(i + 1, (o ++ [32] ++ [114] ++ Lib.itoa (fld x4 (op, qa, qb, qc, qt, qn)))), rfl, ⟨?_, ?_, ?_⟩, ?_, ⟨by kernel_rfl, ⟨by kernel_rfl, by kernel_rfl, by kernel_rfl, by kernel_rfl, trivial⟩, ⟨.ptr ⟨by decide, rfl⟩, sub_clo rfl, sub_clo rfl, sub_clo rfl, trivial⟩, Nat.le_of_ble_eq_true (by kernel_rfl), ⟨by kernel_rfl, ((wf_empty 0).new _), (selfs (all_cons (o := .cells [.int .i64 op, .int .i64 qa, .int .i64 qb, .int .i64 qc, .int .i64 qt, .int .i64 qn]) (by kernel_rfl) (OSub.cells (.cons (sub_clo rfl) (.cons (sub_clo rfl) (.cons (sub_clo rfl) (.cons (sub_clo rfl) (.cons (sub_clo rfl) (.cons (sub_clo rfl) .nil))))))) (all_none)))⟩, mem_all (by kernel_rfl)⟩⟩
        · (try dsimp only); omega
        · (try dsimp only); first | exact line_step2 (c := (op, qa, qb, qc, qt, qn)) (by assumption) i1 (by unfold wordP; first | (rw [if_pos (by omega)]; done) | (rw [if_neg (by omega), if_pos (by omega)]; done) | (rw [if_neg (by omega), if_neg (by omega), if_pos (by omega)]; done) | (rw [if_neg (by omega), if_neg (by omega), if_neg (by omega)]; done)) | exact line_step (c := (op, qa, qb, qc, qt, qn)) (by assumption) i1 (by unfold wordP; first | (rw [if_pos (by omega)]; done) | (rw [if_neg (by omega), if_pos (by omega)]; done) | (rw [if_neg (by omega), if_neg (by omega), if_pos (by omega)]; done) | (rw [if_neg (by omega), if_neg (by omega), if_neg (by omega)]; done))
        · (try dsimp only); assumption
        · omega
      · have c6e : ((((x4.toNat : Nat) : Int) : Int) == 97) = false := Eq.trans (by kernel_rfl) h5
        clear h5
        have c6 : ¬ (((x4.toNat : Nat) : Int) : Int) = 97 := ne_of_beq_false c6e
        clear c6e
        refine aN ?_
        refine kF ?_
        refine sk_seq ?_
        refine sk_regionL Tryd.cfgOk hS ?_
        refine aT (fun h7 => ?_) (fun h7 => ?_)
        · have c8e : ((((x4.toNat : Nat) : Int) : Int) == 98) = true := Eq.trans (by kernel_rfl) h7
          clear h7
          have c8 : (((x4.toNat : Nat) : Int) : Int) = 98 := eq_of_beq c8e
          clear c8e
          refine aN ?_
          refine kT ?_
          refine sk_skip ?_
          refine kT ?_
          refine sk_regionL Tryd.cfgOk hS ?_
          refine aK 1 ?_
          refine aM (strBin .add (bstr (o ++ [32])) (bstr [114])) (.string (bstr (o ++ [32] ++ [114]))) (add_bstr (by refine add_le2 (by have q := line_len (c := (op, qa, qb, qc, qt, qn)) h0 i1; (try simp only [List.length_append, List.length_cons, List.length_nil]); omega) (by first | exact Nat.le_trans (itoa_len (fld_in h0)) (by decide) | exact Nat.le_trans (relB_len _) (by decide) | (simp only [List.length_cons, List.length_nil]; omega)))) ?_
          refine aK 1 ?_
          refine aC 22 [.int .i64 (fld x4 (op, qa, qb, qc, qt, qn))] (.string (bstr (Lib.itoa (fld x4 (op, qa, qb, qc, qt, qn))))) _ rfl (hC22 _ _ _ _ (con_figures_at (fld x4 (op, qa, qb, qc, qt, qn)) (by first | exact fld_in h0 | omega) _)) ?_
          refine aM (strBin .add (bstr (o ++ [32] ++ [114])) (bstr (Lib.itoa (fld x4 (op, qa, qb, qc, qt, qn))))) (.string (bstr (o ++ [32] ++ [114] ++ Lib.itoa (fld x4 (op, qa, qb, qc, qt, qn))))) (add_bstr (by refine add_le2 (by have q := line_len (c := (op, qa, qb, qc, qt, qn)) h0 i1; (try simp only [List.length_append, List.length_cons, List.length_nil]); omega) (by first | exact Nat.le_trans (itoa_len (fld_in h0)) (by decide) | exact Nat.le_trans (relB_len _) (by decide) | (simp only [List.length_cons, List.length_nil]; omega)))) ?_
          refine aN ?_
          refine sk_regionL Tryd.cfgOk hS ?_
          refine aK 1 ?_
          refine aE (v := .int .i64 (IntKind.wrap .i64 (((i : Nat) : Int) + 1))) (.int .i64 ((i + 1 : Nat) : Int)) (congrArg (Value.int .i64) (wrap_to (by omega) (by omega))) ?_
          refine aN ?_
          refine .inl ⟨(i + 1, (o ++ [32] ++ [114] ++ Lib.itoa (fld x4 (op, qa, qb, qc, qt, qn)))), rfl, ⟨?_, ?_, ?_⟩, ?_, ⟨by kernel_rfl, ⟨by kernel_rfl, by kernel_rfl, by kernel_rfl, by kernel_rfl, trivial⟩, ⟨.ptr ⟨by decide, rfl⟩, sub_clo rfl, sub_clo rfl, sub_clo rfl, trivial⟩, Nat.le_of_ble_eq_true (by kernel_rfl), ⟨by kernel_rfl, ((wf_empty 0).new _), (selfs (all_cons (o := .cells [.int .i64 op, .int .i64 qa, .int .i64 qb, .int .i64 qc, .int .i64 qt, .int .i64 qn]) (by kernel_rfl) (OSub.cells (.cons (sub_clo rfl) (.cons (sub_clo rfl) (.cons (sub_clo rfl) (.cons (sub_clo rfl) (.cons (sub_clo rfl) (.cons (sub_clo rfl) .nil))))))) (all_none)))⟩, mem_all (by kernel_rfl)⟩⟩
          · (try dsimp only); omega
          · (try dsimp only); first | exact line_step2 (c := (op, qa, qb, qc, qt, qn)) (by assumption) i1 (by unfold wordP; first | (rw [if_pos (by omega)]; done) | (rw [if_neg (by omega), if_pos (by omega)]; done) | (rw [if_neg (by omega), if_neg (by omega), if_pos (by omega)]; done) | (rw [if_neg (by omega), if_neg (by omega), if_neg (by omega)]; done)) | exact line_step (c := (op, qa, qb, qc, qt, qn)) (by assumption) i1 (by unfold wordP; first | (rw [if_pos (by omega)]; done) | (rw [if_neg (by omega), if_pos (by omega)]; done) | (rw [if_neg (by omega), if_neg (by omega), if_pos (by omega)]; done) | (rw [if_neg (by omega), if_neg (by omega), if_neg (by omega)]; done))
          · (try dsimp only); assumption
          · omega
        · have c8e : ((((x4.toNat : Nat) : Int) : Int) == 98) = false := Eq.trans (by kernel_rfl) h7
          clear h7
          have c8 : ¬ (((x4.toNat : Nat) : Int) : Int) = 98 := ne_of_beq_false c8e
          clear c8e
          refine aN ?_
          refine kF ?_
          refine sk_regionL Tryd.cfgOk hS ?_
          refine aT (fun h9 => ?_) (fun h9 => ?_)
          · have c10e : ((((x4.toNat : Nat) : Int) : Int) == 99) = true := Eq.trans (by kernel_rfl) h9
            clear h9
            have c10 : (((x4.toNat : Nat) : Int) : Int) = 99 := eq_of_beq c10e
            clear c10e
            refine aN ?_
            refine kT ?_
            refine sk_regionL Tryd.cfgOk hS ?_
            refine aK 1 ?_
            refine aM (strBin .add (bstr (o ++ [32])) (bstr [114])) (.string (bstr (o ++ [32] ++ [114]))) (add_bstr (by refine add_le2 (by have q := line_len (c := (op, qa, qb, qc, qt, qn)) h0 i1; (try simp only [List.length_append, List.length_cons, List.length_nil]); omega) (by first | exact Nat.le_trans (itoa_len (fld_in h0)) (by decide) | exact Nat.le_trans (relB_len _) (by decide) | (simp only [List.length_cons, List.length_nil]; omega)))) ?_
            refine aK 1 ?_
            refine aC 22 [.int .i64 (fld x4 (op, qa, qb, qc, qt, qn))] (.string (bstr (Lib.itoa (fld x4 (op, qa, qb, qc, qt, qn))))) _ rfl (hC22 _ _ _ _ (con_figures_at (fld x4 (op, qa, qb, qc, qt, qn)) (by first | exact fld_in h0 | omega) _)) ?_
            refine aM (strBin .add (bstr (o ++ [32] ++ [114])) (bstr (Lib.itoa (fld x4 (op, qa, qb, qc, qt, qn))))) (.string (bstr (o ++ [32] ++ [114] ++ Lib.itoa (fld x4 (op, qa, qb, qc, qt, qn))))) (add_bstr (by refine add_le2 (by have q := line_len (c := (op, qa, qb, qc, qt, qn)) h0 i1; (try simp only [List.length_append, List.length_cons, List.length_nil]); omega) (by first | exact Nat.le_trans (itoa_len (fld_in h0)) (by decide) | exact Nat.le_trans (relB_len _) (by decide) | (simp only [List.length_cons, List.length_nil]; omega)))) ?_
            refine aN ?_
            refine sk_regionL Tryd.cfgOk hS ?_
            refine aK 1 ?_
            refine aE (v := .int .i64 (IntKind.wrap .i64 (((i : Nat) : Int) + 1))) (.int .i64 ((i + 1 : Nat) : Int)) (congrArg (Value.int .i64) (wrap_to (by omega) (by omega))) ?_
            refine aN ?_
            refine .inl ⟨(i + 1, (o ++ [32] ++ [114] ++ Lib.itoa (fld x4 (op, qa, qb, qc, qt, qn)))), rfl, ⟨?_, ?_, ?_⟩, ?_, ⟨by kernel_rfl, ⟨by kernel_rfl, by kernel_rfl, by kernel_rfl, by kernel_rfl, trivial⟩, ⟨.ptr ⟨by decide, rfl⟩, sub_clo rfl, sub_clo rfl, sub_clo rfl, trivial⟩, Nat.le_of_ble_eq_true (by kernel_rfl), ⟨by kernel_rfl, ((wf_empty 0).new _), (selfs (all_cons (o := .cells [.int .i64 op, .int .i64 qa, .int .i64 qb, .int .i64 qc, .int .i64 qt, .int .i64 qn]) (by kernel_rfl) (OSub.cells (.cons (sub_clo rfl) (.cons (sub_clo rfl) (.cons (sub_clo rfl) (.cons (sub_clo rfl) (.cons (sub_clo rfl) (.cons (sub_clo rfl) .nil))))))) (all_none)))⟩, mem_all (by kernel_rfl)⟩⟩
            · (try dsimp only); omega
            · (try dsimp only); first | exact line_step2 (c := (op, qa, qb, qc, qt, qn)) (by assumption) i1 (by unfold wordP; first | (rw [if_pos (by omega)]; done) | (rw [if_neg (by omega), if_pos (by omega)]; done) | (rw [if_neg (by omega), if_neg (by omega), if_pos (by omega)]; done) | (rw [if_neg (by omega), if_neg (by omega), if_neg (by omega)]; done)) | exact line_step (c := (op, qa, qb, qc, qt, qn)) (by assumption) i1 (by unfold wordP; first | (rw [if_pos (by omega)]; done) | (rw [if_neg (by omega), if_pos (by omega)]; done) | (rw [if_neg (by omega), if_neg (by omega), if_pos (by omega)]; done) | (rw [if_neg (by omega), if_neg (by omega), if_neg (by omega)]; done))
            · (try dsimp only); assumption
            · omega
          · have c10e : ((((x4.toNat : Nat) : Int) : Int) == 99) = false := Eq.trans (by kernel_rfl) h9
            clear h9
            have c10 : ¬ (((x4.toNat : Nat) : Int) : Int) = 99 := ne_of_beq_false c10e
            clear c10e
            refine aN ?_
            refine kF ?_
            refine sk_seq ?_
            refine sk_regionL Tryd.cfgOk hS ?_
            refine aT (fun h11 => ?_) (fun h11 => ?_)
            · have c12e : ((((x4.toNat : Nat) : Int) : Int) == 116) = true := Eq.trans (by kernel_rfl) h11
              clear h11
              have c12 : (((x4.toNat : Nat) : Int) : Int) = 116 := eq_of_beq c12e
              clear c12e
              refine aN ?_
              refine kT ?_
              refine sk_regionL Tryd.cfgOk hS ?_
              refine aK 1 ?_
              refine aM (strBin .add (bstr (o ++ [32])) (bstr [116])) (.string (bstr (o ++ [32] ++ [116]))) (add_bstr (by refine add_le2 (by have q := line_len (c := (op, qa, qb, qc, qt, qn)) h0 i1; (try simp only [List.length_append, List.length_cons, List.length_nil]); omega) (by first | exact Nat.le_trans (itoa_len (fld_in h0)) (by decide) | exact Nat.le_trans (relB_len _) (by decide) | (simp only [List.length_cons, List.length_nil]; omega)))) ?_
              refine aK 1 ?_
              refine aC 22 [.int .i64 (fld x4 (op, qa, qb, qc, qt, qn))] (.string (bstr (Lib.itoa (fld x4 (op, qa, qb, qc, qt, qn))))) _ rfl (hC22 _ _ _ _ (con_figures_at (fld x4 (op, qa, qb, qc, qt, qn)) (by first | exact fld_in h0 | omega) _)) ?_
              refine aM (strBin .add (bstr (o ++ [32] ++ [116])) (bstr (Lib.itoa (fld x4 (op, qa, qb, qc, qt, qn))))) (.string (bstr (o ++ [32] ++ [116] ++ Lib.itoa (fld x4 (op, qa, qb, qc, qt, qn))))) (add_bstr (by refine add_le2 (by have q := line_len (c := (op, qa, qb, qc, qt, qn)) h0 i1; (try simp only [List.length_append, List.length_cons, List.length_nil]); omega) (by first | exact Nat.le_trans (itoa_len (fld_in h0)) (by decide) | exact Nat.le_trans (relB_len _) (by decide) | (simp only [List.length_cons, List.length_nil]; omega)))) ?_
              refine aN ?_
              refine sk_regionL Tryd.cfgOk hS ?_
              refine aK 1 ?_
              refine aE (v := .int .i64 (IntKind.wrap .i64 (((i : Nat) : Int) + 1))) (.int .i64 ((i + 1 : Nat) : Int)) (congrArg (Value.int .i64) (wrap_to (by omega) (by omega))) ?_
              refine aN ?_
              refine .inl ⟨(i + 1, (o ++ [32] ++ [116] ++ Lib.itoa (fld x4 (op, qa, qb, qc, qt, qn)))), rfl, ⟨?_, ?_, ?_⟩, ?_, ⟨by kernel_rfl, ⟨by kernel_rfl, by kernel_rfl, by kernel_rfl, by kernel_rfl, trivial⟩, ⟨.ptr ⟨by decide, rfl⟩, sub_clo rfl, sub_clo rfl, sub_clo rfl, trivial⟩, Nat.le_of_ble_eq_true (by kernel_rfl), ⟨by kernel_rfl, ((wf_empty 0).new _), (selfs (all_cons (o := .cells [.int .i64 op, .int .i64 qa, .int .i64 qb, .int .i64 qc, .int .i64 qt, .int .i64 qn]) (by kernel_rfl) (OSub.cells (.cons (sub_clo rfl) (.cons (sub_clo rfl) (.cons (sub_clo rfl) (.cons (sub_clo rfl) (.cons (sub_clo rfl) (.cons (sub_clo rfl) .nil))))))) (all_none)))⟩, mem_all (by kernel_rfl)⟩⟩
              · (try dsimp only); omega
              · (try dsimp only); first | exact line_step2 (c := (op, qa, qb, qc, qt, qn)) (by assumption) i1 (by unfold wordP; first | (rw [if_pos (by omega)]; done) | (rw [if_neg (by omega), if_pos (by omega)]; done) | (rw [if_neg (by omega), if_neg (by omega), if_pos (by omega)]; done) | (rw [if_neg (by omega), if_neg (by omega), if_neg (by omega)]; done)) | exact line_step (c := (op, qa, qb, qc, qt, qn)) (by assumption) i1 (by unfold wordP; first | (rw [if_pos (by omega)]; done) | (rw [if_neg (by omega), if_pos (by omega)]; done) | (rw [if_neg (by omega), if_neg (by omega), if_pos (by omega)]; done) | (rw [if_neg (by omega), if_neg (by omega), if_neg (by omega)]; done))
              · (try dsimp only); assumption
              · omega
            · have c12e : ((((x4.toNat : Nat) : Int) : Int) == 116) = false := Eq.trans (by kernel_rfl) h11
              clear h11
              have c12 : ¬ (((x4.toNat : Nat) : Int) : Int) = 116 := ne_of_beq_false c12e
              clear c12e
              refine aN ?_
              refine kF ?_
              refine sk_seq ?_
              refine sk_regionL Tryd.cfgOk hS ?_
              refine aT (fun h13 => ?_) (fun h13 => ?_)
              · have c14e : ((((x4.toNat : Nat) : Int) : Int) == 106) = true := Eq.trans (by kernel_rfl) h13
                clear h13
                have c14 : (((x4.toNat : Nat) : Int) : Int) = 106 := eq_of_beq c14e
                clear c14e
                refine aN ?_
                refine kT ?_
                refine sk_regionL Tryd.cfgOk hS ?_
                refine aK 2 ?_
                refine aC 23 [.int .i64 (fld x4 (op, qa, qb, qc, qt, qn))] (.string (bstr (relB (fld x4 (op, qa, qb, qc, qt, qn))))) _ rfl (hC23 _ _ _ _ (con_sign_at (fld x4 (op, qa, qb, qc, qt, qn))  _)) ?_
                refine aM (strBin .add (bstr (o ++ [32])) (bstr (relB (fld x4 (op, qa, qb, qc, qt, qn))))) (.string (bstr (o ++ [32] ++ relB (fld x4 (op, qa, qb, qc, qt, qn))))) (add_bstr (by refine add_le2 (by have q := line_len (c := (op, qa, qb, qc, qt, qn)) h0 i1; (try simp only [List.length_append, List.length_cons, List.length_nil]); omega) (by first | exact Nat.le_trans (itoa_len (fld_in h0)) (by decide) | exact Nat.le_trans (relB_len _) (by decide) | (simp only [List.length_cons, List.length_nil]; omega)))) ?_
                refine aN ?_
                refine sk_regionL Tryd.cfgOk hS ?_
                refine aK 1 ?_
                refine aE (v := .int .i64 (IntKind.wrap .i64 (((i : Nat) : Int) + 1))) (.int .i64 ((i + 1 : Nat) : Int)) (congrArg (Value.int .i64) (wrap_to (by omega) (by omega))) ?_
                refine aN ?_
                refine .inl ⟨(i + 1, (o ++ [32] ++ relB (fld x4 (op, qa, qb, qc, qt, qn)))), rfl, ⟨?_, ?_, ?_⟩, ?_, ⟨by kernel_rfl, ⟨by kernel_rfl, by kernel_rfl, by kernel_rfl, by kernel_rfl, trivial⟩, ⟨.ptr ⟨by decide, rfl⟩, sub_clo rfl, sub_clo rfl, sub_clo rfl, trivial⟩, Nat.le_of_ble_eq_true (by kernel_rfl), ⟨by kernel_rfl, ((wf_empty 0).new _), (selfs (all_cons (o := .cells [.int .i64 op, .int .i64 qa, .int .i64 qb, .int .i64 qc, .int .i64 qt, .int .i64 qn]) (by kernel_rfl) (OSub.cells (.cons (sub_clo rfl) (.cons (sub_clo rfl) (.cons (sub_clo rfl) (.cons (sub_clo rfl) (.cons (sub_clo rfl) (.cons (sub_clo rfl) .nil))))))) (all_none)))⟩, mem_all (by kernel_rfl)⟩⟩
                · (try dsimp only); omega
                · (try dsimp only); first | exact line_step2 (c := (op, qa, qb, qc, qt, qn)) (by assumption) i1 (by unfold wordP; first | (rw [if_pos (by omega)]; done) | (rw [if_neg (by omega), if_pos (by omega)]; done) | (rw [if_neg (by omega), if_neg (by omega), if_pos (by omega)]; done) | (rw [if_neg (by omega), if_neg (by omega), if_neg (by omega)]; done)) | exact line_step (c := (op, qa, qb, qc, qt, qn)) (by assumption) i1 (by unfold wordP; first | (rw [if_pos (by omega)]; done) | (rw [if_neg (by omega), if_pos (by omega)]; done) | (rw [if_neg (by omega), if_neg (by omega), if_pos (by omega)]; done) | (rw [if_neg (by omega), if_neg (by omega), if_neg (by omega)]; done))
                · (try dsimp only); assumption
                · omega
              · have c14e : ((((x4.toNat : Nat) : Int) : Int) == 106) = false := Eq.trans (by kernel_rfl) h13
                clear h13
                have c14 : ¬ (((x4.toNat : Nat) : Int) : Int) = 106 := ne_of_beq_false c14e
                clear c14e
                refine aN ?_
                refine kF ?_
                refine sk_regionL Tryd.cfgOk hS ?_
                refine aK 2 ?_
                refine aC 22 [.int .i64 (fld x4 (op, qa, qb, qc, qt, qn))] (.string (bstr (Lib.itoa (fld x4 (op, qa, qb, qc, qt, qn))))) _ rfl (hC22 _ _ _ _ (con_figures_at (fld x4 (op, qa, qb, qc, qt, qn)) (by first | exact fld_in h0 | omega) _)) ?_
                refine aM (strBin .add (bstr (o ++ [32])) (bstr (Lib.itoa (fld x4 (op, qa, qb, qc, qt, qn))))) (.string (bstr (o ++ [32] ++ Lib.itoa (fld x4 (op, qa, qb, qc, qt, qn))))) (add_bstr (by refine add_le2 (by have q := line_len (c := (op, qa, qb, qc, qt, qn)) h0 i1; (try simp only [List.length_append, List.length_cons, List.length_nil]); omega) (by first | exact Nat.le_trans (itoa_len (fld_in h0)) (by decide) | exact Nat.le_trans (relB_len _) (by decide) | (simp only [List.length_cons, List.length_nil]; omega)))) ?_
                refine aN ?_
                refine sk_regionL Tryd.cfgOk hS ?_
                refine aK 1 ?_
                refine aE (v := .int .i64 (IntKind.wrap .i64 (((i : Nat) : Int) + 1))) (.int .i64 ((i + 1 : Nat) : Int)) (congrArg (Value.int .i64) (wrap_to (by omega) (by omega))) ?_
                refine aN ?_
                refine .inl ⟨(i + 1, (o ++ [32] ++ Lib.itoa (fld x4 (op, qa, qb, qc, qt, qn)))), rfl, ⟨?_, ?_, ?_⟩, ?_, ⟨by kernel_rfl, ⟨by kernel_rfl, by kernel_rfl, by kernel_rfl, by kernel_rfl, trivial⟩, ⟨.ptr ⟨by decide, rfl⟩, sub_clo rfl, sub_clo rfl, sub_clo rfl, trivial⟩, Nat.le_of_ble_eq_true (by kernel_rfl), ⟨by kernel_rfl, ((wf_empty 0).new _), (selfs (all_cons (o := .cells [.int .i64 op, .int .i64 qa, .int .i64 qb, .int .i64 qc, .int .i64 qt, .int .i64 qn]) (by kernel_rfl) (OSub.cells (.cons (sub_clo rfl) (.cons (sub_clo rfl) (.cons (sub_clo rfl) (.cons (sub_clo rfl) (.cons (sub_clo rfl) (.cons (sub_clo rfl) .nil))))))) (all_none)))⟩, mem_all (by kernel_rfl)⟩⟩
                · (try dsimp only); omega
                · (try dsimp only); first | exact line_step2 (c := (op, qa, qb, qc, qt, qn)) (by assumption) i1 (by unfold wordP; first | (rw [if_pos (by omega)]; done) | (rw [if_neg (by omega), if_pos (by omega)]; done) | (rw [if_neg (by omega), if_neg (by omega), if_pos (by omega)]; done) | (rw [if_neg (by omega), if_neg (by omega), if_neg (by omega)]; done)) | exact line_step (c := (op, qa, qb, qc, qt, qn)) (by assumption) i1 (by unfold wordP; first | (rw [if_pos (by omega)]; done) | (rw [if_neg (by omega), if_pos (by omega)]; done) | (rw [if_neg (by omega), if_neg (by omega), if_pos (by omega)]; done) | (rw [if_neg (by omega), if_neg (by omega), if_neg (by omega)]; done))
                · (try dsimp only); assumption
                · omega
    · have c3e : (decide ((((i : Nat) : Int) : Int) < (((shp op).length : Nat) : Int))) = false := Eq.trans (by kernel_rfl) h2
      clear h2
      have c3 : ¬ (((i : Nat) : Int) : Int) < (((shp op).length : Nat) : Int) := of_decide_eq_false c3e
      clear c3e
      refine al_nil ?_
      refine kF ?_
      refine sk_exit ?_
      dsimp only
      refine .inr ⟨_, _, (fun h => by cases h), ⟨rfl, ?_, rfl, rfl⟩, ⟨by kernel_rfl, ⟨by kernel_rfl, by kernel_rfl, by kernel_rfl, by kernel_rfl, trivial⟩, ⟨.ptr ⟨by decide, rfl⟩, sub_clo rfl, sub_clo rfl, sub_clo rfl, trivial⟩, Nat.le_of_ble_eq_true (by kernel_rfl), ⟨by kernel_rfl, ((wf_empty 0).new _), (selfs (all_cons (o := .cells [.int .i64 op, .int .i64 qa, .int .i64 qb, .int .i64 qc, .int .i64 qt, .int .i64 qn]) (by kernel_rfl) (OSub.cells (.cons (sub_clo rfl) (.cons (sub_clo rfl) (.cons (sub_clo rfl) (.cons (sub_clo rfl) (.cons (sub_clo rfl) (.cons (sub_clo rfl) .nil))))))) (all_none)))⟩, mem_all (by kernel_rfl)⟩⟩
      · omega
  · exact ⟨by ((try dsimp only); first | done | (omega)), by ((try dsimp only); first | done | (simp [tailB])), by ((try dsimp only); first | done | (exact shp_len op))⟩
  rintro o e1 s1 ⟨a, lv1, M1, m1, ha, ⟨rfl, hx, rfl, rfl⟩, rfl, rfl⟩
  obtain ⟨i, o⟩ := a
  obtain ⟨i0, i1, i2⟩ := ha
  dsimp only at hx i0 i1 i2
  dsimp only
  try rw [if_pos rfl]
  refine sk_seq ?_
  refine kK Tryd.cfgOk hS ?_
  refine sk_ret ?_
  exact ⟨[.string (bstr o)], by kernel_rfl, fs_to (fs_clo rfl) (congrArg Value.string (by exact congrArg bstr (line_end (c := (op, qa, qb, qc, qt, qn)) i1 hx))), Nat.le_of_ble_eq_true (by kernel_rfl)⟩
noncomputable def con_rline : Con Tryd.prog 1001 := Con.pure (α := Int × Int × Int × Int × Int × Int) 11 (fun z9 => [.agg #[.int .i64 z9.1, .int .i64 z9.2.1, .int .i64 z9.2.2.1, .int .i64 z9.2.2.2.1, .int .i64 z9.2.2.2.2.1, .int .i64 z9.2.2.2.2.2]]) (fun z9 => .string (bstr (lineR (z9.1, z9.2.1, z9.2.2.1, z9.2.2.2.1, z9.2.2.2.2.1, z9.2.2.2.2.2)))) (fun z9 => (inC (z9.1, z9.2.1, z9.2.2.1, z9.2.2.2.1, z9.2.2.2.2.1, z9.2.2.2.2.2))) (by
  rintro ⟨a0, a1, a2, a3, a4, a5⟩ ⟨b0, b1, b2, b3, b4, b5⟩ h
  simp only [List.cons.injEq, and_true, Int.natCast_inj, UInt8.toNat_inj, Value.int.injEq, Value.bool.injEq, Value.string.injEq, Value.agg.injEq, Array.mk.injEq, true_and] at h
  first | exact h | (simp only [Prod.ext_iff, h, and_self, and_true, true_and]; done) | simp_all [Prod.ext_iff]) (fun _ => rfl) (fun _ => rfl) 400 (by
  rintro ⟨a0, a1, a2, a3, a4, a5⟩ p0
  exact rline_sc a0 a1 a2 a3 a4 a5 p0)
theorem con_rline_at (op : Int) (qa : Int) (qb : Int) (qc : Int) (qt : Int) (qn : Int) (h0 : inC (op, qa, qb, qc, qt, qn)) (s : St) : con_rline.rel [.agg #[.int .i64 op, .int .i64 qa, .int .i64 qb, .int .i64 qc, .int .i64 qt, .int .i64 qn]] s (.string (bstr (lineR (op, qa, qb, qc, qt, qn)))) s := con_pure (op, qa, qb, qc, qt, qn) h0 s
end Go.Proofs.YtgplkbfjlidinaaDoor