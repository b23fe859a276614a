/- The bytes of a program. -/
import Derived.Test.YtegigohhnplomaaParts
set_option linter.unusedVariables false
set_option linter.unusedSimpArgs false
set_option linter.unnecessarySimpa false
namespace Go.Proofs.Ytegigohhnplomaa
open Go.Ai
theorem check_op {fu : Int} {co : List Code} {i : Nat} {x : Code} (h : checkP fu co) (hx : co[i]? = some x) : 0 ≤ x.1 ∧ x.1 ≤ 15 := by
  have hi := (List.getElem?_eq_some_iff.1 hx).1
  refine Classical.not_not.1 fun q => h.2 i hi ⟨x, hx, fun r => q r.1⟩
theorem prog_step {fu : Int} {co : List Code} {i : Nat} {x : Code} {l lb : List UInt8} {jb : Nat} (hx : co[i]? = some x) (e : l = uv (u64 fu) ++ (uv co.length ++ catB encC (co.take i))) (e2 : lb = l ++ [UInt8.ofNat (x.1 % 256).toNat] ++ catB (fun y => encF y x) ((shp x.1).take jb)) (hj : ¬ jb < (shp x.1).length) : lb = uv (u64 fu) ++ (uv co.length ++ catB encC (co.take (i + 1))) := by
  rw [List.take_of_length_le (by omega)] at e2
  rw [e2, e, catB_succ hx]
  simp [encC]
theorem pencode_fn : Try.cfg.fn 37 = some Try.f37 := by kernel_rfl
set_option maxHeartbeats 4000000 in
set_option maxRecDepth 100000 in
theorem pencode_sc (fu : Int) (co : List Code) (h0 : checkP fu co) (h1 : ∀ c ∈ co, inC c) : SC Try.prog 0 37 [.agg #[.int .i64 fu, inlL ccells 6 co]] (St.empty 0) fun v s' => v = .tuple #[inlL bcells 1 (progB fu co), .nilIface] ∧ s'.n ≤ 400 := by
  obtain ⟨rc, hS, hC⟩ := rc_con (sound_run Try.cfgOk 300) [con_check, con_wcount, con_wbyte, con_shape, con_field, con_wnum, con_wout] (by kernel_rfl)
  have hC32 := hC con_check (.head _)
  have hC35 := hC con_wcount (.tail _ (.head _))
  have hC61 := hC con_wbyte (.tail _ (.tail _ (.head _)))
  have hC62 := hC con_shape (.tail _ (.tail _ (.tail _ (.head _))))
  have hC63 := hC con_field (.tail _ (.tail _ (.tail _ (.tail _ (.head _)))))
  have hC41 := hC con_wnum (.tail _ (.tail _ (.tail _ (.tail _ (.tail _ (.head _))))))
  have hC40 := hC con_wout (.tail _ (.tail _ (.tail _ (.tail _ (.tail _ (.tail _ (.head _)))))))
  refine sc_ice0 (N := 400) (v2 := .tuple #[inlL bcells 1 (progB fu co), .nilIface]) (Q := fun v s' => FS 0 s' v (.tuple #[inlL bcells 1 (progB fu co), .nilIface]) ∧ s'.n ≤ 400) ?_ (fun _ _ h => h)
  refine sc_body Try.cfgOk pencode_fn rfl ?_
  refine sk_seq ?_
  refine sk_regionK Try.cfgOk hS (by kernel_rfl) ?_
  refine sk_seq (sk_seq ?_)
  refine sk_regionL Try.cfgOk hS ?_
  refine al_chunk 1 (by kernel_rfl) ?_
  by_cases q1 : checkP fu co
  ·
    refine al_callH 32 [.agg #[.int .i64 fu, inlL ccells 6 co]] (.nilIface) _ rfl (fun b h => by cases h) (by kernel_rfl) (by kernel_rfl) (rc_eq (hC32 _ _ _ _ (con_check_at fu co (by first | omega | assumption | exact u64_lt _ | (have := h0.1.2.2; omega) | (simp; done) | (exact app_le (by simp)) | (exact fld_in (h1 _ (List.mem_of_getElem? (by assumption))) _) | (simp only [List.length_append, List.length_cons, List.length_nil]; omega)) _)) (checkV_t q1)) ?_
    refine al_known (by kernel_rfl) ?_
    refine sk_seq ?_
    refine sk_regionK Try.cfgOk hS (by kernel_rfl) ?_
    refine sk_false (by kernel_rfl) ?_
    refine sk_skip (sk_seq ?_)
    refine sk_regionK Try.cfgOk hS (by kernel_rfl) ?_
    refine sk_seq ?_
    refine sk_live 74 [(1, .pointer (some ⟨0, 0, none⟩)), (5, .pointer (some ⟨1, 0, none⟩))] (by kernel_rfl) ⟨by kernel_rfl, by kernel_rfl, trivial⟩ fun m2 => ?_
    refine sk_st (((St.empty 0).new (.cells [.int .i64 fu, inlL ccells 6 co])).new (.cells [.slice none 0 0])) (by kernel_rfl) ?_
    refine virt_cell 5 1 0 1 [] [] (by decide) (((wf_empty 0).new _).new _) (by kernel_rfl) (by kernel_rfl) (by decide) ?_
    refine sk_st ((((St.empty 0).new (.cells [.int .i64 fu, inlL ccells 6 co])).new (.cells [slL 2 1 (([] : List UInt8).length)])).new (rowL bcells ([] : List UInt8))) (by kernel_rfl) ?_
    refine sk_regionL Try.cfgOk hS ?_
    refine al_chunk 3 (by kernel_rfl) ?_
    refine al_eqv (v := .int .u64 (IntKind.wrap .u64 fu)) (.int .u64 ((u64 fu : Nat) : Int)) (by kernel_rfl) (by kernel_rfl) (by kernel_rfl) (congrArg (Value.int .u64) (wrap_u64 _)) ?_
    refine al_callH 35 [.pointer (some ⟨1, 0, none⟩), .int .u64 ((u64 fu : Nat) : Int)] (.tuple #[]) _ rfl (fun b h => by cases h) (by kernel_rfl) (by kernel_rfl) (hC35 _ _ _ _ (con_wcount_at ([] : List UInt8) (u64 fu) 1 2 (by first | omega | assumption | exact u64_lt _ | (have := h0.1.2.2; omega) | (simp; done) | (exact app_le (by simp)) | (exact fld_in (h1 _ (List.mem_of_getElem? (by assumption))) _) | (simp only [List.length_append, List.length_cons, List.length_nil]; omega)) (by first | omega | assumption | exact u64_lt _ | (have := h0.1.2.2; omega) | (simp; done) | (exact app_le (by simp)) | (exact fld_in (h1 _ (List.mem_of_getElem? (by assumption))) _) | (simp only [List.length_append, List.length_cons, List.length_nil]; omega)) _ (by kernel_rfl) (by kernel_rfl) (by kernel_rfl) )) ?_
    refine al_nil ?_
    refine sk_seq ?_
    refine sk_regionL Try.cfgOk hS ?_
    refine al_chunk 3 (by kernel_rfl) ?_
    refine al_map (lenB Try.cfg (St.empty 0) 22 (inlL ccells 6 co)) (.int .i64 ((co.length : Nat) : Int)) (by kernel_rfl) (by kernel_rfl) (by kernel_rfl) (len_inl tokC (by kernel_rfl)) ?_
    refine al_eqv (v := .int .u64 (IntKind.wrap .u64 ((co.length : Nat) : Int))) (.int .u64 ((co.length : Nat) : Int)) (by kernel_rfl) (by kernel_rfl) (by kernel_rfl) (congrArg (Value.int .u64) ((wrap_u64 _).trans (congrArg Nat.cast (u64_nat (by first | omega | (have := h0.1.2.2; omega)))))) ?_
    refine al_callH 35 [.pointer (some ⟨1, 0, none⟩), .int .u64 ((co.length : Nat) : Int)] (.tuple #[]) _ rfl (fun b h => by cases h) (by kernel_rfl) (by kernel_rfl) (hC35 _ _ _ _ (con_wcount_at (([] : List UInt8) ++ uv (u64 fu)) co.length 1 2 (by first | omega | assumption | exact u64_lt _ | (have := h0.1.2.2; omega) | (simp; done) | (exact app_le (by simp)) | (exact fld_in (h1 _ (List.mem_of_getElem? (by assumption))) _) | (simp only [List.length_append, List.length_cons, List.length_nil]; omega)) (by first | omega | assumption | exact u64_lt _ | (have := h0.1.2.2; omega) | (simp; done) | (exact app_le (by simp)) | (exact fld_in (h1 _ (List.mem_of_getElem? (by assumption))) _) | (simp only [List.length_append, List.length_cons, List.length_nil]; omega)) _ (by kernel_rfl) (by kernel_rfl) (by kernel_rfl) )) ?_
    refine al_nil ?_
    refine sk_seq (sk_seq ?_)
    refine sk_regionL Try.cfgOk hS ?_
    refine al_chunk 2 (by kernel_rfl) ?_
    refine al_map (lenB Try.cfg (St.empty 0) 22 (inlL ccells 6 co)) (.int .i64 ((co.length : Nat) : Int)) (by kernel_rfl) (by kernel_rfl) (by kernel_rfl) (len_inl tokC (by kernel_rfl)) ?_
    refine al_known (by kernel_rfl) ?_
    refine sk_block ?_
    refine sk_live 74 ((fun a : Nat × (List UInt8) => [(5, .pointer (some ⟨1, 0, none⟩)), (31, inlL ccells 6 co), (32, .int .i64 ((co.length : Nat) : Int)), (33, .int .i64 ((a.1 : Nat) : Int))]) (0, ((([] : List UInt8) ++ uv (u64 fu)) ++ uv co.length))) (by kernel_rfl) ⟨by kernel_rfl, by kernel_rfl, by kernel_rfl, by kernel_rfl, trivial⟩ fun m3 => ?_
    refine sk_st ((fun a : Nat × (List UInt8) => ((((St.empty 0).new (.cells [.int .i64 fu, inlL ccells 6 co])).new (.cells [slL 2 1 a.2.length])).new (rowL bcells a.2))) (0, ((([] : List UInt8) ++ uv (u64 fu)) ++ uv co.length))) (by kernel_rfl) ?_
    refine (sk_while (k := 3) (N := 400) (live := (fun a : Nat × (List UInt8) => [(5, .pointer (some ⟨1, 0, none⟩)), (31, inlL ccells 6 co), (32, .int .i64 ((co.length : Nat) : Int)), (33, .int .i64 ((a.1 : Nat) : Int))])) (M := (fun a : Nat × (List UInt8) => ((((St.empty 0).new (.cells [.int .i64 fu, inlL ccells 6 co])).new (.cells [slL 2 1 a.2.length])).new (rowL bcells a.2)))) (fun a : Nat × (List UInt8) => (a.1 ≤ co.length) ∧ (a.2 = uv (u64 fu) ++ (uv co.length ++ catB encC (co.take a.1))) ∧ (a.2.length ≤ 20 + 51 * a.1) ∧ (co.length ≤ 32)) (fun a : Nat × (List UInt8) => co.length - a.1) (fun (a : Nat × (List UInt8)) (o : Out) (lv : List (Nat × Value)) (M : St) => (o = .exit 0 ∧ (¬ a.1 < co.length) ∧ lv = [(5, .pointer (some ⟨1, 0, none⟩)), (31, inlL ccells 6 co), (32, .int .i64 ((co.length : Nat) : Int)), (33, .int .i64 ((a.1 : Nat) : Int))] ∧ M = ((((St.empty 0).new (.cells [.int .i64 fu, inlL ccells 6 co])).new (.cells [slL 2 1 a.2.length])).new (rowL bcells a.2)))) (Nat.zero_le _) (fun a ha => ?_) (fun a ha => ?_) (fun a m ha => ?_) (fun a m ha => ?_) (0, ((([] : List UInt8) ++ uv (u64 fu)) ++ uv co.length)) m3 ?_).up ?_
    · exact ⟨by kernel_rfl, ((((wf_empty 0).new _).new _).new _), (selfs (all_cons (o := .cells [.int .i64 fu, inlL ccells 6 co]) (by kernel_rfl) (OSub.cells (.cons (sub_clo rfl) (.cons (sub_clo rfl) .nil))) (all_cons (o := .cells [slL 2 1 a.2.length]) (by kernel_rfl) (OSub.cells (.cons (.slice ⟨by decide, rfl⟩) .nil)) (all_cons (o := rowL bcells a.2) (by kernel_rfl) (OSub.arr (subs_clo (flatL_clo bcells_clo))) (all_none)))))⟩
    · exact ⟨.ptr ⟨by decide, rfl⟩, sub_clo rfl, sub_clo rfl, sub_clo rfl, trivial⟩
    · exact ⟨by kernel_rfl, by kernel_rfl, by kernel_rfl, by kernel_rfl, trivial⟩
    · obtain ⟨i, l⟩ := a
      obtain ⟨i0, i1, i2, i3⟩ := ha
      dsimp only at i0 i1 i2 i3
      refine sk_seq ?_
      refine sk_regionL Try.cfgOk hS ?_
      refine al_test (by kernel_rfl) (by kernel_rfl) (by kernel_rfl) (fun h4 => ?_) (fun h4 => ?_)
      · have c5e : (decide ((((i : Nat) : Int) : Int) < ((co.length : Nat) : Int))) = true := Eq.trans (by kernel_rfl) h4
        clear h4
        have c5 : (((i : Nat) : Int) : Int) < ((co.length : Nat) : Int) := of_decide_eq_true c5e
        clear c5e
        refine al_nil ?_
        refine sk_seq ?_
        refine sk_true (by kernel_rfl) ?_
        refine sk_skip (sk_seq (sk_block (sk_seq ?_)))
        refine sk_regionL Try.cfgOk hS ?_
        refine al_map (indexAddrV Try.cfg 22 (inlL ccells 6 co) (.int .i64 ((i : Nat) : Int))) (elt (flatL ccells co) (i * 6)) (by kernel_rfl) (by kernel_rfl) (by kernel_rfl) (idx_inlL tokC (by kernel_rfl) (by first | omega | simp)) ?_
        have hx6l : i < co.length := by omega
        refine Exists.elim (get_ex hx6l) fun x6 hx6 => ?_
        clear hx6l
        refine al_map (loadV Try.cfg (St.empty 0) 52 (elt (flatL ccells co) (i * 6))) (.agg #[.int .i64 x6.1, .int .i64 x6.2.1, .int .i64 x6.2.2.1, .int .i64 x6.2.2.2.1, .int .i64 x6.2.2.2.2.1, .int .i64 x6.2.2.2.2.2]) (by kernel_rfl) (by kernel_rfl) (by kernel_rfl) (load_el tokC (by kernel_rfl) ccells_len hx6) ?_
        refine al_known (by kernel_rfl) ?_
        refine sk_seq ?_
        refine sk_regionL Try.cfgOk hS ?_
        refine al_chunk 3 (by kernel_rfl) ?_
        refine al_eqv (v := .int .u8 (IntKind.wrap .u8 x6.1)) (.int .u8 (((UInt8.ofNat ((x6.1) % 256).toNat).toNat : Nat) : Int)) (by kernel_rfl) (by kernel_rfl) (by kernel_rfl) (congrArg (Value.int .u8) (wrap_u8 _)) ?_
        refine al_callH 61 [.pointer (some ⟨1, 0, none⟩), .int .u8 (((UInt8.ofNat ((x6.1) % 256).toNat).toNat : Nat) : Int)] (.tuple #[]) _ rfl (fun b h => by cases h) (by kernel_rfl) (by kernel_rfl) (hC61 _ _ _ _ (con_wbyte_at l (UInt8.ofNat ((x6.1) % 256).toNat) 1 2 (by first | omega | assumption | exact u64_lt _ | (have := h0.1.2.2; omega) | (simp; done) | (exact app_le (by simp)) | (exact fld_in (h1 _ (List.mem_of_getElem? (by assumption))) _) | (simp only [List.length_append, List.length_cons, List.length_nil]; omega)) _ (by kernel_rfl) (by kernel_rfl) (by kernel_rfl) )) ?_
        refine al_nil ?_
        refine sk_seq ?_
        refine sk_regionL Try.cfgOk hS ?_
        refine al_chunk 2 (by kernel_rfl) ?_
        by_cases q7 : 0 ≤ x6.1 ∧ x6.1 ≤ 15
        ·
          refine al_callH 62 [.int .i64 x6.1] (.tuple #[.string (bstr (shp x6.1)), .bool true]) _ rfl (fun b h => by cases h) (by kernel_rfl) (by kernel_rfl) (rc_eq (hC62 _ _ _ _ (con_shape_at x6.1  _)) (shape_t q7)) ?_
          refine al_known (by kernel_rfl) ?_
          refine sk_seq ?_
          refine sk_regionK Try.cfgOk hS (by kernel_rfl) ?_
          refine sk_block ?_
          refine sk_live 74 ((fun a : Nat × (List UInt8) => [(5, .pointer (some ⟨1, 0, none⟩)), (7, .pointer (some ⟨3, 0, none⟩)), (8, .string (bstr (shp x6.1))), (31, inlL ccells 6 co), (32, .int .i64 ((co.length : Nat) : Int)), (33, .int .i64 ((i : Nat) : Int)), (49, .int .i64 (((shp x6.1).length : Nat) : Int)), (50, .int .i64 ((a.1 : Nat) : Int))]) (0, (l ++ [(UInt8.ofNat ((x6.1) % 256).toNat)]))) (by kernel_rfl) ⟨by kernel_rfl, by kernel_rfl, by kernel_rfl, by kernel_rfl, by kernel_rfl, by kernel_rfl, by kernel_rfl, by kernel_rfl, trivial⟩ fun m8 => ?_
          refine sk_st ((fun a : Nat × (List UInt8) => (((((St.empty 0).new (.cells [.int .i64 fu, inlL ccells 6 co])).new (.cells [slL 2 1 a.2.length])).new (rowL bcells a.2)).new (.cells [.int .i64 x6.1, .int .i64 x6.2.1, .int .i64 x6.2.2.1, .int .i64 x6.2.2.2.1, .int .i64 x6.2.2.2.2.1, .int .i64 x6.2.2.2.2.2]))) (0, (l ++ [(UInt8.ofNat ((x6.1) % 256).toNat)]))) (by kernel_rfl) ?_
          refine (sk_while (k := 4) (N := 400) (live := (fun a : Nat × (List UInt8) => [(5, .pointer (some ⟨1, 0, none⟩)), (7, .pointer (some ⟨3, 0, none⟩)), (8, .string (bstr (shp x6.1))), (31, inlL ccells 6 co), (32, .int .i64 ((co.length : Nat) : Int)), (33, .int .i64 ((i : Nat) : Int)), (49, .int .i64 (((shp x6.1).length : Nat) : Int)), (50, .int .i64 ((a.1 : Nat) : Int))])) (M := (fun a : Nat × (List UInt8) => (((((St.empty 0).new (.cells [.int .i64 fu, inlL ccells 6 co])).new (.cells [slL 2 1 a.2.length])).new (rowL bcells a.2)).new (.cells [.int .i64 x6.1, .int .i64 x6.2.1, .int .i64 x6.2.2.1, .int .i64 x6.2.2.2.1, .int .i64 x6.2.2.2.2.1, .int .i64 x6.2.2.2.2.2])))) (fun a : Nat × (List UInt8) => (a.1 ≤ (shp x6.1).length) ∧ (a.2 = l ++ [UInt8.ofNat (x6.1 % 256).toNat] ++ catB (fun y => encF y x6) ((shp x6.1).take a.1)) ∧ (a.2.length ≤ l.length + 1 + 10 * a.1) ∧ ((shp x6.1).length ≤ 5)) (fun a : Nat × (List UInt8) => (shp x6.1).length - a.1) (fun (a : Nat × (List UInt8)) (o : Out) (lv : List (Nat × Value)) (M : St) => (o = .exit 2 ∧ (¬ a.1 < (shp x6.1).length) ∧ lv = [(5, .pointer (some ⟨1, 0, none⟩)), (7, .pointer (some ⟨3, 0, none⟩)), (8, .string (bstr (shp x6.1))), (31, inlL ccells 6 co), (32, .int .i64 ((co.length : Nat) : Int)), (33, .int .i64 ((i : Nat) : Int)), (49, .int .i64 (((shp x6.1).length : Nat) : Int)), (50, .int .i64 ((a.1 : Nat) : Int))] ∧ M = (((((St.empty 0).new (.cells [.int .i64 fu, inlL ccells 6 co])).new (.cells [slL 2 1 a.2.length])).new (rowL bcells a.2)).new (.cells [.int .i64 x6.1, .int .i64 x6.2.1, .int .i64 x6.2.2.1, .int .i64 x6.2.2.2.1, .int .i64 x6.2.2.2.2.1, .int .i64 x6.2.2.2.2.2])))) (Nat.zero_le _) (fun a ha => ?_) (fun a ha => ?_) (fun a m ha => ?_) (fun a m ha => ?_) (0, (l ++ [(UInt8.ofNat ((x6.1) % 256).toNat)])) m8 ?_).up ?_
          · exact ⟨by kernel_rfl, (((((wf_empty 0).new _).new _).new _).new _), (selfs (all_cons (o := .cells [.int .i64 fu, inlL ccells 6 co]) (by kernel_rfl) (OSub.cells (.cons (sub_clo rfl) (.cons (sub_clo rfl) .nil))) (all_cons (o := .cells [slL 2 1 a.2.length]) (by kernel_rfl) (OSub.cells (.cons (.slice ⟨by decide, rfl⟩) .nil)) (all_cons (o := rowL bcells a.2) (by kernel_rfl) (OSub.arr (subs_clo (flatL_clo bcells_clo))) (all_cons (o := .cells [.int .i64 x6.1, .int .i64 x6.2.1, .int .i64 x6.2.2.1, .int .i64 x6.2.2.2.1, .int .i64 x6.2.2.2.2.1, .int .i64 x6.2.2.2.2.2]) (by kernel_rfl) (OSub.cells (.cons (sub_clo rfl) (.cons (sub_clo rfl) (.cons (sub_clo rfl) (.cons (sub_clo rfl) (.cons (sub_clo rfl) (.cons (sub_clo rfl) .nil))))))) (all_none))))))⟩
          · exact ⟨.ptr ⟨by decide, rfl⟩, .ptr ⟨by decide, rfl⟩, sub_clo rfl, sub_clo rfl, sub_clo rfl, sub_clo rfl, sub_clo rfl, sub_clo rfl, trivial⟩
          · exact ⟨by kernel_rfl, by kernel_rfl, by kernel_rfl, by kernel_rfl, by kernel_rfl, by kernel_rfl, by kernel_rfl, by kernel_rfl, trivial⟩
          · obtain ⟨jb, lb⟩ := a
            obtain ⟨k0, k1, k2, k3⟩ := ha
            dsimp only at k0 k1 k2 k3
            refine sk_seq ?_
            refine sk_regionL Try.cfgOk hS ?_
            refine al_test (by kernel_rfl) (by kernel_rfl) (by kernel_rfl) (fun h9 => ?_) (fun h9 => ?_)
            · have c10e : (decide ((((jb : Nat) : Int) : Int) < (((shp x6.1).length : Nat) : Int))) = true := Eq.trans (by kernel_rfl) h9
              clear h9
              have c10 : (((jb : Nat) : Int) : Int) < (((shp x6.1).length : Nat) : Int) := of_decide_eq_true c10e
              clear c10e
              refine al_nil ?_
              refine sk_seq ?_
              refine sk_true (by kernel_rfl) ?_
              refine sk_skip (sk_seq (sk_block (sk_seq ?_)))
              refine sk_regionK Try.cfgOk hS (by kernel_rfl) ?_
              refine sk_seq ?_
              have hx11l : jb < (shp x6.1).length := by omega
              refine Exists.elim (get_ex hx11l) fun x11 hx11 => ?_
              clear hx11l
              refine sk_regionL Try.cfgOk hS ?_
              refine al_chunk 2 (by kernel_rfl) ?_
              refine al_map (indexV Try.cfg 9 (.string (bstr (shp x6.1))) (.int .i64 ((jb : Nat) : Int))) (.int .u8 ((x11.toNat : Nat) : Int)) (by kernel_rfl) (by kernel_rfl) (by kernel_rfl) (index_bstr (by kernel_rfl) hx11) ?_
              refine al_callH 63 [.pointer (some ⟨3, 0, none⟩), .int .u8 ((x11.toNat : Nat) : Int)] (.pointer (some ⟨3, (offL x11), none⟩)) _ rfl (fun b h => by cases h) (by kernel_rfl) (by kernel_rfl) (hC63 _ _ _ _ (con_field_at x11 (x6.1, x6.2.1, x6.2.2.1, x6.2.2.2.1, x6.2.2.2.2.1, x6.2.2.2.2.2) 3  _ (by kernel_rfl) (by kernel_rfl) )) ?_
              refine al_chunk 1 (by kernel_rfl) ?_
              refine al_map (loadV Try.cfg (((((St.empty 0).new (.cells [.int .i64 fu, inlL ccells 6 co])).new (.cells [slL 2 1 lb.length])).new (rowL bcells lb)).new (.cells [.int .i64 x6.1, .int .i64 x6.2.1, .int .i64 x6.2.2.1, .int .i64 x6.2.2.2.1, .int .i64 x6.2.2.2.2.1, .int .i64 x6.2.2.2.2.2])) 3 (.pointer (some ⟨3, (offL x11), none⟩))) (.int .i64 (fld x11 (x6.1, x6.2.1, x6.2.2.1, x6.2.2.2.1, x6.2.2.2.2.1, x6.2.2.2.2.2))) (by kernel_rfl) (by kernel_rfl) (by kernel_rfl) (load_sym (by kernel_rfl) (cs := ccells (x6.1, x6.2.1, x6.2.2.1, x6.2.2.2.1, x6.2.2.2.2.1, x6.2.2.2.2.2)) (by kernel_rfl) (fld_at x11 (x6.1, x6.2.1, x6.2.2.1, x6.2.2.2.1, x6.2.2.2.2.1, x6.2.2.2.2.2))) ?_
              refine al_known (by kernel_rfl) ?_
              refine sk_seq ?_
              refine sk_regionL Try.cfgOk hS ?_
              refine al_chunk 2 (by kernel_rfl) ?_
              refine al_map (indexV Try.cfg 9 (.string (bstr (shp x6.1))) (.int .i64 ((jb : Nat) : Int))) (.int .u8 ((x11.toNat : Nat) : Int)) (by kernel_rfl) (by kernel_rfl) (by kernel_rfl) (index_bstr (by kernel_rfl) hx11) ?_
              refine al_test (by kernel_rfl) (by kernel_rfl) (by kernel_rfl) (fun h12 => ?_) (fun h12 => ?_)
              · have c13e : ((((x11.toNat : Nat) : Int) : Int) == 110) = true := Eq.trans (by kernel_rfl) h12
                clear h12
                have c13 : (((x11.toNat : Nat) : Int) : Int) = 110 := eq_of_beq c13e
                clear c13e
                refine al_nil ?_
                refine sk_true (by kernel_rfl) ?_
                refine sk_regionL Try.cfgOk hS ?_
                refine al_chunk 2 (by kernel_rfl) ?_
                refine al_callH 41 [.pointer (some ⟨1, 0, none⟩), .int .i64 (fld x11 (x6.1, x6.2.1, x6.2.2.1, x6.2.2.2.1, x6.2.2.2.2.1, x6.2.2.2.2.2))] (.tuple #[]) _ rfl (fun b h => by cases h) (by kernel_rfl) (by kernel_rfl) (hC41 _ _ _ _ (con_wnum_at lb (fld x11 (x6.1, x6.2.1, x6.2.2.1, x6.2.2.2.1, x6.2.2.2.2.1, x6.2.2.2.2.2)) 1 2 (by first | omega | assumption | exact u64_lt _ | (have := h0.1.2.2; omega) | (simp; done) | (exact app_le (by simp)) | (exact fld_in (h1 _ (List.mem_of_getElem? (by assumption))) _) | (simp only [List.length_append, List.length_cons, List.length_nil]; omega)) (by first | omega | assumption | exact u64_lt _ | (have := h0.1.2.2; omega) | (simp; done) | (exact app_le (by simp)) | (exact fld_in (h1 _ (List.mem_of_getElem? (by assumption))) _) | (simp only [List.length_append, List.length_cons, List.length_nil]; omega)) _ (by kernel_rfl) (by kernel_rfl) (by kernel_rfl) )) ?_
                refine al_nil ?_
                refine sk_regionL Try.cfgOk hS ?_
                refine al_eqv (v := .int .i64 (IntKind.wrap .i64 (((jb : Nat) : Int) + 1))) (.int .i64 ((jb + 1 : Nat) : Int)) (by kernel_rfl) (by kernel_rfl) (by kernel_rfl) (congrArg (Value.int .i64) (wrap_to (by omega) (by omega))) ?_
                refine al_known (by kernel_rfl) ?_
                refine .inl ⟨(jb + 1, (lb ++ uv (fold (fld x11 (x6.1, x6.2.1, x6.2.2.1, x6.2.2.2.1, x6.2.2.2.2.1, x6.2.2.2.2.2))))), rfl, ⟨?_, ?_, ?_, ?_⟩, ?_, ⟨by kernel_rfl, ⟨by kernel_rfl, by kernel_rfl, by kernel_rfl, by kernel_rfl, by kernel_rfl, by kernel_rfl, by kernel_rfl, by kernel_rfl, trivial⟩, ⟨.ptr ⟨by decide, rfl⟩, .ptr ⟨by decide, rfl⟩, sub_clo rfl, sub_clo rfl, sub_clo rfl, sub_clo rfl, sub_clo rfl, sub_clo rfl, trivial⟩, Nat.le_of_ble_eq_true (by kernel_rfl), ⟨by kernel_rfl, (((((wf_empty 0).new _).new _).new _).new _), (selfs (all_cons (o := .cells [.int .i64 fu, inlL ccells 6 co]) (by kernel_rfl) (OSub.cells (.cons (sub_clo rfl) (.cons (sub_clo rfl) .nil))) (all_cons (o := .cells [slL 2 1 ((lb ++ uv (fold (fld x11 (x6.1, x6.2.1, x6.2.2.1, x6.2.2.2.1, x6.2.2.2.2.1, x6.2.2.2.2.2)))).length)]) (by kernel_rfl) (OSub.cells (.cons (.slice ⟨by decide, rfl⟩) .nil)) (all_cons (o := rowL bcells (lb ++ uv (fold (fld x11 (x6.1, x6.2.1, x6.2.2.1, x6.2.2.2.1, x6.2.2.2.2.1, x6.2.2.2.2.2))))) (by kernel_rfl) (OSub.arr (subs_clo (flatL_clo bcells_clo))) (all_cons (o := .cells [.int .i64 x6.1, .int .i64 x6.2.1, .int .i64 x6.2.2.1, .int .i64 x6.2.2.2.1, .int .i64 x6.2.2.2.2.1, .int .i64 x6.2.2.2.2.2]) (by kernel_rfl) (OSub.cells (.cons (sub_clo rfl) (.cons (sub_clo rfl) (.cons (sub_clo rfl) (.cons (sub_clo rfl) (.cons (sub_clo rfl) (.cons (sub_clo rfl) .nil))))))) (all_none))))))⟩, mem_all (by kernel_rfl)⟩⟩
                · (try dsimp only); omega
                · (try dsimp only); rw [k1]; first | exact enc_step (by assumption) (encF_n (by assumption)) | exact enc_step (by assumption) (encF_c (by assumption))
                · (try dsimp only); first | exact Nat.le_trans (app_leF (fld_in (h1 _ (List.mem_of_getElem? hx6)) _) (Nat.le_refl _)) (by omega) | exact Nat.le_trans (app_le (Nat.le_refl _)) (by omega)
                · (try dsimp only); assumption
                · omega
              · have c13e : ((((x11.toNat : Nat) : Int) : Int) == 110) = false := Eq.trans (by kernel_rfl) h12
                clear h12
                have c13 : ¬ (((x11.toNat : Nat) : Int) : Int) = 110 := ne_of_beq_false c13e
                clear c13e
                refine al_nil ?_
                refine sk_false (by kernel_rfl) ?_
                refine sk_regionL Try.cfgOk hS ?_
                refine al_chunk 2 (by kernel_rfl) ?_
                refine al_eqv (v := .int .u64 (IntKind.wrap .u64 (fld x11 (x6.1, x6.2.1, x6.2.2.1, x6.2.2.2.1, x6.2.2.2.2.1, x6.2.2.2.2.2)))) (.int .u64 ((u64 (fld x11 (x6.1, x6.2.1, x6.2.2.1, x6.2.2.2.1, x6.2.2.2.2.1, x6.2.2.2.2.2)) : Nat) : Int)) (by kernel_rfl) (by kernel_rfl) (by kernel_rfl) (congrArg (Value.int .u64) (wrap_u64 _)) ?_
                refine al_callH 35 [.pointer (some ⟨1, 0, none⟩), .int .u64 ((u64 (fld x11 (x6.1, x6.2.1, x6.2.2.1, x6.2.2.2.1, x6.2.2.2.2.1, x6.2.2.2.2.2)) : Nat) : Int)] (.tuple #[]) _ rfl (fun b h => by cases h) (by kernel_rfl) (by kernel_rfl) (hC35 _ _ _ _ (con_wcount_at lb (u64 (fld x11 (x6.1, x6.2.1, x6.2.2.1, x6.2.2.2.1, x6.2.2.2.2.1, x6.2.2.2.2.2))) 1 2 (by first | omega | assumption | exact u64_lt _ | (have := h0.1.2.2; omega) | (simp; done) | (exact app_le (by simp)) | (exact fld_in (h1 _ (List.mem_of_getElem? (by assumption))) _) | (simp only [List.length_append, List.length_cons, List.length_nil]; omega)) (by first | omega | assumption | exact u64_lt _ | (have := h0.1.2.2; omega) | (simp; done) | (exact app_le (by simp)) | (exact fld_in (h1 _ (List.mem_of_getElem? (by assumption))) _) | (simp only [List.length_append, List.length_cons, List.length_nil]; omega)) _ (by kernel_rfl) (by kernel_rfl) (by kernel_rfl) )) ?_
                refine al_nil ?_
                refine sk_regionL Try.cfgOk hS ?_
                refine al_eqv (v := .int .i64 (IntKind.wrap .i64 (((jb : Nat) : Int) + 1))) (.int .i64 ((jb + 1 : Nat) : Int)) (by kernel_rfl) (by kernel_rfl) (by kernel_rfl) (congrArg (Value.int .i64) (wrap_to (by omega) (by omega))) ?_
                refine al_known (by kernel_rfl) ?_
                refine .inl ⟨(jb + 1, (lb ++ uv (u64 (fld x11 (x6.1, x6.2.1, x6.2.2.1, x6.2.2.2.1, x6.2.2.2.2.1, x6.2.2.2.2.2))))), rfl, ⟨?_, ?_, ?_, ?_⟩, ?_, ⟨by kernel_rfl, ⟨by kernel_rfl, by kernel_rfl, by kernel_rfl, by kernel_rfl, by kernel_rfl, by kernel_rfl, by kernel_rfl, by kernel_rfl, trivial⟩, ⟨.ptr ⟨by decide, rfl⟩, .ptr ⟨by decide, rfl⟩, sub_clo rfl, sub_clo rfl, sub_clo rfl, sub_clo rfl, sub_clo rfl, sub_clo rfl, trivial⟩, Nat.le_of_ble_eq_true (by kernel_rfl), ⟨by kernel_rfl, (((((wf_empty 0).new _).new _).new _).new _), (selfs (all_cons (o := .cells [.int .i64 fu, inlL ccells 6 co]) (by kernel_rfl) (OSub.cells (.cons (sub_clo rfl) (.cons (sub_clo rfl) .nil))) (all_cons (o := .cells [slL 2 1 ((lb ++ uv (u64 (fld x11 (x6.1, x6.2.1, x6.2.2.1, x6.2.2.2.1, x6.2.2.2.2.1, x6.2.2.2.2.2)))).length)]) (by kernel_rfl) (OSub.cells (.cons (.slice ⟨by decide, rfl⟩) .nil)) (all_cons (o := rowL bcells (lb ++ uv (u64 (fld x11 (x6.1, x6.2.1, x6.2.2.1, x6.2.2.2.1, x6.2.2.2.2.1, x6.2.2.2.2.2))))) (by kernel_rfl) (OSub.arr (subs_clo (flatL_clo bcells_clo))) (all_cons (o := .cells [.int .i64 x6.1, .int .i64 x6.2.1, .int .i64 x6.2.2.1, .int .i64 x6.2.2.2.1, .int .i64 x6.2.2.2.2.1, .int .i64 x6.2.2.2.2.2]) (by kernel_rfl) (OSub.cells (.cons (sub_clo rfl) (.cons (sub_clo rfl) (.cons (sub_clo rfl) (.cons (sub_clo rfl) (.cons (sub_clo rfl) (.cons (sub_clo rfl) .nil))))))) (all_none))))))⟩, mem_all (by kernel_rfl)⟩⟩
                · (try dsimp only); omega
                · (try dsimp only); rw [k1]; first | exact enc_step (by assumption) (encF_n (by assumption)) | exact enc_step (by assumption) (encF_c (by assumption))
                · (try dsimp only); first | exact Nat.le_trans (app_leF (fld_in (h1 _ (List.mem_of_getElem? hx6)) _) (Nat.le_refl _)) (by omega) | exact Nat.le_trans (app_le (Nat.le_refl _)) (by omega)
                · (try dsimp only); assumption
                · omega
            · have c10e : (decide ((((jb : Nat) : Int) : Int) < (((shp x6.1).length : Nat) : Int))) = false := Eq.trans (by kernel_rfl) h9
              clear h9
              have c10 : ¬ (((jb : Nat) : Int) : Int) < (((shp x6.1).length : Nat) : Int) := of_decide_eq_false c10e
              clear c10e
              refine al_nil ?_
              refine sk_seq ?_
              refine sk_false (by kernel_rfl) ?_
              refine sk_exit ?_
              dsimp only
              refine .inr ⟨_, _, (fun h => by cases h), ⟨rfl, ?_, rfl, rfl⟩, ⟨by kernel_rfl, ⟨by kernel_rfl, by kernel_rfl, by kernel_rfl, by kernel_rfl, by kernel_rfl, by kernel_rfl, by kernel_rfl, by kernel_rfl, trivial⟩, ⟨.ptr ⟨by decide, rfl⟩, .ptr ⟨by decide, rfl⟩, sub_clo rfl, sub_clo rfl, sub_clo rfl, sub_clo rfl, sub_clo rfl, sub_clo rfl, trivial⟩, Nat.le_of_ble_eq_true (by kernel_rfl), ⟨by kernel_rfl, (((((wf_empty 0).new _).new _).new _).new _), (selfs (all_cons (o := .cells [.int .i64 fu, inlL ccells 6 co]) (by kernel_rfl) (OSub.cells (.cons (sub_clo rfl) (.cons (sub_clo rfl) .nil))) (all_cons (o := .cells [slL 2 1 lb.length]) (by kernel_rfl) (OSub.cells (.cons (.slice ⟨by decide, rfl⟩) .nil)) (all_cons (o := rowL bcells lb) (by kernel_rfl) (OSub.arr (subs_clo (flatL_clo bcells_clo))) (all_cons (o := .cells [.int .i64 x6.1, .int .i64 x6.2.1, .int .i64 x6.2.2.1, .int .i64 x6.2.2.2.1, .int .i64 x6.2.2.2.2.1, .int .i64 x6.2.2.2.2.2]) (by kernel_rfl) (OSub.cells (.cons (sub_clo rfl) (.cons (sub_clo rfl) (.cons (sub_clo rfl) (.cons (sub_clo rfl) (.cons (sub_clo rfl) (.cons (sub_clo rfl) .nil))))))) (all_none))))))⟩, mem_all (by kernel_rfl)⟩⟩
              · omega
          · exact ⟨by ((try dsimp only); first | done | (omega)), by ((try dsimp only); first | done | (simp [catB])), by ((try dsimp only); first | done | (simp)), by ((try dsimp only); first | done | (exact shp_len _))⟩
          rintro o e1 s1 ⟨a, lv1, M1, m8, ha, ⟨rfl, hx, rfl, rfl⟩, rfl, rfl⟩
          obtain ⟨jb, lb⟩ := a
          obtain ⟨k0, k1, k2, k3⟩ := ha
          dsimp only at hx k0 k1 k2 k3
          dsimp only
          try rw [if_pos rfl]
          refine sk_regionL Try.cfgOk hS ?_
          refine al_eqv (v := .int .i64 (IntKind.wrap .i64 (((i : Nat) : Int) + 1))) (.int .i64 ((i + 1 : Nat) : Int)) (by kernel_rfl) (by kernel_rfl) (by kernel_rfl) (congrArg (Value.int .i64) (wrap_to (by omega) (by omega))) ?_
          refine al_known (by kernel_rfl) ?_
          refine .inl ⟨(i + 1, lb), rfl, ⟨?_, ?_, ?_, ?_⟩, ?_, ⟨by kernel_rfl, ⟨by kernel_rfl, by kernel_rfl, by kernel_rfl, by kernel_rfl, trivial⟩, ⟨.ptr ⟨by decide, rfl⟩, sub_clo rfl, sub_clo rfl, sub_clo rfl, trivial⟩, Nat.le_of_ble_eq_true (by kernel_rfl), ⟨by kernel_rfl, ((((wf_empty 0).new _).new _).new _), (selfs (all_cons (o := .cells [.int .i64 fu, inlL ccells 6 co]) (by kernel_rfl) (OSub.cells (.cons (sub_clo rfl) (.cons (sub_clo rfl) .nil))) (all_cons (o := .cells [slL 2 1 lb.length]) (by kernel_rfl) (OSub.cells (.cons (.slice ⟨by decide, rfl⟩) .nil)) (all_cons (o := rowL bcells lb) (by kernel_rfl) (OSub.arr (subs_clo (flatL_clo bcells_clo))) (all_none)))))⟩, mem_all (by kernel_rfl)⟩⟩
          · (try dsimp only); omega
          · (try dsimp only); exact prog_step (by assumption) i1 k1 hx
          · (try dsimp only); omega
          · (try dsimp only); assumption
          · omega
        ·
          exact absurd (check_op h0 hx6) q7
      · have c5e : (decide ((((i : Nat) : Int) : Int) < ((co.length : Nat) : Int))) = false := Eq.trans (by kernel_rfl) h4
        clear h4
        have c5 : ¬ (((i : Nat) : Int) : Int) < ((co.length : Nat) : Int) := of_decide_eq_false c5e
        clear c5e
        refine al_nil ?_
        refine sk_seq ?_
        refine sk_false (by kernel_rfl) ?_
        refine sk_exit ?_
        dsimp only
        refine .inr ⟨_, _, (fun h => by cases h), ⟨rfl, ?_, rfl, rfl⟩, ⟨by kernel_rfl, ⟨by kernel_rfl, by kernel_rfl, by kernel_rfl, by kernel_rfl, trivial⟩, ⟨.ptr ⟨by decide, rfl⟩, sub_clo rfl, sub_clo rfl, sub_clo rfl, trivial⟩, Nat.le_of_ble_eq_true (by kernel_rfl), ⟨by kernel_rfl, ((((wf_empty 0).new _).new _).new _), (selfs (all_cons (o := .cells [.int .i64 fu, inlL ccells 6 co]) (by kernel_rfl) (OSub.cells (.cons (sub_clo rfl) (.cons (sub_clo rfl) .nil))) (all_cons (o := .cells [slL 2 1 l.length]) (by kernel_rfl) (OSub.cells (.cons (.slice ⟨by decide, rfl⟩) .nil)) (all_cons (o := rowL bcells l) (by kernel_rfl) (OSub.arr (subs_clo (flatL_clo bcells_clo))) (all_none)))))⟩, mem_all (by kernel_rfl)⟩⟩
        · omega
    · exact ⟨by ((try dsimp only); first | done | (omega)), by ((try dsimp only); first | done | (simp [catB])), by ((try dsimp only); first | done | (refine app_leN (by have := h0.1.2.2; omega) ?_; have q := app_le (l := ([] : List UInt8)) (n := fu) (B := 10) (by simp); omega)), by ((try dsimp only); first | done | (have := h0.1.2.2; omega))⟩
    rintro o e1 s1 ⟨a, lv1, M1, m3, ha, ⟨rfl, hx, rfl, rfl⟩, rfl, rfl⟩
    obtain ⟨i, l⟩ := a
    obtain ⟨i0, i1, i2, i3⟩ := ha
    dsimp only at hx i0 i1 i2 i3
    dsimp only
    try rw [if_pos rfl]
    refine sk_seq ?_
    refine sk_regionL Try.cfgOk hS ?_
    refine al_chunk 1 (by kernel_rfl) ?_
    refine al_callH 40 [.pointer (some ⟨1, 0, none⟩)] (inlL bcells 1 l) _ rfl (fun b h => by cases h) (by kernel_rfl) (by kernel_rfl) (hC40 _ _ _ _ (con_wout_at l 1 2 (by first | omega | assumption | exact u64_lt _ | (have := h0.1.2.2; omega) | (simp; done) | (exact app_le (by simp)) | (exact fld_in (h1 _ (List.mem_of_getElem? (by assumption))) _) | (simp only [List.length_append, List.length_cons, List.length_nil]; omega)) _ (by kernel_rfl) (by kernel_rfl) (by kernel_rfl) )) ?_
    refine al_known (by kernel_rfl) ?_
    refine sk_ret ?_
    exact ⟨[inlL bcells 1 l, .nilIface], by kernel_rfl, .tuple (.cons (fs_to (fs_clo rfl) (congrArg (inlL bcells 1) (by rw [i1, List.take_of_length_le (by omega), progB]))) (.cons (.same (sub_clo rfl)) (.nil))), Nat.le_of_ble_eq_true (by kernel_rfl)⟩
  ·
    exact absurd h0 q1
noncomputable def con_pencode : Con Try.prog 0 := Con.pure (α := Int × (List Code)) 37 (fun z9 => [.agg #[.int .i64 z9.1, inlL ccells 6 z9.2]]) (fun z9 => .tuple #[inlL bcells 1 (progB z9.1 z9.2), .nilIface]) (fun z9 => (checkP z9.1 z9.2) ∧ (∀ c ∈ z9.2, inC c)) (by
  rintro ⟨a0, a1⟩ ⟨b0, b1⟩ h
  simp only [List.cons.injEq, and_true, Int.natCast_inj, UInt8.toNat_inj, Value.int.injEq, Value.bool.injEq, Value.string.injEq, Value.agg.injEq, Array.mk.injEq, true_and, ccells_iff] at h
  first | exact h | (simp only [Prod.ext_iff, h, and_self, and_true, true_and]; done) | simp_all [Prod.ext_iff]) (fun _ => rfl) (fun _ => rfl) 400 (by
  rintro ⟨a0, a1⟩ ⟨p0, p1⟩
  exact pencode_sc a0 a1 p0 p1)
theorem con_pencode_at (fu : Int) (co : List Code) (h0 : checkP fu co) (h1 : ∀ c ∈ co, inC c) (s : St) : con_pencode.rel [.agg #[.int .i64 fu, inlL ccells 6 co]] s (.tuple #[inlL bcells 1 (progB fu co), .nilIface]) s := con_pure (fu, co) ⟨h0, h1⟩ s
end Go.Proofs.Ytegigohhnplomaa