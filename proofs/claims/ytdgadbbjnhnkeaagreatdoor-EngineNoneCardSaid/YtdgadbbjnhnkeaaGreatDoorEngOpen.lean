/- Open of fresh devices, in the memory of the law. -/
import Derived.Test.YtdgadbbjnhnkeaaGreatDoorEngZero
set_option linter.unusedVariables false
set_option linter.unusedSimpArgs false
set_option linter.unnecessarySimpa false
namespace Go.Proofs.YtdgadbbjnhnkeaaGreatDoor
open Go.Ai
def openV (pl wk : Int) : Int := if (0 ≤ pl ∧ pl ≤ 2) ∧ 1 ≤ wk ∧ wk ≤ 64 then 9 else 1
theorem openV_t {pl wk : Int} (h : (0 ≤ pl ∧ pl ≤ 2) ∧ 1 ≤ wk ∧ wk ≤ 64) : (.tuple #[.pointer none, .iface 36 (.int .i64 (9))] : Value) = .tuple #[.pointer none, .iface 36 (.int .i64 (openV pl wk))] := by rw [show openV pl wk = 9 from if_pos h]
theorem openV_f {pl wk : Int} (h : ¬ ((0 ≤ pl ∧ pl ≤ 2) ∧ 1 ≤ wk ∧ wk ≤ 64)) : (.tuple #[.pointer none, .iface 36 (.int .i64 (1))] : Value) = .tuple #[.pointer none, .iface 36 (.int .i64 (openV pl wk))] := by rw [show openV pl wk = 1 from if_neg h]
theorem openV_u {pl wk : Int} (h : (0 ≤ pl ∧ pl ≤ 2) ∧ 1 ≤ wk ∧ wk ≤ 64) : (.tuple #[.pointer none, .iface 36 (.int .i64 (openV pl wk))] : Value) = .tuple #[.pointer none, .iface 36 (.int .i64 (9))] := (openV_t h).symm
theorem openV_w {pl wk : Int} (h : ¬ ((0 ≤ pl ∧ pl ≤ 2) ∧ 1 ≤ wk ∧ wk ≤ 64)) : (.tuple #[.pointer none, .iface 36 (.int .i64 (openV pl wk))] : Value) = .tuple #[.pointer none, .iface 36 (.int .i64 (1))] := (openV_f h).symm
noncomputable def openSt (b0 : Int) (b1 : Int) (b2 : Int) (b3 : Int) (pl : Int) (wk : Int) (fu : Int) (co : List Code) (sz : List Int) (st_ : Int) (n : Int) : St := (((((((((((((((((St.empty 0).new (.arr (errCell 532) 0 true)).new (.arr (errCell 532) 0 true)).new (.arr (errCell 532) 0 true)).new (.cells [.int .i64 fu, inlL ccells 6 co])).new (.cells [inlL icells 1 sz, .int .i64 st_, .int .i64 wk, .int .i64 b0, .int .i64 b1, .int .i64 b2, .int .i64 b3, .int .i64 pl])).new (.cells [.int .i64 0, .int .i64 0])).new (.arr [.iface 36 (.int .i64 11), .iface 36 (.int .i64 11), .iface 36 (.int .i64 11), .iface 36 (.int .i64 11), .iface 36 (.int .i64 11), .iface 36 (.int .i64 11), .iface 36 (.int .i64 11), .iface 36 (.int .i64 11)] 0 false)).new (.arr [.int .i64 3, .int .i64 3] 0 false)).new (.cells [.int .i64 0, .int .i64 0, .bool false, .bool false, .slice (some ⟨12, 0, some 2⟩) 2 1])).new (.map [] 0)).new (.cells [.int .i64 3, .map (some 9), .slice none 0 0])).new (.arr [.pointer (some ⟨10, 0, none⟩)] 0 false)).new (.arr [.pointer (some ⟨10, 0, none⟩), .pointer (some ⟨14, 0, none⟩)] 0 false)).new (.map [] 0)).new (.cells [.int .i64 3, .map (some 13), .slice none 0 0])).new (.arr [.pointer (some ⟨14, 0, none⟩)] 0 false))
theorem open1_fn : Tryz3.cfg.fn 23 = some Tryz.f23 := by kernel_rfl
set_option maxHeartbeats 4000000 in
set_option maxRecDepth 100000 in
theorem open1_sc (b0 : Int) (b1 : Int) (b2 : Int) (b3 : Int) (pl : Int) (wk : Int) (fu : Int) (co : List Code) (sz : List Int) (st_ : Int) (n : Int)  : SC Tryz.prog 3 23 [.pointer (some ⟨8, 0, none⟩), .agg #[.int .i64 b0, .int .i64 b1, .int .i64 b2, .int .i64 b3, .int .i64 pl, .int .i64 wk], .slice none 0 0] (((((((((((((((((St.empty 0).new (.arr (errCell 532) 0 true)).new (.arr (errCell 532) 0 true)).new (.arr (errCell 532) 0 true)).new (.cells [.int .i64 fu, inlL ccells 6 co])).new (.cells [inlL icells 1 sz, .int .i64 st_, .int .i64 wk, .int .i64 b0, .int .i64 b1, .int .i64 b2, .int .i64 b3, .int .i64 pl])).new (.cells [.int .i64 0, .int .i64 0])).new (.arr [.iface 36 (.int .i64 11), .iface 36 (.int .i64 11), .iface 36 (.int .i64 11), .iface 36 (.int .i64 11), .iface 36 (.int .i64 11), .iface 36 (.int .i64 11), .iface 36 (.int .i64 11), .iface 36 (.int .i64 11)] 0 false)).new (.arr [.int .i64 3, .int .i64 3] 0 false)).new (.cells [.int .i64 0, .int .i64 0, .bool false, .bool false, .slice (some ⟨12, 0, some 2⟩) 2 1])).new (.map [] 0)).new (.cells [.int .i64 3, .map (some 9), .slice none 0 0])).new (.arr [.pointer (some ⟨10, 0, none⟩)] 0 false)).new (.arr [.pointer (some ⟨10, 0, none⟩), .pointer (some ⟨14, 0, none⟩)] 0 false)).new (.map [] 0)).new (.cells [.int .i64 3, .map (some 13), .slice none 0 0])).new (.arr [.pointer (some ⟨14, 0, none⟩)] 0 false)) fun v s' => v = .tuple #[.pointer none, .iface 36 (.int .i64 (openV pl wk))] ∧ s'.n ≤ 400 ∧ ∀ i, i < 16 → s'.get i = (openSt b0 b1 b2 b3 pl wk fu co sz st_ n).get i := by
  obtain ⟨rc, hS, hC, hR⟩ := rc_con2 (sound_run Tryz3.cfgOk 300) [con_cgood] (by kernel_rfl)
  have hC31 := hC con_cgood (.head _)
  refine sc_body Tryz3.cfgOk open1_fn rfl ?_
  refine sk_st (((((((((((((((((St.empty 0).new (.arr (errCell 532) 0 true)).new (.arr (errCell 532) 0 true)).new (.arr (errCell 532) 0 true)).new (.cells [.int .i64 fu, inlL ccells 6 co])).new (.cells [inlL icells 1 sz, .int .i64 st_, .int .i64 wk, .int .i64 b0, .int .i64 b1, .int .i64 b2, .int .i64 b3, .int .i64 pl])).new (.cells [.int .i64 0, .int .i64 0])).new (.arr [.iface 36 (.int .i64 11), .iface 36 (.int .i64 11), .iface 36 (.int .i64 11), .iface 36 (.int .i64 11), .iface 36 (.int .i64 11), .iface 36 (.int .i64 11), .iface 36 (.int .i64 11), .iface 36 (.int .i64 11)] 0 false)).new (.arr [.int .i64 3, .int .i64 3] 0 false)).new (.cells [.int .i64 0, .int .i64 0, .bool false, .bool false, .slice (some ⟨12, 0, some 2⟩) 2 1])).new (.map [] 0)).new (.cells [.int .i64 3, .map (some 9), .slice none 0 0])).new (.arr [.pointer (some ⟨10, 0, none⟩)] 0 false)).new (.arr [.pointer (some ⟨10, 0, none⟩), .pointer (some ⟨14, 0, none⟩)] 0 false)).new (.map [] 0)).new (.cells [.int .i64 3, .map (some 13), .slice none 0 0])).new (.arr [.pointer (some ⟨14, 0, none⟩)] 0 false)) rfl ?_
  refine sk_seq ?_
  refine kK Tryz3.cfgOk hS ?_
  refine sk_seq (sk_seq ?_)
  refine sk_regionL Tryz3.cfgOk hS ?_
  refine aK 5 ?_
  refine aB 31 [.agg #[.int .i64 b0, .int .i64 b1, .int .i64 b2, .int .i64 b3, .int .i64 pl]] (decide (0 ≤ pl ∧ pl ≤ 2)) _ rfl (hC31 _ _ _ _ (con_cgood_at b0 b1 b2 b3 pl  _)) (fun h1 => ?_) (fun h1 => ?_)
  · have c2 : 0 ≤ pl ∧ pl ≤ 2 := of_decide_eq_true h1
    clear h1
    refine aK 5 ?_
    refine aT (fun h3 => ?_) (fun h3 => ?_)
    · have c4e : (decide ((wk : Int) < 1)) = true := Eq.trans (by kernel_rfl) h3
      clear h3
      have c4 : (wk : Int) < 1 := of_decide_eq_true c4e
      clear c4e
      refine aN ?_
      refine kT ?_
      refine sk_seq ?_
      refine kK Tryz3.cfgOk hS ?_
      refine sk_ret ?_
      exact ⟨[.pointer none, .iface 36 (.int .i64 1)], by kernel_rfl, (by first | exact openV_t (by omega) | exact openV_f (by omega)), Nat.le_of_ble_eq_true (by kernel_rfl), get_all (by kernel_rfl)⟩
    · have c4e : (decide ((wk : Int) < 1)) = false := Eq.trans (by kernel_rfl) h3
      clear h3
      have c4 : ¬ (wk : Int) < 1 := of_decide_eq_false c4e
      clear c4e
      refine aK 4 ?_
      refine aT (fun h5 => ?_) (fun h5 => ?_)
      · have c6e : (decide ((wk : Int) > 64)) = true := Eq.trans (by kernel_rfl) h5
        clear h5
        have c6 : (wk : Int) > 64 := of_decide_eq_true c6e
        clear c6e
        refine aN ?_
        refine kT ?_
        refine sk_seq ?_
        refine kK Tryz3.cfgOk hS ?_
        refine sk_ret ?_
        exact ⟨[.pointer none, .iface 36 (.int .i64 1)], by kernel_rfl, (by first | exact openV_t (by omega) | exact openV_f (by omega)), Nat.le_of_ble_eq_true (by kernel_rfl), get_all (by kernel_rfl)⟩
      · have c6e : (decide ((wk : Int) > 64)) = false := Eq.trans (by kernel_rfl) h5
        clear h5
        have c6 : ¬ (wk : Int) > 64 := of_decide_eq_false c6e
        clear c6e
        refine aN ?_
        refine kF ?_
        refine sk_skip (sk_seq (sk_seq ?_))
        refine sk_regionL Tryz3.cfgOk hS ?_
        refine aK 1 ?_
        refine al_callH 52 [.pointer (some ⟨8, 0, none⟩)] (.bool false) ((((((((((((((((((St.empty 0).new (.arr (errCell 532) 0 true)).new (.arr (errCell 532) 0 true)).new (.arr (errCell 532) 0 true)).new (.cells [.int .i64 fu, inlL ccells 6 co])).new (.cells [inlL icells 1 sz, .int .i64 st_, .int .i64 wk, .int .i64 b0, .int .i64 b1, .int .i64 b2, .int .i64 b3, .int .i64 pl])).new (.cells [.int .i64 0, .int .i64 0])).new (.arr [.iface 36 (.int .i64 11), .iface 36 (.int .i64 11), .iface 36 (.int .i64 11), .iface 36 (.int .i64 11), .iface 36 (.int .i64 11), .iface 36 (.int .i64 11), .iface 36 (.int .i64 11), .iface 36 (.int .i64 11)] 0 false)).new (.arr [.int .i64 3, .int .i64 3] 0 false)).new (.cells [.int .i64 0, .int .i64 0, .bool false, .bool false, .slice (some ⟨12, 0, some 2⟩) 2 1])).new (.map [] 0)).new (.cells [.int .i64 3, .map (some 9), .slice none 0 0])).new (.arr [.pointer (some ⟨10, 0, none⟩)] 0 false)).new (.arr [.pointer (some ⟨10, 0, none⟩), .pointer (some ⟨14, 0, none⟩)] 0 false)).new (.map [] 0)).new (.cells [.int .i64 3, .map (some 13), .slice none 0 0])).new (.arr [.pointer (some ⟨14, 0, none⟩)] 0 false)).new (.cells [.int .i64 b0, .int .i64 b1, .int .i64 b2, .int .i64 b3, .int .i64 pl, .int .i64 wk])) rfl (fun b h => by cases h) (by kernel_rfl) (by kernel_rfl) (Eq.trans (hR 52 _ _ (by kernel_rfl)) (by kernel_rfl)) ?_
        refine al_nil ?_
        refine kF ?_
        refine sk_skip (sk_seq ?_)
        refine sk_regionL Tryz3.cfgOk hS ?_
        refine aK 1 ?_
        refine aC 53 [.pointer (some ⟨8, 0, none⟩)] (.tuple #[.agg #[.int .i64 0, .int .i64 0, .int .i64 0, .int .i64 0, .int .i64 0, .slice none 0 0], .iface 36 (.int .i64 9)]) _ rfl (Eq.trans (hR 53 _ _ (by kernel_rfl)) (runFact (by kernel_rfl))) ?_
        refine aN ?_
        refine sk_seq (sk_seq ?_)
        refine kK Tryz3.cfgOk hS ?_
        refine kT ?_
        refine sk_seq ?_
        refine kK Tryz3.cfgOk hS ?_
        refine sk_ret ?_
        exact ⟨[.pointer none, .iface 36 (.int .i64 9)], by kernel_rfl, (by first | exact openV_t (by omega) | exact openV_f (by omega)), Nat.le_of_ble_eq_true (by kernel_rfl), get_all (by kernel_rfl)⟩
  · have c2 : ¬ (0 ≤ pl ∧ pl ≤ 2) := of_decide_eq_false h1
    clear h1
    refine aN ?_
    refine kT ?_
    refine sk_seq ?_
    refine kK Tryz3.cfgOk hS ?_
    refine sk_ret ?_
    exact ⟨[.pointer none, .iface 36 (.int .i64 1)], by kernel_rfl, (by first | exact openV_t (by omega) | exact openV_f (by omega)), Nat.le_of_ble_eq_true (by kernel_rfl), get_all (by kernel_rfl)⟩
noncomputable def con_open1 (b0 : Int) (b1 : Int) (b2 : Int) (b3 : Int) (pl : Int) (wk : Int) (fu : Int) (co : List Code) (sz : List Int) (st_ : Int) (n : Int) : Con Tryz.prog 3 := Con.exact (k := 16) (N := 400) 23 [.pointer (some ⟨8, 0, none⟩), .agg #[.int .i64 b0, .int .i64 b1, .int .i64 b2, .int .i64 b3, .int .i64 pl, .int .i64 wk], .slice none 0 0] (openSt b0 b1 b2 b3 pl wk fu co sz st_ n) (.tuple #[.pointer none, .iface 36 (.int .i64 (openV pl wk))]) rfl (((((((((((((((((wf_empty 0).new _).new _).new _).new _).new _).new _).new _).new _).new _).new _).new _).new _).new _).new _).new _).new _) (selfs (all_cons (o := .arr (errCell 532) 0 true) (by kernel_rfl) (OSub.arr (.cons (.iface (.chan _)) .nil)) (all_cons (o := .arr (errCell 532) 0 true) (by kernel_rfl) (OSub.arr (.cons (.iface (.chan _)) .nil)) (all_cons (o := .arr (errCell 532) 0 true) (by kernel_rfl) (OSub.arr (.cons (.iface (.chan _)) .nil)) (all_cons (o := .cells [.int .i64 fu, inlL ccells 6 co]) (by kernel_rfl) (OSub.cells (.cons (sub_clo rfl) (.cons (sub_clo rfl) .nil))) (all_cons (o := .cells [inlL icells 1 sz, .int .i64 st_, .int .i64 wk, .int .i64 b0, .int .i64 b1, .int .i64 b2, .int .i64 b3, .int .i64 pl]) (by kernel_rfl) (OSub.cells (.cons (sub_clo rfl) (.cons (sub_clo rfl) (.cons (sub_clo rfl) (.cons (sub_clo rfl) (.cons (sub_clo rfl) (.cons (sub_clo rfl) (.cons (sub_clo rfl) (.cons (sub_clo rfl) .nil))))))))) (all_cons (o := .cells [.int .i64 0, .int .i64 0]) (by kernel_rfl) (OSub.cells (.cons (sub_clo rfl) (.cons (sub_clo rfl) .nil))) (all_cons (o := .arr [.iface 36 (.int .i64 11), .iface 36 (.int .i64 11), .iface 36 (.int .i64 11), .iface 36 (.int .i64 11), .iface 36 (.int .i64 11), .iface 36 (.int .i64 11), .iface 36 (.int .i64 11), .iface 36 (.int .i64 11)] 0 false) (by kernel_rfl) (OSub.arr (.cons (.iface (sub_clo rfl)) (.cons (.iface (sub_clo rfl)) (.cons (.iface (sub_clo rfl)) (.cons (.iface (sub_clo rfl)) (.cons (.iface (sub_clo rfl)) (.cons (.iface (sub_clo rfl)) (.cons (.iface (sub_clo rfl)) (.cons (.iface (sub_clo rfl)) .nil))))))))) (all_cons (o := .arr [.int .i64 3, .int .i64 3] 0 false) (by kernel_rfl) (OSub.arr (.cons (sub_clo rfl) (.cons (sub_clo rfl) .nil))) (all_cons (o := .cells [.int .i64 0, .int .i64 0, .bool false, .bool false, .slice (some ⟨12, 0, some 2⟩) 2 1]) (by kernel_rfl) (OSub.cells (.cons (sub_clo rfl) (.cons (sub_clo rfl) (.cons (sub_clo rfl) (.cons (sub_clo rfl) (.cons (.slice ⟨by decide, rfl⟩) .nil)))))) (all_cons (o := .map [] 0) (by kernel_rfl) (OSub.map .nil) (all_cons (o := .cells [.int .i64 3, .map (some 9), .slice none 0 0]) (by kernel_rfl) (OSub.cells (.cons (sub_clo rfl) (.cons (.map ⟨by decide, rfl⟩) (.cons (sub_clo rfl) .nil)))) (all_cons (o := .arr [.pointer (some ⟨10, 0, none⟩)] 0 false) (by kernel_rfl) (OSub.arr (.cons (.ptr ⟨by decide, rfl⟩) .nil)) (all_cons (o := .arr [.pointer (some ⟨10, 0, none⟩), .pointer (some ⟨14, 0, none⟩)] 0 false) (by kernel_rfl) (OSub.arr (.cons (.ptr ⟨by decide, rfl⟩) (.cons (.ptr ⟨by decide, rfl⟩) .nil))) (all_cons (o := .map [] 0) (by kernel_rfl) (OSub.map .nil) (all_cons (o := .cells [.int .i64 3, .map (some 13), .slice none 0 0]) (by kernel_rfl) (OSub.cells (.cons (sub_clo rfl) (.cons (.map ⟨by decide, rfl⟩) (.cons (sub_clo rfl) .nil)))) (all_cons (o := .arr [.pointer (some ⟨14, 0, none⟩)] 0 false) (by kernel_rfl) (OSub.arr (.cons (.ptr ⟨by decide, rfl⟩) .nil)) (all_none)))))))))))))))))) (.cons (.ptr ⟨by decide, rfl⟩) (.cons (.agg (.cons (sub_clo rfl) (.cons (sub_clo rfl) (.cons (sub_clo rfl) (.cons (sub_clo rfl) (.cons (sub_clo rfl) (.cons (sub_clo rfl) .nil))))))) (.cons (sub_clo rfl) .nil))) (sub_clo rfl) (open1_sc b0 b1 b2 b3 pl wk fu co sz st_ n) (Nat.le_trans (gl_le 3) (by decide))
theorem con_open1_at (b0 : Int) (b1 : Int) (b2 : Int) (b3 : Int) (pl : Int) (wk : Int) (fu : Int) (co : List Code) (sz : List Int) (st_ : Int) (n : Int) (s : St) (hn : Nat.ble 16 s.n = true) (hg : (List.range 16).map s.get = (List.range 16).map (openSt b0 b1 b2 b3 pl wk fu co sz st_ n).get) : (con_open1 b0 b1 b2 b3 pl wk fu co sz st_ n).rel [.pointer (some ⟨8, 0, none⟩), .agg #[.int .i64 b0, .int .i64 b1, .int .i64 b2, .int .i64 b3, .int .i64 pl, .int .i64 wk], .slice none 0 0] s (.tuple #[.pointer none, .iface 36 (.int .i64 (openV pl wk))]) s := ⟨rfl, rfl, rfl, Nat.le_of_ble_eq_true hn, get_all hg⟩
end Go.Proofs.YtdgadbbjnhnkeaaGreatDoor