/- EngineNone: whatever program, configuration and number. -/
import Derived.Test.YtdgadbbjnhnkeaaGreatDoorEngOpen
import Derived.Test.YtdgadbbjnhnkeaaGreatDoorAliveG
set_option linter.unusedVariables false
set_option linter.unusedSimpArgs false
set_option linter.unnecessarySimpa false
namespace Go.Proofs.YtdgadbbjnhnkeaaGreatDoor
open Go.Ai
theorem con_galive_at (s : St) (h0 : s.get 0 = some (.arr (errCell 532) 0 true)) (h1 : s.get 1 = some (.arr (errCell 532) 0 true)) (h2 : s.get 2 = some (.arr (errCell 532) 0 true)) (hn : Nat.ble 3 s.n = true) : con_galive.rel [] s (.bool true) s := ⟨rfl, rfl, rfl, Nat.le_of_ble_eq_true hn, get3 h0 h1 h2⟩
theorem glaw_fn : Tryz3.cfg.fn 4 = some Tryz.f4 := by kernel_rfl
set_option maxHeartbeats 4000000 in
set_option maxRecDepth 100000 in
theorem glaw_sc (fu : Int) (co : List Code) (sz : List Int) (st_ : Int) (b0 : Int) (b1 : Int) (b2 : Int) (b3 : Int) (pl : Int) (wk : Int) (n : Int)  : SC Tryz.prog 3 4 [.agg #[.int .i64 fu, inlL ccells 6 co], .agg #[inlL icells 1 sz, .int .i64 st_, .int .i64 wk, .int .i64 b0, .int .i64 b1, .int .i64 b2, .int .i64 b3, .int .i64 pl], .int .i64 n] ((((St.empty 0).new (.arr (errCell 532) 0 true)).new (.arr (errCell 532) 0 true)).new (.arr (errCell 532) 0 true)) fun v s' => v = .bool true := by
  obtain ⟨rc, hS, hC, hR⟩ := rc_con2 (sound_run Tryz3.cfgOk 300) [con_galive, con_esubmit, con_eread, con_escan, con_estep, con_etick, con_esync, con_ebegin, con_eclose, con_open0, con_format, con_estate, con_etext, con_isn3] (by kernel_rfl)
  have hC14 := hC con_galive (.head _)
  have hC15 := hC con_esubmit (.tail _ (.head _))
  have hC16 := hC con_eread (.tail _ (.tail _ (.head _)))
  have hC17 := hC con_escan (.tail _ (.tail _ (.tail _ (.head _))))
  have hC18 := hC con_estep (.tail _ (.tail _ (.tail _ (.tail _ (.head _)))))
  have hC19 := hC con_etick (.tail _ (.tail _ (.tail _ (.tail _ (.tail _ (.head _))))))
  have hC20 := hC con_esync (.tail _ (.tail _ (.tail _ (.tail _ (.tail _ (.tail _ (.head _)))))))
  have hC21 := hC con_ebegin (.tail _ (.tail _ (.tail _ (.tail _ (.tail _ (.tail _ (.tail _ (.head _))))))))
  have hC22 := hC con_eclose (.tail _ (.tail _ (.tail _ (.tail _ (.tail _ (.tail _ (.tail _ (.tail _ (.head _)))))))))
  have hC23 := hC con_open0 (.tail _ (.tail _ (.tail _ (.tail _ (.tail _ (.tail _ (.tail _ (.tail _ (.tail _ (.head _))))))))))
  have hC25 := hC con_format (.tail _ (.tail _ (.tail _ (.tail _ (.tail _ (.tail _ (.tail _ (.tail _ (.tail _ (.tail _ (.head _)))))))))))
  have hC26 := hC con_estate (.tail _ (.tail _ (.tail _ (.tail _ (.tail _ (.tail _ (.tail _ (.tail _ (.tail _ (.tail _ (.tail _ (.head _))))))))))))
  have hC27 := hC con_etext (.tail _ (.tail _ (.tail _ (.tail _ (.tail _ (.tail _ (.tail _ (.tail _ (.tail _ (.tail _ (.tail _ (.tail _ (.head _)))))))))))))
  have hC8 := hC con_isn3 (.tail _ (.tail _ (.tail _ (.tail _ (.tail _ (.tail _ (.tail _ (.tail _ (.tail _ (.tail _ (.tail _ (.tail _ (.tail _ (.head _))))))))))))))
  obtain ⟨rc2, hS2, hC2, _⟩ := rc_con2 (sound_run Tryz3.cfgOk 300) [con_open1 b0 b1 b2 b3 pl wk fu co sz st_ n] (by kernel_rfl)
  have hC2 := hC2 _ (.head _)
  refine sc_body Tryz3.cfgOk glaw_fn rfl ?_
  refine sk_st ((((St.empty 0).new (.arr (errCell 532) 0 true)).new (.arr (errCell 532) 0 true)).new (.arr (errCell 532) 0 true)) rfl ?_
  refine sk_seq ?_
  refine kK Tryz3.cfgOk hS ?_
  refine sk_seq (sk_seq ?_)
  refine sk_regionL Tryz3.cfgOk hS ?_
  refine aC 14 [] (.bool true) _ rfl (hC14 _ _ _ _ (con_galive_at   _ (by kernel_rfl) (by kernel_rfl) (by kernel_rfl) (by kernel_rfl) )) ?_
  refine aN ?_
  refine kF ?_
  refine sk_skip (sk_seq (sk_seq ?_))
  refine sk_regionL Tryz3.cfgOk hS ?_
  refine aK 2 ?_
  refine aM (lenB Tryz3.cfg (St.empty 0) 22 (inlL ccells 6 co)) (.int .i64 ((co.length : Nat) : Int)) (len_inl tokC3 (by kernel_rfl)) ?_
  refine aT (fun h1 => ?_) (fun h1 => ?_)
  · have c2e : (decide ((((co.length : Nat) : Int) : Int) > 40)) = true := Eq.trans (by kernel_rfl) h1
    clear h1
    have c2 : (((co.length : Nat) : Int) : Int) > 40 := of_decide_eq_true c2e
    clear c2e
    refine al_nil ?_
    refine kT ?_
    refine sk_seq ?_
    refine kK Tryz3.cfgOk hS ?_
    refine sk_ret ?_
    exact ⟨[.bool true], by kernel_rfl, rfl⟩
  · have c2e : (decide ((((co.length : Nat) : Int) : Int) > 40)) = false := Eq.trans (by kernel_rfl) h1
    clear h1
    have c2 : ¬ (((co.length : Nat) : Int) : Int) > 40 := of_decide_eq_false c2e
    clear c2e
    refine al_nil ?_
    refine kF ?_
    refine sk_skip (sk_seq ?_)
    refine kK Tryz3.cfgOk hS ?_
    refine sk_seq ?_
    refine sk_regionL Tryz3.cfgOk hS ?_
    refine aK 2 ?_
    refine aC 15 [.pointer none, .agg #[.int .i64 fu, inlL ccells 6 co]] (.tuple #[.agg #[.int .i64 0, .int .i64 0], .iface 36 (.int .i64 11)]) _ rfl (hC15 _ _ _ _ (con_esubmit_at fu co  _)) ?_
    refine aN ?_
    refine sk_seq ?_
    refine sk_regionL Tryz3.cfgOk hS ?_
    refine aK 2 ?_
    refine aC 16 [.pointer none, .agg #[.int .i64 0, .int .i64 0]] (.tuple #[.int .i64 0, .bool false, .iface 36 (.int .i64 11)]) _ rfl (hC16 _ _ _ _ (con_eread_at   _)) ?_
    refine aN ?_
    refine sk_seq ?_
    refine sk_regionL Tryz3.cfgOk hS ?_
    refine aK 3 ?_
    refine aC 17 [.pointer none, .agg #[.int .i64 0, .int .i64 0, .int .i64 0], .int .i64 n] (.tuple #[.slice none 0 0, .iface 36 (.int .i64 11)]) _ rfl (hC17 _ _ _ _ (con_escan_at n  _)) ?_
    refine aN ?_
    refine sk_seq ?_
    refine sk_regionL Tryz3.cfgOk hS ?_
    refine aK 2 ?_
    refine aC 18 [.pointer none, .int .i64 n] (.tuple #[.bool false, .iface 36 (.int .i64 11)]) _ rfl (hC18 _ _ _ _ (con_estep_at n  _)) ?_
    refine aN ?_
    refine sk_seq (sk_seq ?_)
    refine sk_regionL Tryz3.cfgOk hS ?_
    refine aK 6 ?_
    refine aC 19 [.pointer none, .int .i64 n] (.iface 36 (.int .i64 11)) _ rfl (hC19 _ _ _ _ (con_etick_at n  _)) ?_
    refine aK 1 ?_
    refine aC 20 [.pointer none] (.iface 36 (.int .i64 11)) _ rfl (hC20 _ _ _ _ (con_esync_at   _)) ?_
    refine aK 1 ?_
    refine aC 21 [.pointer none] (.iface 36 (.int .i64 11)) _ rfl (hC21 _ _ _ _ (con_ebegin_at   _)) ?_
    refine aK 1 ?_
    refine aC 22 [.pointer none] (.iface 36 (.int .i64 11)) _ rfl (hC22 _ _ _ _ (con_eclose_at   _)) ?_
    refine aN ?_
    refine sk_block ?_
    refine sk_loop ?_
    refine sk_seq ?_
    refine kK Tryz3.cfgOk hS ?_
    refine sk_seq ?_
    refine kT ?_
    refine sk_skip (sk_seq (sk_block (sk_seq ?_)))
    refine kK Tryz3.cfgOk hS ?_
    refine sk_seq ?_
    refine sk_regionL Tryz3.cfgOk hS ?_
    refine aK 1 ?_
    refine aC 8 [.iface 36 (.int .i64 11), .int .i64 11] (.bool true) _ rfl (hC8 _ _ _ _ (con_isn3_at 11 (by first | omega | assumption | decide) _)) ?_
    refine aN ?_
    refine kF ?_
    refine sk_skip ?_
    refine kK Tryz3.cfgOk hS ?_
    refine sk_loop ?_
    refine sk_seq ?_
    refine kK Tryz3.cfgOk hS ?_
    refine sk_seq ?_
    refine kT ?_
    refine sk_skip (sk_seq (sk_block (sk_seq ?_)))
    refine kK Tryz3.cfgOk hS ?_
    refine sk_seq ?_
    refine sk_regionL Tryz3.cfgOk hS ?_
    refine aK 1 ?_
    refine aC 8 [.iface 36 (.int .i64 11), .int .i64 11] (.bool true) _ rfl (hC8 _ _ _ _ (con_isn3_at 11 (by first | omega | assumption | decide) _)) ?_
    refine aN ?_
    refine kF ?_
    refine sk_skip ?_
    refine kK Tryz3.cfgOk hS ?_
    refine sk_loop ?_
    refine sk_seq ?_
    refine kK Tryz3.cfgOk hS ?_
    refine sk_seq ?_
    refine kT ?_
    refine sk_skip (sk_seq (sk_block (sk_seq ?_)))
    refine kK Tryz3.cfgOk hS ?_
    refine sk_seq ?_
    refine sk_regionL Tryz3.cfgOk hS ?_
    refine aK 1 ?_
    refine aC 8 [.iface 36 (.int .i64 11), .int .i64 11] (.bool true) _ rfl (hC8 _ _ _ _ (con_isn3_at 11 (by first | omega | assumption | decide) _)) ?_
    refine aN ?_
    refine kF ?_
    refine sk_skip ?_
    refine kK Tryz3.cfgOk hS ?_
    refine sk_loop ?_
    refine sk_seq ?_
    refine kK Tryz3.cfgOk hS ?_
    refine sk_seq ?_
    refine kT ?_
    refine sk_skip (sk_seq (sk_block (sk_seq ?_)))
    refine kK Tryz3.cfgOk hS ?_
    refine sk_seq ?_
    refine sk_regionL Tryz3.cfgOk hS ?_
    refine aK 1 ?_
    refine aC 8 [.iface 36 (.int .i64 11), .int .i64 11] (.bool true) _ rfl (hC8 _ _ _ _ (con_isn3_at 11 (by first | omega | assumption | decide) _)) ?_
    refine aN ?_
    refine kF ?_
    refine sk_skip ?_
    refine kK Tryz3.cfgOk hS ?_
    refine sk_loop ?_
    refine sk_seq ?_
    refine kK Tryz3.cfgOk hS ?_
    refine sk_seq ?_
    refine kT ?_
    refine sk_skip (sk_seq (sk_block (sk_seq ?_)))
    refine kK Tryz3.cfgOk hS ?_
    refine sk_seq ?_
    refine sk_regionL Tryz3.cfgOk hS ?_
    refine aK 1 ?_
    refine aC 8 [.iface 36 (.int .i64 11), .int .i64 11] (.bool true) _ rfl (hC8 _ _ _ _ (con_isn3_at 11 (by first | omega | assumption | decide) _)) ?_
    refine aN ?_
    refine kF ?_
    refine sk_skip ?_
    refine kK Tryz3.cfgOk hS ?_
    refine sk_loop ?_
    refine sk_seq ?_
    refine kK Tryz3.cfgOk hS ?_
    refine sk_seq ?_
    refine kT ?_
    refine sk_skip (sk_seq (sk_block (sk_seq ?_)))
    refine kK Tryz3.cfgOk hS ?_
    refine sk_seq ?_
    refine sk_regionL Tryz3.cfgOk hS ?_
    refine aK 1 ?_
    refine aC 8 [.iface 36 (.int .i64 11), .int .i64 11] (.bool true) _ rfl (hC8 _ _ _ _ (con_isn3_at 11 (by first | omega | assumption | decide) _)) ?_
    refine aN ?_
    refine kF ?_
    refine sk_skip ?_
    refine kK Tryz3.cfgOk hS ?_
    refine sk_loop ?_
    refine sk_seq ?_
    refine kK Tryz3.cfgOk hS ?_
    refine sk_seq ?_
    refine kT ?_
    refine sk_skip (sk_seq (sk_block (sk_seq ?_)))
    refine kK Tryz3.cfgOk hS ?_
    refine sk_seq ?_
    refine sk_regionL Tryz3.cfgOk hS ?_
    refine aK 1 ?_
    refine aC 8 [.iface 36 (.int .i64 11), .int .i64 11] (.bool true) _ rfl (hC8 _ _ _ _ (con_isn3_at 11 (by first | omega | assumption | decide) _)) ?_
    refine aN ?_
    refine kF ?_
    refine sk_skip ?_
    refine kK Tryz3.cfgOk hS ?_
    refine sk_loop ?_
    refine sk_seq ?_
    refine kK Tryz3.cfgOk hS ?_
    refine sk_seq ?_
    refine kT ?_
    refine sk_skip (sk_seq (sk_block (sk_seq ?_)))
    refine kK Tryz3.cfgOk hS ?_
    refine sk_seq ?_
    refine sk_regionL Tryz3.cfgOk hS ?_
    refine aK 1 ?_
    refine aC 8 [.iface 36 (.int .i64 11), .int .i64 11] (.bool true) _ rfl (hC8 _ _ _ _ (con_isn3_at 11 (by first | omega | assumption | decide) _)) ?_
    refine aN ?_
    refine kF ?_
    refine sk_skip ?_
    refine kK Tryz3.cfgOk hS ?_
    refine sk_loop ?_
    refine sk_seq ?_
    refine kK Tryz3.cfgOk hS ?_
    refine sk_seq ?_
    refine kF ?_
    refine sk_exit ?_
    dsimp only
    try rw [if_pos rfl]
    refine sk_seq ?_
    refine sk_regionL Tryz3.cfgOk hS ?_
    refine aK 5 ?_
    refine aC 23 [.pointer none, .agg #[.int .i64 b0, .int .i64 b1, .int .i64 b2, .int .i64 b3, .int .i64 pl, .int .i64 wk], .slice none 0 0] (.tuple #[.pointer none, .iface 36 (.int .i64 1)]) _ rfl (hC23 _ _ _ _ (con_open0_at b0 b1 b2 b3 pl wk  _ (by kernel_rfl) (by kernel_rfl) (by kernel_rfl) (by kernel_rfl) )) ?_
    refine aN ?_
    refine sk_seq ?_
    refine sk_regionL Tryz3.cfgOk hS ?_
    refine aK 1 ?_
    refine al_callH 24 [.slice (some ⟨7, 0, some 2⟩) 2 1] (.tuple #[.pointer (some ⟨8, 0, none⟩), .nilIface]) (((((((((((((((((St.empty 0).new (.arr (errCell 532) 0 true)).new (.arr (errCell 532) 0 true)).new (.arr (errCell 532) 0 true)).new (.cells [.int .i64 fu, inlL ccells 6 co])).new (.cells [inlL icells 1 sz, .int .i64 st_, .int .i64 wk, .int .i64 b0, .int .i64 b1, .int .i64 b2, .int .i64 b3, .int .i64 pl])).new (.cells [.int .i64 0, .int .i64 0])).new (.arr [.iface 36 (.int .i64 11), .iface 36 (.int .i64 11), .iface 36 (.int .i64 11), .iface 36 (.int .i64 11), .iface 36 (.int .i64 11), .iface 36 (.int .i64 11), .iface 36 (.int .i64 11), .iface 36 (.int .i64 11)] 0 false)).new (.arr [.int .i64 3, .int .i64 3] 0 false)).new (.cells [.int .i64 0, .int .i64 0, .bool false, .bool false, .slice (some ⟨12, 0, some 2⟩) 2 1])).new (.map [] 0)).new (.cells [.int .i64 3, .map (some 9), .slice none 0 0])).new (.arr [.pointer (some ⟨10, 0, none⟩)] 0 false)).new (.arr [.pointer (some ⟨10, 0, none⟩), .pointer (some ⟨14, 0, none⟩)] 0 false)).new (.map [] 0)).new (.cells [.int .i64 3, .map (some 13), .slice none 0 0])).new (.arr [.pointer (some ⟨14, 0, none⟩)] 0 false)) rfl (fun b h => by cases h) (by kernel_rfl) (by kernel_rfl) (Eq.trans (hR 24 _ _ (by kernel_rfl)) (by kernel_rfl)) ?_
    refine aN ?_
    refine sk_seq (sk_seq ?_)
    refine kK Tryz3.cfgOk hS ?_
    refine kF ?_
    refine sk_skip (sk_seq ?_)
    refine sk_st (openSt b0 b1 b2 b3 pl wk fu co sz st_ n) (by kernel_rfl) ?_
    refine sk_regionL Tryz3.cfgOk hS2 ?_
    refine aK 6 ?_
    by_cases q3 : (0 ≤ pl ∧ pl ≤ 2) ∧ 1 ≤ wk ∧ wk ≤ 64
    ·
      refine aC 23 [.pointer (some ⟨8, 0, none⟩), .agg #[.int .i64 b0, .int .i64 b1, .int .i64 b2, .int .i64 b3, .int .i64 pl, .int .i64 wk], .slice none 0 0] (.tuple #[.pointer none, .iface 36 (.int .i64 9)]) _ rfl (rc_eq (hC2 _ _ _ _ (con_open1_at b0 b1 b2 b3 pl wk fu co sz st_ n _ (by kernel_rfl) (by kernel_rfl))) (openV_u q3)) ?_
      refine aN ?_
      refine sk_seq ?_
      refine kK Tryz3.cfgOk hS ?_
      refine sk_seq (sk_seq ?_)
      refine sk_regionL Tryz3.cfgOk hS ?_
      refine aK 3 ?_
      refine aT (fun h4 => ?_) (fun h4 => ?_)
      · have c5e : (decide ((pl : Int) < 0)) = true := Eq.trans (by kernel_rfl) h4
        clear h4
        have c5 : (pl : Int) < 0 := of_decide_eq_true c5e
        clear c5e
        omega
      · have c5e : (decide ((pl : Int) < 0)) = false := Eq.trans (by kernel_rfl) h4
        clear h4
        have c5 : ¬ (pl : Int) < 0 := of_decide_eq_false c5e
        clear c5e
        refine aK 4 ?_
        refine aT (fun h6 => ?_) (fun h6 => ?_)
        · have c7e : (decide ((pl : Int) > 2)) = true := Eq.trans (by kernel_rfl) h6
          clear h6
          have c7 : (pl : Int) > 2 := of_decide_eq_true c7e
          clear c7e
          omega
        · have c7e : (decide ((pl : Int) > 2)) = false := Eq.trans (by kernel_rfl) h6
          clear h6
          have c7 : ¬ (pl : Int) > 2 := of_decide_eq_false c7e
          clear c7e
          refine aK 4 ?_
          refine aT (fun h8 => ?_) (fun h8 => ?_)
          · have c9e : (decide ((wk : Int) < 1)) = true := Eq.trans (by kernel_rfl) h8
            clear h8
            have c9 : (wk : Int) < 1 := of_decide_eq_true c9e
            clear c9e
            omega
          · have c9e : (decide ((wk : Int) < 1)) = false := Eq.trans (by kernel_rfl) h8
            clear h8
            have c9 : ¬ (wk : Int) < 1 := of_decide_eq_false c9e
            clear c9e
            refine aK 4 ?_
            refine aT (fun h10 => ?_) (fun h10 => ?_)
            · have c11e : (decide ((wk : Int) > 64)) = true := Eq.trans (by kernel_rfl) h10
              clear h10
              have c11 : (wk : Int) > 64 := of_decide_eq_true c11e
              clear c11e
              omega
            · have c11e : (decide ((wk : Int) > 64)) = false := Eq.trans (by kernel_rfl) h10
              clear h10
              have c11 : ¬ (wk : Int) > 64 := of_decide_eq_false c11e
              clear c11e
              refine aN ?_
              refine kF ?_
              refine sk_skip (sk_seq ?_)
              refine sk_regionL Tryz3.cfgOk hS ?_
              refine aK 1 ?_
              refine aC 8 [.iface 36 (.int .i64 1), .int .i64 1] (.bool true) _ rfl (hC8 _ _ _ _ (con_isn3_at 1 (by first | omega | assumption | decide) _)) ?_
              refine aK 2 ?_
              refine aC 25 [.pointer none, .int .i64 n] (.iface 36 (.int .i64 1)) _ rfl (hC25 _ _ _ _ (con_format_at n  _ (by kernel_rfl) (by kernel_rfl) (by kernel_rfl) (by kernel_rfl) )) ?_
              refine aC 8 [.iface 36 (.int .i64 1), .int .i64 1] (.bool true) _ rfl (hC8 _ _ _ _ (con_isn3_at 1 (by first | omega | assumption | decide) _)) ?_
              refine aK 4 ?_
              refine aC 8 [.iface 36 (.int .i64 9), .int .i64 9] (.bool true) _ rfl (hC8 _ _ _ _ (con_isn3_at 9 (by first | omega | assumption | decide) _)) ?_
              refine aK 3 ?_
              refine aC 26 [.pointer none] (.agg #[.int .i64 0, .int .i64 0, .int .i64 0, .int .i64 0, .bool false, .bool false, .slice none 0 0]) _ rfl (hC26 _ _ _ _ (con_estate_at   _)) ?_
              refine aK 5 ?_
              refine aC 27 [.pointer none] (.slice none 0 0) _ rfl (hC27 _ _ _ _ (con_etext_at   _)) ?_
              refine aN ?_
              refine sk_ret ?_
              exact ⟨[.bool true], by kernel_rfl, rfl⟩
    ·
      refine aC 23 [.pointer (some ⟨8, 0, none⟩), .agg #[.int .i64 b0, .int .i64 b1, .int .i64 b2, .int .i64 b3, .int .i64 pl, .int .i64 wk], .slice none 0 0] (.tuple #[.pointer none, .iface 36 (.int .i64 1)]) _ rfl (rc_eq (hC2 _ _ _ _ (con_open1_at b0 b1 b2 b3 pl wk fu co sz st_ n _ (by kernel_rfl) (by kernel_rfl))) (openV_w q3)) ?_
      refine aN ?_
      refine sk_seq ?_
      refine kK Tryz3.cfgOk hS ?_
      refine sk_seq (sk_seq ?_)
      refine sk_regionL Tryz3.cfgOk hS ?_
      refine aK 3 ?_
      refine aT (fun h12 => ?_) (fun h12 => ?_)
      · have c13e : (decide ((pl : Int) < 0)) = true := Eq.trans (by kernel_rfl) h12
        clear h12
        have c13 : (pl : Int) < 0 := of_decide_eq_true c13e
        clear c13e
        refine aN ?_
        refine kT ?_
        refine kK Tryz3.cfgOk hS ?_
        refine sk_seq ?_
        refine sk_regionL Tryz3.cfgOk hS ?_
        refine aK 1 ?_
        refine aC 8 [.iface 36 (.int .i64 1), .int .i64 1] (.bool true) _ rfl (hC8 _ _ _ _ (con_isn3_at 1 (by first | omega | assumption | decide) _)) ?_
        refine aK 2 ?_
        refine aC 25 [.pointer none, .int .i64 n] (.iface 36 (.int .i64 1)) _ rfl (hC25 _ _ _ _ (con_format_at n  _ (by kernel_rfl) (by kernel_rfl) (by kernel_rfl) (by kernel_rfl) )) ?_
        refine aC 8 [.iface 36 (.int .i64 1), .int .i64 1] (.bool true) _ rfl (hC8 _ _ _ _ (con_isn3_at 1 (by first | omega | assumption | decide) _)) ?_
        refine aK 4 ?_
        refine aC 8 [.iface 36 (.int .i64 1), .int .i64 1] (.bool true) _ rfl (hC8 _ _ _ _ (con_isn3_at 1 (by first | omega | assumption | decide) _)) ?_
        refine aK 3 ?_
        refine aC 26 [.pointer none] (.agg #[.int .i64 0, .int .i64 0, .int .i64 0, .int .i64 0, .bool false, .bool false, .slice none 0 0]) _ rfl (hC26 _ _ _ _ (con_estate_at   _)) ?_
        refine aK 5 ?_
        refine aC 27 [.pointer none] (.slice none 0 0) _ rfl (hC27 _ _ _ _ (con_etext_at   _)) ?_
        refine aN ?_
        refine sk_ret ?_
        exact ⟨[.bool true], by kernel_rfl, rfl⟩
      · have c13e : (decide ((pl : Int) < 0)) = false := Eq.trans (by kernel_rfl) h12
        clear h12
        have c13 : ¬ (pl : Int) < 0 := of_decide_eq_false c13e
        clear c13e
        refine aK 4 ?_
        refine aT (fun h14 => ?_) (fun h14 => ?_)
        · have c15e : (decide ((pl : Int) > 2)) = true := Eq.trans (by kernel_rfl) h14
          clear h14
          have c15 : (pl : Int) > 2 := of_decide_eq_true c15e
          clear c15e
          refine aN ?_
          refine kT ?_
          refine kK Tryz3.cfgOk hS ?_
          refine sk_seq ?_
          refine sk_regionL Tryz3.cfgOk hS ?_
          refine aK 1 ?_
          refine aC 8 [.iface 36 (.int .i64 1), .int .i64 1] (.bool true) _ rfl (hC8 _ _ _ _ (con_isn3_at 1 (by first | omega | assumption | decide) _)) ?_
          refine aK 2 ?_
          refine aC 25 [.pointer none, .int .i64 n] (.iface 36 (.int .i64 1)) _ rfl (hC25 _ _ _ _ (con_format_at n  _ (by kernel_rfl) (by kernel_rfl) (by kernel_rfl) (by kernel_rfl) )) ?_
          refine aC 8 [.iface 36 (.int .i64 1), .int .i64 1] (.bool true) _ rfl (hC8 _ _ _ _ (con_isn3_at 1 (by first | omega | assumption | decide) _)) ?_
          refine aK 4 ?_
          refine aC 8 [.iface 36 (.int .i64 1), .int .i64 1] (.bool true) _ rfl (hC8 _ _ _ _ (con_isn3_at 1 (by first | omega | assumption | decide) _)) ?_
          refine aK 3 ?_
          refine aC 26 [.pointer none] (.agg #[.int .i64 0, .int .i64 0, .int .i64 0, .int .i64 0, .bool false, .bool false, .slice none 0 0]) _ rfl (hC26 _ _ _ _ (con_estate_at   _)) ?_
          refine aK 5 ?_
          refine aC 27 [.pointer none] (.slice none 0 0) _ rfl (hC27 _ _ _ _ (con_etext_at   _)) ?_
          refine aN ?_
          refine sk_ret ?_
          exact ⟨[.bool true], by kernel_rfl, rfl⟩
        · have c15e : (decide ((pl : Int) > 2)) = false := Eq.trans (by kernel_rfl) h14
          clear h14
          have c15 : ¬ (pl : Int) > 2 := of_decide_eq_false c15e
          clear c15e
          refine aK 4 ?_
          refine aT (fun h16 => ?_) (fun h16 => ?_)
          · have c17e : (decide ((wk : Int) < 1)) = true := Eq.trans (by kernel_rfl) h16
            clear h16
            have c17 : (wk : Int) < 1 := of_decide_eq_true c17e
            clear c17e
            refine aN ?_
            refine kT ?_
            refine kK Tryz3.cfgOk hS ?_
            refine sk_seq ?_
            refine sk_regionL Tryz3.cfgOk hS ?_
            refine aK 1 ?_
            refine aC 8 [.iface 36 (.int .i64 1), .int .i64 1] (.bool true) _ rfl (hC8 _ _ _ _ (con_isn3_at 1 (by first | omega | assumption | decide) _)) ?_
            refine aK 2 ?_
            refine aC 25 [.pointer none, .int .i64 n] (.iface 36 (.int .i64 1)) _ rfl (hC25 _ _ _ _ (con_format_at n  _ (by kernel_rfl) (by kernel_rfl) (by kernel_rfl) (by kernel_rfl) )) ?_
            refine aC 8 [.iface 36 (.int .i64 1), .int .i64 1] (.bool true) _ rfl (hC8 _ _ _ _ (con_isn3_at 1 (by first | omega | assumption | decide) _)) ?_
            refine aK 4 ?_
            refine aC 8 [.iface 36 (.int .i64 1), .int .i64 1] (.bool true) _ rfl (hC8 _ _ _ _ (con_isn3_at 1 (by first | omega | assumption | decide) _)) ?_
            refine aK 3 ?_
            refine aC 26 [.pointer none] (.agg #[.int .i64 0, .int .i64 0, .int .i64 0, .int .i64 0, .bool false, .bool false, .slice none 0 0]) _ rfl (hC26 _ _ _ _ (con_estate_at   _)) ?_
            refine aK 5 ?_
            refine aC 27 [.pointer none] (.slice none 0 0) _ rfl (hC27 _ _ _ _ (con_etext_at   _)) ?_
            refine aN ?_
            refine sk_ret ?_
            exact ⟨[.bool true], by kernel_rfl, rfl⟩
          · have c17e : (decide ((wk : Int) < 1)) = false := Eq.trans (by kernel_rfl) h16
            clear h16
            have c17 : ¬ (wk : Int) < 1 := of_decide_eq_false c17e
            clear c17e
            refine aK 4 ?_
            refine aT (fun h18 => ?_) (fun h18 => ?_)
            · have c19e : (decide ((wk : Int) > 64)) = true := Eq.trans (by kernel_rfl) h18
              clear h18
              have c19 : (wk : Int) > 64 := of_decide_eq_true c19e
              clear c19e
              refine aN ?_
              refine kT ?_
              refine kK Tryz3.cfgOk hS ?_
              refine sk_seq ?_
              refine sk_regionL Tryz3.cfgOk hS ?_
              refine aK 1 ?_
              refine aC 8 [.iface 36 (.int .i64 1), .int .i64 1] (.bool true) _ rfl (hC8 _ _ _ _ (con_isn3_at 1 (by first | omega | assumption | decide) _)) ?_
              refine aK 2 ?_
              refine aC 25 [.pointer none, .int .i64 n] (.iface 36 (.int .i64 1)) _ rfl (hC25 _ _ _ _ (con_format_at n  _ (by kernel_rfl) (by kernel_rfl) (by kernel_rfl) (by kernel_rfl) )) ?_
              refine aC 8 [.iface 36 (.int .i64 1), .int .i64 1] (.bool true) _ rfl (hC8 _ _ _ _ (con_isn3_at 1 (by first | omega | assumption | decide) _)) ?_
              refine aK 4 ?_
              refine aC 8 [.iface 36 (.int .i64 1), .int .i64 1] (.bool true) _ rfl (hC8 _ _ _ _ (con_isn3_at 1 (by first | omega | assumption | decide) _)) ?_
              refine aK 3 ?_
              refine aC 26 [.pointer none] (.agg #[.int .i64 0, .int .i64 0, .int .i64 0, .int .i64 0, .bool false, .bool false, .slice none 0 0]) _ rfl (hC26 _ _ _ _ (con_estate_at   _)) ?_
              refine aK 5 ?_
              refine aC 27 [.pointer none] (.slice none 0 0) _ rfl (hC27 _ _ _ _ (con_etext_at   _)) ?_
              refine aN ?_
              refine sk_ret ?_
              exact ⟨[.bool true], by kernel_rfl, rfl⟩
            · have c19e : (decide ((wk : Int) > 64)) = false := Eq.trans (by kernel_rfl) h18
              clear h18
              have c19 : ¬ (wk : Int) > 64 := of_decide_eq_false c19e
              clear c19e
              omega
end Go.Proofs.YtdgadbbjnhnkeaaGreatDoor