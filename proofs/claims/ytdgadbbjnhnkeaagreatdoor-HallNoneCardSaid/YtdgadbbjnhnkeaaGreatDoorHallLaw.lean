/- HallNone: whatever number and program. -/
import Derived.Test.YtdgadbbjnhnkeaaGreatDoorHallNil
import Derived.Test.YtdgadbbjnhnkeaaGreatDoorAliveH
set_option linter.unusedVariables false
set_option linter.unusedSimpArgs false
set_option linter.unnecessarySimpa false
namespace Go.Proofs.YtdgadbbjnhnkeaaGreatDoor
open Go.Ai
theorem con_halive_at (s : St) (h0 : s.get 0 = some (.arr (errCell 532) 0 true)) (h1 : s.get 1 = some (.arr (errCell 532) 0 true)) (h2 : s.get 2 = some (.arr (errCell 532) 0 true)) (hn : Nat.ble 3 s.n = true) : con_halive.rel [] s (.bool true) s :=
  ⟨rfl, rfl, rfl, Nat.le_of_ble_eq_true hn, fun i hi => by
    rw [glob3_at _ i hi]
    rcases (by omega : i = 0 ∨ i = 1 ∨ i = 2) with rfl | rfl | rfl
    · exact h0
    · exact h1
    · exact h2⟩
theorem hlaw_fn : Tryz3.cfg.fn 3 = some Tryz.f3 := by kernel_rfl
set_option maxHeartbeats 4000000 in
set_option maxRecDepth 100000 in
theorem hlaw_sc (n : Int) (fu : Int) (co : List Code)  : SC Tryz.prog 3 3 [.int .i64 n, .agg #[.int .i64 fu, inlL ccells 6 co]] (glob3 532) fun v _ => v = .bool true := by
  obtain ⟨rc, hS, hC⟩ := rc_con (sound_run Tryz3.cfgOk 300) [con_halive, con_hcrash, con_hrun, con_hengine, con_hconfig, con_harm, con_hopen, con_hdevs, con_isn] (by kernel_rfl)
  have hC5 := hC con_halive (.head _)
  have hC6 := hC con_hcrash (.tail _ (.head _))
  have hC7 := hC con_hrun (.tail _ (.tail _ (.head _)))
  have hC9 := hC con_hengine (.tail _ (.tail _ (.tail _ (.head _))))
  have hC10 := hC con_hconfig (.tail _ (.tail _ (.tail _ (.tail _ (.head _)))))
  have hC11 := hC con_harm (.tail _ (.tail _ (.tail _ (.tail _ (.tail _ (.head _))))))
  have hC12 := hC con_hopen (.tail _ (.tail _ (.tail _ (.tail _ (.tail _ (.tail _ (.head _)))))))
  have hC13 := hC con_hdevs (.tail _ (.tail _ (.tail _ (.tail _ (.tail _ (.tail _ (.tail _ (.head _))))))))
  have hC8 := hC con_isn (.tail _ (.tail _ (.tail _ (.tail _ (.tail _ (.tail _ (.tail _ (.tail _ (.head _)))))))))
  refine sc_body Tryz3.cfgOk hlaw_fn rfl ?_
  refine sk_st ((((St.empty 0).new (.arr (errCell 532) 0 true)).new (.arr (errCell 532) 0 true)).new (.arr (errCell 532) 0 true)) rfl ?_
  refine sk_seq ?_
  refine kK Tryz3.cfgOk hS ?_
  refine sk_seq (sk_seq ?_)
  refine sk_regionL Tryz3.cfgOk hS ?_
  refine aC 5 [] (.bool true) _ rfl (hC5 _ _ _ _ (con_halive_at   _ (by kernel_rfl) (by kernel_rfl) (by kernel_rfl) (by kernel_rfl) )) ?_
  refine aN ?_
  refine kF ?_
  refine sk_skip (sk_seq (sk_seq ?_))
  refine sk_regionL Tryz3.cfgOk hS ?_
  refine aK 2 ?_
  refine aM (lenB Tryz3.cfg (St.empty 0) 22 (inlL ccells 6 co)) (.int .i64 ((co.length : Nat) : Int)) (len_inl tokC3 (by kernel_rfl)) ?_
  refine aT (fun h1 => ?_) (fun h1 => ?_)
  · have c2e : (decide ((((co.length : Nat) : Int) : Int) > 40)) = true := Eq.trans (by kernel_rfl) h1
    clear h1
    have c2 : (((co.length : Nat) : Int) : Int) > 40 := of_decide_eq_true c2e
    clear c2e
    refine al_nil ?_
    refine kT ?_
    refine sk_seq ?_
    refine kK Tryz3.cfgOk hS ?_
    refine sk_ret ?_
    exact ⟨[.bool true], by kernel_rfl, rfl⟩
  · have c2e : (decide ((((co.length : Nat) : Int) : Int) > 40)) = false := Eq.trans (by kernel_rfl) h1
    clear h1
    have c2 : ¬ (((co.length : Nat) : Int) : Int) > 40 := of_decide_eq_false c2e
    clear c2e
    refine al_nil ?_
    refine kF ?_
    refine sk_skip (sk_seq ?_)
    refine kK Tryz3.cfgOk hS ?_
    refine sk_seq ?_
    refine sk_regionL Tryz3.cfgOk hS ?_
    refine aK 3 ?_
    refine aC 6 [.pointer none, .slice (some ⟨4, 0, some 3⟩) 1 3] (.tuple #[]) _ rfl (hC6 _ _ _ _ (con_hcrash_at  4  _ (by kernel_rfl) (by kernel_rfl) )) ?_
    refine al_nil ?_
    refine sk_seq ?_
    refine sk_regionL Tryz3.cfgOk hS ?_
    refine aK 3 ?_
    refine aC 7 [.pointer none, .slice (some ⟨5, 0, some 2⟩) 1 2] (.tuple #[.slice none 0 0, .iface 36 (.int .i64 11)]) _ rfl (hC7 _ _ _ _ (con_hrun_at fu co 5  _ (by kernel_rfl) (by kernel_rfl) )) ?_
    refine aN ?_
    refine sk_seq ?_
    refine sk_regionL Tryz3.cfgOk hS ?_
    refine aK 1 ?_
    refine aC 8 [.iface 36 (.int .i64 11), .int .i64 11] (.bool true) _ rfl (hC8 _ _ _ _ (con_isn_at 11 (by first | omega | assumption | rfl) _)) ?_
    refine aK 2 ?_
    refine aC 9 [.pointer none] (.pointer none) _ rfl (hC9 _ _ _ _ (con_hengine_at   _)) ?_
    refine aK 6 ?_
    refine aC 10 [.pointer none, .agg #[.int .i64 0, .int .i64 0, .int .i64 0, .int .i64 0, .int .i64 0, .int .i64 n]] (.iface 36 (.int .i64 11)) _ rfl (hC10 _ _ _ _ (con_hconfig_at n  _)) ?_
    refine aC 8 [.iface 36 (.int .i64 11), .int .i64 11] (.bool true) _ rfl (hC8 _ _ _ _ (con_isn_at 11 (by first | omega | assumption | rfl) _)) ?_
    refine aK 4 ?_
    refine aC 11 [.pointer none, .int .i64 n] (.iface 36 (.int .i64 11)) _ rfl (hC11 _ _ _ _ (con_harm_at n  _)) ?_
    refine aC 8 [.iface 36 (.int .i64 11), .int .i64 11] (.bool true) _ rfl (hC8 _ _ _ _ (con_isn_at 11 (by first | omega | assumption | rfl) _)) ?_
    refine aK 3 ?_
    refine aC 12 [.pointer none, .slice none 0 0] (.iface 36 (.int .i64 11)) _ rfl (hC12 _ _ _ _ (con_hopen_at   _)) ?_
    refine aC 8 [.iface 36 (.int .i64 11), .int .i64 11] (.bool true) _ rfl (hC8 _ _ _ _ (con_isn_at 11 (by first | omega | assumption | rfl) _)) ?_
    refine aK 3 ?_
    refine aC 13 [.pointer none] (.pointer none) _ rfl (hC13 _ _ _ _ (con_hdevs_at   _)) ?_
    refine aN ?_
    refine sk_ret ?_
    exact ⟨[.bool true], by kernel_rfl, rfl⟩
end Go.Proofs.YtdgadbbjnhnkeaaGreatDoor