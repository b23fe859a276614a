/- ShipNone: whatever parcel and key. -/
import Derived.Test.YtfilpiajpmaaiaaGreatDoorNil
import Derived.Test.YtfilpiajpmaaiaaGreatDoorParc
import Derived.Test.YtfilpiajpmaaiaaGreatDoorAlive
set_option linter.unusedVariables false
set_option linter.unusedSimpArgs false
set_option linter.unnecessarySimpa false
namespace Go.Proofs.YtfilpiajpmaaiaaGreatDoor
open Go.Ai
theorem con_alive_at (s : St) (h0 : s.get 0 = some (.arr (errCell 458) 0 true)) (h1 : s.get 1 = some (.arr (errCell 458) 0 true)) (h2 : s.get 2 = some (.arr (errCell 458) 0 true)) (hn : Nat.ble 3 s.n = true) : con_alive.rel [] s (.bool true) s :=
  ⟨rfl, rfl, rfl, Nat.le_of_ble_eq_true hn, fun i hi => by
    rw [glob3_at _ i hi]
    rcases (by omega : i = 0 ∨ i = 1 ∨ i = 2) with rfl | rfl | rfl
    · exact h0
    · exact h1
    · exact h2⟩
theorem law_fn : Tryz3.cfg.fn 3 = some Tryz.f3 := by kernel_rfl
set_option maxHeartbeats 4000000 in
set_option maxRecDepth 100000 in
theorem law_sc (bs : Int) (tx : List UInt8) (l : List Rec8) (ka kb : Int) (h0 : tx.length ≤ 9223372036854775807) (h1 : l.length ≤ 9223372036854775807) : SC Tryz.prog 3 3 [.agg #[.int .i64 bs, inlL bcells 1 tx, inlL rcells 8 l], .agg #[.int .i64 ka, .int .i64 kb]] (glob3 458) fun v _ => v = .bool true := by
  obtain ⟨rc, hS, hC⟩ := rc_con (sound_run Tryz3.cfgOk 300) [con_alive, con_large26, con_program26, con_rget, con_shipof, con_rtake, con_rat, con_rtext, con_isn] (by kernel_rfl)
  have hC4 := hC con_alive (.head _)
  have hC5 := hC con_large26 (.tail _ (.head _))
  have hC10 := hC con_program26 (.tail _ (.tail _ (.head _)))
  have hC6 := hC con_rget (.tail _ (.tail _ (.tail _ (.head _))))
  have hC7 := hC con_shipof (.tail _ (.tail _ (.tail _ (.tail _ (.head _)))))
  have hC9 := hC con_rtake (.tail _ (.tail _ (.tail _ (.tail _ (.tail _ (.head _))))))
  have hC11 := hC con_rat (.tail _ (.tail _ (.tail _ (.tail _ (.tail _ (.tail _ (.head _)))))))
  have hC12 := hC con_rtext (.tail _ (.tail _ (.tail _ (.tail _ (.tail _ (.tail _ (.tail _ (.head _))))))))
  have hC8 := hC con_isn (.tail _ (.tail _ (.tail _ (.tail _ (.tail _ (.tail _ (.tail _ (.tail _ (.head _)))))))))
  refine sc_body Tryz3.cfgOk law_fn rfl ?_
  refine sk_st ((((St.empty 0).new (.arr (errCell 458) 0 true)).new (.arr (errCell 458) 0 true)).new (.arr (errCell 458) 0 true)) rfl ?_
  refine sk_seq ?_
  refine kK Tryz3.cfgOk hS ?_
  refine sk_seq (sk_seq ?_)
  refine sk_regionL Tryz3.cfgOk hS ?_
  refine aC 4 [] (.bool true) _ rfl (hC4 _ _ _ _ (con_alive_at   _ (by kernel_rfl) (by kernel_rfl) (by kernel_rfl) (by kernel_rfl) )) ?_
  refine aN ?_
  refine kF ?_
  refine sk_skip (sk_seq (sk_seq ?_))
  refine sk_regionL Tryz3.cfgOk hS ?_
  refine aK 2 ?_
  refine aB 5 [.slice (some ⟨5, 0, some 3⟩) 1 3] (tf (largeP tx l)) _ rfl (hC5 _ _ _ _ (con_large26_at bs tx l 5 (by first | omega | assumption | decide) (by first | omega | assumption | decide) _ (by kernel_rfl) (by kernel_rfl) )) (fun h1 => ?_) (fun h1 => ?_)
  · have c2 : largeP tx l := tf_t h1
    clear h1
    refine al_nil ?_
    refine kT ?_
    refine sk_seq ?_
    refine kK Tryz3.cfgOk hS ?_
    refine sk_ret ?_
    exact ⟨[.bool true], by kernel_rfl, rfl⟩
  · have c2 : ¬ (largeP tx l) := tf_f h1
    clear h1
    obtain ⟨s1, s6, s7⟩ := small_at c2
    refine al_nil ?_
    refine kF ?_
    refine sk_skip (sk_seq ?_)
    refine kK Tryz3.cfgOk hS ?_
    refine sk_seq ?_
    refine sk_regionL Tryz3.cfgOk hS ?_
    refine aK 2 ?_
    refine aC 6 [.pointer none, .agg #[.int .i64 ka, .int .i64 kb]] (.tuple #[.int .i64 0, .bool false]) _ rfl (hC6 _ _ _ _ (con_rget_at ka kb  _)) ?_
    refine aN ?_
    refine sk_seq ?_
    refine sk_regionL Tryz3.cfgOk hS ?_
    refine aC 7 [.pointer none] (.tuple #[.agg #[.int .i64 0, .slice none 0 0, .slice none 0 0], .iface 43 (.int .i64 1)]) _ rfl (hC7 _ _ _ _ (con_shipof_at   _)) ?_
    refine aN ?_
    refine sk_seq ?_
    refine sk_regionL Tryz3.cfgOk hS ?_
    refine aK 2 ?_
    refine aC 10 [.agg #[.int .i64 bs, inlL bcells 1 tx, inlL rcells 8 l]] (.agg #[.int .i64 bs, inlL bcells 1 tx, inlL rcells 8 l]) _ rfl (hC10 _ _ _ _ (con_program26_at bs tx l (by first | omega | assumption | decide) (by first | omega | assumption | decide) (by first | omega | assumption | decide) _)) ?_
    refine aC 9 [.pointer none, .agg #[.int .i64 bs, inlL bcells 1 tx, inlL rcells 8 l], .slice none 0 0] (.iface 43 (.int .i64 11)) _ rfl (hC9 _ _ _ _ (con_rtake_at bs tx l  _)) ?_
    refine aC 8 [.iface 43 (.int .i64 11), .int .i64 11] (.bool true) _ rfl (hC8 _ _ _ _ (con_isn_at 11 (by first | omega | assumption | decide) _)) ?_
    refine aK 2 ?_
    refine aC 11 [.pointer none] (.int .i64 0) _ rfl (hC11 _ _ _ _ (con_rat_at   _)) ?_
    refine aK 8 ?_
    refine aC 12 [.pointer none] (.slice none 0 0) _ rfl (hC12 _ _ _ _ (con_rtext_at   _)) ?_
    refine aK 5 ?_
    refine aC 8 [.iface 43 (.int .i64 1), .int .i64 1] (.bool true) _ rfl (hC8 _ _ _ _ (con_isn_at 1 (by first | omega | assumption | decide) _)) ?_
    refine aN ?_
    refine sk_ret ?_
    exact ⟨[.bool true], by kernel_rfl, rfl⟩
end Go.Proofs.YtfilpiajpmaaiaaGreatDoor