/- What 'Parts' of the document's chapter 4 comes to. -/
import Derived.Test.YtfcfphkcoongdaaBytes
namespace Go.Proofs.Ytfcfphkcoongdaa
open Go.Ai
theorem f30_fn : Try.cfg.fn 30 = some Try.f30 := by kernel_rfl
def junkV : Value := .chan (some 0)
def P0 (cs : List Value) : St := (St.empty 0).new (.arr cs 0 false)
def P1 (cs : List Value) (k : Nat) : St := (P0 cs).new (.arr (List.replicate k junkV) 0 false)
def pEnv (d : Nat → Value) (b o : Value) : Env := mkEnv 22 fun j => bif Nat.beq j 0 then b else bif Nat.beq j 2 then .slice none 0 0 else bif Nat.beq j 3 then o else d j
noncomputable def partsBody : Code := (loopIn (Try.f30.body.getD .skip)).getD .skip
def bSl (off N L : Nat) : Value := .slice (some ⟨0, off, some N⟩) L 1
def oSl (i k : Nat) : Value := .slice (some ⟨i, 0, some k⟩) k 1
set_option maxHeartbeats 4000000 in
set_option maxRecDepth 100000 in
theorem body_ev (d : Nat → Value) (cs : List Value) (k L off N : Nat) (hk : k ≤ 200) : EvC Try.cfg 30 partsBody (pEnv d (bSl off N L) (oSl 1 k)) (P1 cs k) fun o e1 s1 =>
    (o = .exit 0 ∧ L ≤ 50 ∧ e1.n = 22 ∧ e1.get 0 = bSl off N L ∧ e1.get 2 = .slice none 0 0 ∧ e1.get 3 = oSl 1 k ∧ s1.n = 2 ∧ s1.get 0 = some (.arr cs 0 false) ∧ s1.get 1 = some (.arr (List.replicate k junkV) 0 false)) ∨
    (o = .normal ∧ 50 < L ∧ e1.n = 22 ∧ e1.get 0 = bSl (off + 50) N (L - 50) ∧ e1.get 2 = .slice none 0 0 ∧ e1.get 3 = oSl 1 (k + 1) ∧ s1.n = 3 ∧ s1.get 0 = some (.arr cs 0 false) ∧ ∃ x, refy x = true ∧ s1.get 1 = some (.arr (List.replicate k junkV ++ [x]) 0 false)) := by
  refine ev_seq ?_
  repeat' (with_reducible first | refine ev_seq ?_ | refine ev_block ?_ | refine ev_loop ?_ | refine ev_skip ?_ | refine ev_scope ?_)
  refine ev_region ?_
  refine evl_chunk 300 2 (by kernel_rfl) ?_
  refine evl_test (by kernel_rfl) (by kernel_rfl) (by kernel_rfl) (fun h1 => ?_) (fun h1 => ?_)
  · refine evl_nil ?_
    have c1 : decide ((L : Int) > 50) = true := Eq.trans (by kernel_rfl) h1
    have c1 := of_decide_eq_true c1
    have c1 : 50 < L := by omega
    clear h1
    repeat' (with_reducible first | refine ev_seq ?_ | refine ev_block ?_ | refine ev_loop ?_ | refine ev_skip ?_ | refine ev_scope ?_)
    refine ev_true (by kernel_rfl) ?_
    repeat' (with_reducible first | refine ev_seq ?_ | refine ev_block ?_ | refine ev_loop ?_ | refine ev_skip ?_ | refine ev_scope ?_)
    refine ev_region ?_
    refine evl_chunk 300 2 (by kernel_rfl) ?_
    refine evl_slice (t := 22) (x := bSl off N L) (lo := none) (hi := some (.int .i64 (50 : Nat))) (mx := none) (by kernel_rfl) (by kernel_rfl) (by kernel_rfl) (slice_hi (by kernel_rfl) (by omega)) ?_
    refine evl_chunk 300 1 (by kernel_rfl) ?_
    refine evl_more 40 1 24 1 k k 1 (.slice (some ⟨2, 0, some 1⟩) 1 1) (List.replicate k junkV) [.slice (some ⟨0, off, some N⟩) 50 1] (by kernel_rfl) (by kernel_rfl) (by kernel_rfl) (by kernel_rfl) (by kernel_rfl) (by simp) (by simp) (by kernel_rfl) (by kernel_rfl) (by kernel_rfl) (by omega) (fun h => by omega) ?_
    refine evl_all 300 (by kernel_rfl) ?_
    repeat' (with_reducible first | refine ev_seq ?_ | refine ev_block ?_ | refine ev_loop ?_ | refine ev_skip ?_ | refine ev_scope ?_)
    refine ev_region ?_
    refine evl_chunk 300 1 (by kernel_rfl) ?_
    refine evl_slice (t := 22) (x := bSl off N L) (lo := some (.int .i64 (50 : Nat))) (hi := none) (mx := none) (by kernel_rfl) (by kernel_rfl) (by kernel_rfl) (slice_lo (by kernel_rfl) (by omega)) ?_
    refine evl_all 300 (by kernel_rfl) ?_
    exact .inr ⟨rfl, c1, by kernel_rfl, by kernel_rfl, by kernel_rfl, by kernel_rfl, by kernel_rfl, by kernel_rfl, .slice (some ⟨0, off, some N⟩) 50 1, rfl, by kernel_rfl⟩
  · refine evl_nil ?_
    have c1 : decide ((L : Int) > 50) = false := Eq.trans (by kernel_rfl) h1
    have c1 := of_decide_eq_false c1
    have c1 : L ≤ 50 := by omega
    clear h1
    repeat' (with_reducible first | refine ev_seq ?_ | refine ev_block ?_ | refine ev_loop ?_ | refine ev_skip ?_ | refine ev_scope ?_)
    refine ev_false (by kernel_rfl) ?_
    refine ev_exit ?_
    exact .inl ⟨rfl, c1, by kernel_rfl, by kernel_rfl, by kernel_rfl, by kernel_rfl, by kernel_rfl, by kernel_rfl, by kernel_rfl⟩
end Go.Proofs.Ytfcfphkcoongdaa
