/- What 'math/bits.Len64' comes to. -/
import Derived.Test.YtfcfphkcoongdaaBase
namespace Go.Proofs.Ytfcfphkcoongdaa
open Go.Ai
theorem wrap8 {x : Int} (h0 : 0 ≤ x) (h : x < 256) : IntKind.u8.wrap x = x := by
  simp [IntKind.wrap, IntKind.min, IntKind.max, IntKind.signed, IntKind.bits]
  omega
theorem wrap64s {x : Int} (h0 : -9223372036854775808 ≤ x) (h : x < 9223372036854775808) : IntKind.i64.wrap x = x := by
  simp [IntKind.wrap, IntKind.min, IntKind.max, IntKind.signed, IntKind.bits]
  omega
theorem f46_fn : Try.cfg.fn 46 = some Try.f46 := by kernel_rfl
/-- the table of the bits of a byte, out of the function's own text -/
noncomputable def lenTab : ByteArray := tabIn (Try.f46.body.getD .skip)
where
  tabIn : Code → ByteArray
  | .seq a b => bif (tabIn a).size == 0 then tabIn b else tabIn a
  | .region _ ops _ => tabOps ops.toList
  | _ => ByteArray.empty
  tabOps : List Oper → ByteArray
  | [] => ByteArray.empty
  | o :: r => match o.op with
    | .index _ (.const (.string b)) _ => b
    | _ => tabOps r
def tabOk (b : ByteArray) : Bool := (List.range 256).all fun i => match b[i]? with
  | some c => Nat.ble c.toNat 8 && (Nat.ble 64 i || Nat.ble c.toNat 6) && (Nat.ble 128 i || Nat.ble c.toNat 7) && (Nat.blt i 128 || Nat.ble 8 c.toNat)
  | none => false
set_option maxRecDepth 100000 in
theorem tab_ok : tabOk lenTab = true := by kernel_rfl
theorem tab_at (i : Nat) (h : i < 256) : ∃ c : UInt8, lenTab[i]? = some c ∧ c.toNat ≤ 8 ∧ (i < 64 → c.toNat ≤ 6) ∧ (i < 128 → c.toNat ≤ 7) ∧ (128 ≤ i → 8 ≤ c.toNat) := by
  have := List.all_eq_true.1 tab_ok i (List.mem_range.2 h)
  split at this
  · rename_i c hc
    simp only [Bool.and_eq_true, Bool.or_eq_true, Nat.ble_eq, Nat.blt_eq] at this
    refine ⟨c, hc, by omega, fun h => by omega, fun h => by omega, fun h => by omega⟩
  · cases this
set_option maxHeartbeats 4000000 in
set_option maxRecDepth 100000 in
theorem len64_ev (x : Int) (s : St) (x0 : 0 ≤ x) (x1 : x < 18446744073709551616) : EvF Try.cfg 46 [.int .u64 x] s fun v s' => ∃ L : Int, v = .int .i64 L ∧ s' = s ∧ 0 ≤ L ∧ L ≤ 64 ∧ (x < 128 → L ≤ 7) ∧ (128 ≤ x → 8 ≤ L) ∧ (x < 16384 → L ≤ 14) ∧ (x < 1099511627776 → L ≤ 40) := by
  refine ev_call f46_fn rfl ?_
  repeat' (with_reducible first | refine ev_seq ?_ | refine ev_block ?_ | refine ev_loop ?_ | refine ev_skip ?_ | refine ev_scope ?_)
  refine ev_regionK 300 (by kernel_rfl) ?_
  repeat' (with_reducible first | refine ev_seq ?_ | refine ev_block ?_ | refine ev_loop ?_ | refine ev_skip ?_ | refine ev_scope ?_)
  refine ev_region ?_
  refine evl_chunk 300 1 (by kernel_rfl) ?_
  refine evl_test (by kernel_rfl) (by kernel_rfl) (by kernel_rfl) (fun h1 => ?_) (fun h1 => ?_)
  · refine evl_nil ?_
    repeat' (with_reducible first | refine ev_seq ?_ | refine ev_block ?_ | refine ev_loop ?_ | refine ev_skip ?_ | refine ev_scope ?_)
    refine ev_true (by kernel_rfl) ?_
    repeat' (with_reducible first | refine ev_seq ?_ | refine ev_block ?_ | refine ev_loop ?_ | refine ev_skip ?_ | refine ev_scope ?_)
    refine ev_regionK 300 (by kernel_rfl) ?_
    repeat' (with_reducible first | refine ev_seq ?_ | refine ev_block ?_ | refine ev_loop ?_ | refine ev_skip ?_ | refine ev_scope ?_)
    refine ev_regionK 300 (by kernel_rfl) ?_
    have c1 : decide (x ≥ 4294967296) = true := Eq.trans (by kernel_rfl) h1
    have c1 := of_decide_eq_true c1
    clear h1
    have e1 : (Int.fdiv x 4294967296) = x / 4294967296 := Int.fdiv_eq_ediv_of_nonneg _ (by omega)
    repeat' (with_reducible first | refine ev_seq ?_ | refine ev_block ?_ | refine ev_loop ?_ | refine ev_skip ?_ | refine ev_scope ?_)
    refine ev_region ?_
    refine evl_chunk 300 1 (by kernel_rfl) ?_
    refine evl_test (by kernel_rfl) (by kernel_rfl) (by kernel_rfl) (fun h2 => ?_) (fun h2 => ?_)
    · refine evl_nil ?_
      repeat' (with_reducible first | refine ev_seq ?_ | refine ev_block ?_ | refine ev_loop ?_ | refine ev_skip ?_ | refine ev_scope ?_)
      refine ev_true (by kernel_rfl) ?_
      repeat' (with_reducible first | refine ev_seq ?_ | refine ev_block ?_ | refine ev_loop ?_ | refine ev_skip ?_ | refine ev_scope ?_)
      refine ev_regionK 300 (by kernel_rfl) ?_
      repeat' (with_reducible first | refine ev_seq ?_ | refine ev_block ?_ | refine ev_loop ?_ | refine ev_skip ?_ | refine ev_scope ?_)
      refine ev_regionK 300 (by kernel_rfl) ?_
      have c2 : decide ((Int.fdiv x 4294967296) ≥ 65536) = true := Eq.trans (by kernel_rfl) h2
      have c2 := of_decide_eq_true c2
      clear h2
      have e2 : (Int.fdiv (Int.fdiv x 4294967296) 65536) = (Int.fdiv x 4294967296) / 65536 := Int.fdiv_eq_ediv_of_nonneg _ (by omega)
      repeat' (with_reducible first | refine ev_seq ?_ | refine ev_block ?_ | refine ev_loop ?_ | refine ev_skip ?_ | refine ev_scope ?_)
      refine ev_region ?_
      refine evl_chunk 300 1 (by kernel_rfl) ?_
      refine evl_test (by kernel_rfl) (by kernel_rfl) (by kernel_rfl) (fun h3 => ?_) (fun h3 => ?_)
      · refine evl_nil ?_
        repeat' (with_reducible first | refine ev_seq ?_ | refine ev_block ?_ | refine ev_loop ?_ | refine ev_skip ?_ | refine ev_scope ?_)
        refine ev_true (by kernel_rfl) ?_
        repeat' (with_reducible first | refine ev_seq ?_ | refine ev_block ?_ | refine ev_loop ?_ | refine ev_skip ?_ | refine ev_scope ?_)
        refine ev_regionK 300 (by kernel_rfl) ?_
        repeat' (with_reducible first | refine ev_seq ?_ | refine ev_block ?_ | refine ev_loop ?_ | refine ev_skip ?_ | refine ev_scope ?_)
        refine ev_regionK 300 (by kernel_rfl) ?_
        have c3 : decide ((Int.fdiv (Int.fdiv x 4294967296) 65536) ≥ 256) = true := Eq.trans (by kernel_rfl) h3
        have c3 := of_decide_eq_true c3
        clear h3
        have e3 : (Int.fdiv (Int.fdiv (Int.fdiv x 4294967296) 65536) 256) = (Int.fdiv (Int.fdiv x 4294967296) 65536) / 256 := Int.fdiv_eq_ediv_of_nonneg _ (by omega)
        repeat' (with_reducible first | refine ev_seq ?_ | refine ev_block ?_ | refine ev_loop ?_ | refine ev_skip ?_ | refine ev_scope ?_)
        refine ev_region ?_
        refine evl_chunk 300 3 (by kernel_rfl) ?_
        have w8 : IntKind.u8.wrap ((Int.fdiv (Int.fdiv (Int.fdiv x 4294967296) 65536) 256)) = (Int.fdiv (Int.fdiv (Int.fdiv x 4294967296) 65536) 256) := wrap8 (by omega) (by omega)
        obtain ⟨c, hc, p1, p2, p3, p4⟩ := tab_at ((Int.fdiv (Int.fdiv (Int.fdiv x 4294967296) 65536) 256)).toNat (by omega)
        refine evl_byte (k := .u8) (i := (Int.fdiv (Int.fdiv (Int.fdiv x 4294967296) 65536) 256)) (c := c) (by kernel_rfl) rfl rfl (Eq.trans (b := .int .u8 (IntKind.u8.wrap ((Int.fdiv (Int.fdiv (Int.fdiv x 4294967296) 65536) 256)))) (by kernel_rfl) (by rw [w8])) (by kernel_rfl) (by omega) hc ?_
        refine evl_all 300 (by kernel_rfl) ?_
        repeat' (with_reducible first | refine ev_seq ?_ | refine ev_block ?_ | refine ev_loop ?_ | refine ev_skip ?_ | refine ev_scope ?_)
        refine ev_ret ?_
        refine ⟨[.int .i64 (IntKind.i64.wrap (56 + IntKind.i64.wrap (c.toNat : Int)))], by kernel_rfl, 56 + c.toNat, ?_, by kernel_rfl, by omega, by omega, by omega, by omega, by omega, by omega⟩
        have hw : (c.toNat : Int) < 256 := by have := c.toNat_lt; omega
        show Value.int .i64 (IntKind.i64.wrap (56 + IntKind.i64.wrap (c.toNat : Int))) = _
        rw [wrap64s (x := (c.toNat : Int)) (by omega) (by omega), wrap64s (by omega) (by omega)]
      · refine evl_nil ?_
        repeat' (with_reducible first | refine ev_seq ?_ | refine ev_block ?_ | refine ev_loop ?_ | refine ev_skip ?_ | refine ev_scope ?_)
        refine ev_false (by kernel_rfl) ?_
        have c3 : decide ((Int.fdiv (Int.fdiv x 4294967296) 65536) ≥ 256) = false := Eq.trans (by kernel_rfl) h3
        have c3 := of_decide_eq_false c3
        clear h3
        repeat' (with_reducible first | refine ev_seq ?_ | refine ev_block ?_ | refine ev_loop ?_ | refine ev_skip ?_ | refine ev_scope ?_)
        refine ev_region ?_
        refine evl_chunk 300 3 (by kernel_rfl) ?_
        have w8 : IntKind.u8.wrap ((Int.fdiv (Int.fdiv x 4294967296) 65536)) = (Int.fdiv (Int.fdiv x 4294967296) 65536) := wrap8 (by omega) (by omega)
        obtain ⟨c, hc, p1, p2, p3, p4⟩ := tab_at ((Int.fdiv (Int.fdiv x 4294967296) 65536)).toNat (by omega)
        refine evl_byte (k := .u8) (i := (Int.fdiv (Int.fdiv x 4294967296) 65536)) (c := c) (by kernel_rfl) rfl rfl (Eq.trans (b := .int .u8 (IntKind.u8.wrap ((Int.fdiv (Int.fdiv x 4294967296) 65536)))) (by kernel_rfl) (by rw [w8])) (by kernel_rfl) (by omega) hc ?_
        refine evl_all 300 (by kernel_rfl) ?_
        repeat' (with_reducible first | refine ev_seq ?_ | refine ev_block ?_ | refine ev_loop ?_ | refine ev_skip ?_ | refine ev_scope ?_)
        refine ev_ret ?_
        refine ⟨[.int .i64 (IntKind.i64.wrap (48 + IntKind.i64.wrap (c.toNat : Int)))], by kernel_rfl, 48 + c.toNat, ?_, by kernel_rfl, by omega, by omega, by omega, by omega, by omega, by omega⟩
        have hw : (c.toNat : Int) < 256 := by have := c.toNat_lt; omega
        show Value.int .i64 (IntKind.i64.wrap (48 + IntKind.i64.wrap (c.toNat : Int))) = _
        rw [wrap64s (x := (c.toNat : Int)) (by omega) (by omega), wrap64s (by omega) (by omega)]
    · refine evl_nil ?_
      repeat' (with_reducible first | refine ev_seq ?_ | refine ev_block ?_ | refine ev_loop ?_ | refine ev_skip ?_ | refine ev_scope ?_)
      refine ev_false (by kernel_rfl) ?_
      have c2 : decide ((Int.fdiv x 4294967296) ≥ 65536) = false := Eq.trans (by kernel_rfl) h2
      have c2 := of_decide_eq_false c2
      clear h2
      repeat' (with_reducible first | refine ev_seq ?_ | refine ev_block ?_ | refine ev_loop ?_ | refine ev_skip ?_ | refine ev_scope ?_)
      refine ev_region ?_
      refine evl_chunk 300 1 (by kernel_rfl) ?_
      refine evl_test (by kernel_rfl) (by kernel_rfl) (by kernel_rfl) (fun h3 => ?_) (fun h3 => ?_)
      · refine evl_nil ?_
        repeat' (with_reducible first | refine ev_seq ?_ | refine ev_block ?_ | refine ev_loop ?_ | refine ev_skip ?_ | refine ev_scope ?_)
        refine ev_true (by kernel_rfl) ?_
        repeat' (with_reducible first | refine ev_seq ?_ | refine ev_block ?_ | refine ev_loop ?_ | refine ev_skip ?_ | refine ev_scope ?_)
        refine ev_regionK 300 (by kernel_rfl) ?_
        repeat' (with_reducible first | refine ev_seq ?_ | refine ev_block ?_ | refine ev_loop ?_ | refine ev_skip ?_ | refine ev_scope ?_)
        refine ev_regionK 300 (by kernel_rfl) ?_
        have c3 : decide ((Int.fdiv x 4294967296) ≥ 256) = true := Eq.trans (by kernel_rfl) h3
        have c3 := of_decide_eq_true c3
        clear h3
        have e3 : (Int.fdiv (Int.fdiv x 4294967296) 256) = (Int.fdiv x 4294967296) / 256 := Int.fdiv_eq_ediv_of_nonneg _ (by omega)
        repeat' (with_reducible first | refine ev_seq ?_ | refine ev_block ?_ | refine ev_loop ?_ | refine ev_skip ?_ | refine ev_scope ?_)
        refine ev_region ?_
        refine evl_chunk 300 3 (by kernel_rfl) ?_
        have w8 : IntKind.u8.wrap ((Int.fdiv (Int.fdiv x 4294967296) 256)) = (Int.fdiv (Int.fdiv x 4294967296) 256) := wrap8 (by omega) (by omega)
        obtain ⟨c, hc, p1, p2, p3, p4⟩ := tab_at ((Int.fdiv (Int.fdiv x 4294967296) 256)).toNat (by omega)
        refine evl_byte (k := .u8) (i := (Int.fdiv (Int.fdiv x 4294967296) 256)) (c := c) (by kernel_rfl) rfl rfl (Eq.trans (b := .int .u8 (IntKind.u8.wrap ((Int.fdiv (Int.fdiv x 4294967296) 256)))) (by kernel_rfl) (by rw [w8])) (by kernel_rfl) (by omega) hc ?_
        refine evl_all 300 (by kernel_rfl) ?_
        repeat' (with_reducible first | refine ev_seq ?_ | refine ev_block ?_ | refine ev_loop ?_ | refine ev_skip ?_ | refine ev_scope ?_)
        refine ev_ret ?_
        refine ⟨[.int .i64 (IntKind.i64.wrap (40 + IntKind.i64.wrap (c.toNat : Int)))], by kernel_rfl, 40 + c.toNat, ?_, by kernel_rfl, by omega, by omega, by omega, by omega, by omega, by omega⟩
        have hw : (c.toNat : Int) < 256 := by have := c.toNat_lt; omega
        show Value.int .i64 (IntKind.i64.wrap (40 + IntKind.i64.wrap (c.toNat : Int))) = _
        rw [wrap64s (x := (c.toNat : Int)) (by omega) (by omega), wrap64s (by omega) (by omega)]
      · refine evl_nil ?_
        repeat' (with_reducible first | refine ev_seq ?_ | refine ev_block ?_ | refine ev_loop ?_ | refine ev_skip ?_ | refine ev_scope ?_)
        refine ev_false (by kernel_rfl) ?_
        have c3 : decide ((Int.fdiv x 4294967296) ≥ 256) = false := Eq.trans (by kernel_rfl) h3
        have c3 := of_decide_eq_false c3
        clear h3
        repeat' (with_reducible first | refine ev_seq ?_ | refine ev_block ?_ | refine ev_loop ?_ | refine ev_skip ?_ | refine ev_scope ?_)
        refine ev_region ?_
        refine evl_chunk 300 3 (by kernel_rfl) ?_
        have w8 : IntKind.u8.wrap ((Int.fdiv x 4294967296)) = (Int.fdiv x 4294967296) := wrap8 (by omega) (by omega)
        obtain ⟨c, hc, p1, p2, p3, p4⟩ := tab_at ((Int.fdiv x 4294967296)).toNat (by omega)
        refine evl_byte (k := .u8) (i := (Int.fdiv x 4294967296)) (c := c) (by kernel_rfl) rfl rfl (Eq.trans (b := .int .u8 (IntKind.u8.wrap ((Int.fdiv x 4294967296)))) (by kernel_rfl) (by rw [w8])) (by kernel_rfl) (by omega) hc ?_
        refine evl_all 300 (by kernel_rfl) ?_
        repeat' (with_reducible first | refine ev_seq ?_ | refine ev_block ?_ | refine ev_loop ?_ | refine ev_skip ?_ | refine ev_scope ?_)
        refine ev_ret ?_
        refine ⟨[.int .i64 (IntKind.i64.wrap (32 + IntKind.i64.wrap (c.toNat : Int)))], by kernel_rfl, 32 + c.toNat, ?_, by kernel_rfl, by omega, by omega, by omega, by omega, by omega, by omega⟩
        have hw : (c.toNat : Int) < 256 := by have := c.toNat_lt; omega
        show Value.int .i64 (IntKind.i64.wrap (32 + IntKind.i64.wrap (c.toNat : Int))) = _
        rw [wrap64s (x := (c.toNat : Int)) (by omega) (by omega), wrap64s (by omega) (by omega)]
  · refine evl_nil ?_
    repeat' (with_reducible first | refine ev_seq ?_ | refine ev_block ?_ | refine ev_loop ?_ | refine ev_skip ?_ | refine ev_scope ?_)
    refine ev_false (by kernel_rfl) ?_
    have c1 : decide (x ≥ 4294967296) = false := Eq.trans (by kernel_rfl) h1
    have c1 := of_decide_eq_false c1
    clear h1
    repeat' (with_reducible first | refine ev_seq ?_ | refine ev_block ?_ | refine ev_loop ?_ | refine ev_skip ?_ | refine ev_scope ?_)
    refine ev_region ?_
    refine evl_chunk 300 1 (by kernel_rfl) ?_
    refine evl_test (by kernel_rfl) (by kernel_rfl) (by kernel_rfl) (fun h2 => ?_) (fun h2 => ?_)
    · refine evl_nil ?_
      repeat' (with_reducible first | refine ev_seq ?_ | refine ev_block ?_ | refine ev_loop ?_ | refine ev_skip ?_ | refine ev_scope ?_)
      refine ev_true (by kernel_rfl) ?_
      repeat' (with_reducible first | refine ev_seq ?_ | refine ev_block ?_ | refine ev_loop ?_ | refine ev_skip ?_ | refine ev_scope ?_)
      refine ev_regionK 300 (by kernel_rfl) ?_
      repeat' (with_reducible first | refine ev_seq ?_ | refine ev_block ?_ | refine ev_loop ?_ | refine ev_skip ?_ | refine ev_scope ?_)
      refine ev_regionK 300 (by kernel_rfl) ?_
      have c2 : decide (x ≥ 65536) = true := Eq.trans (by kernel_rfl) h2
      have c2 := of_decide_eq_true c2
      clear h2
      have e2 : (Int.fdiv x 65536) = x / 65536 := Int.fdiv_eq_ediv_of_nonneg _ (by omega)
      repeat' (with_reducible first | refine ev_seq ?_ | refine ev_block ?_ | refine ev_loop ?_ | refine ev_skip ?_ | refine ev_scope ?_)
      refine ev_region ?_
      refine evl_chunk 300 1 (by kernel_rfl) ?_
      refine evl_test (by kernel_rfl) (by kernel_rfl) (by kernel_rfl) (fun h3 => ?_) (fun h3 => ?_)
      · refine evl_nil ?_
        repeat' (with_reducible first | refine ev_seq ?_ | refine ev_block ?_ | refine ev_loop ?_ | refine ev_skip ?_ | refine ev_scope ?_)
        refine ev_true (by kernel_rfl) ?_
        repeat' (with_reducible first | refine ev_seq ?_ | refine ev_block ?_ | refine ev_loop ?_ | refine ev_skip ?_ | refine ev_scope ?_)
        refine ev_regionK 300 (by kernel_rfl) ?_
        repeat' (with_reducible first | refine ev_seq ?_ | refine ev_block ?_ | refine ev_loop ?_ | refine ev_skip ?_ | refine ev_scope ?_)
        refine ev_regionK 300 (by kernel_rfl) ?_
        have c3 : decide ((Int.fdiv x 65536) ≥ 256) = true := Eq.trans (by kernel_rfl) h3
        have c3 := of_decide_eq_true c3
        clear h3
        have e3 : (Int.fdiv (Int.fdiv x 65536) 256) = (Int.fdiv x 65536) / 256 := Int.fdiv_eq_ediv_of_nonneg _ (by omega)
        repeat' (with_reducible first | refine ev_seq ?_ | refine ev_block ?_ | refine ev_loop ?_ | refine ev_skip ?_ | refine ev_scope ?_)
        refine ev_region ?_
        refine evl_chunk 300 3 (by kernel_rfl) ?_
        have w8 : IntKind.u8.wrap ((Int.fdiv (Int.fdiv x 65536) 256)) = (Int.fdiv (Int.fdiv x 65536) 256) := wrap8 (by omega) (by omega)
        obtain ⟨c, hc, p1, p2, p3, p4⟩ := tab_at ((Int.fdiv (Int.fdiv x 65536) 256)).toNat (by omega)
        refine evl_byte (k := .u8) (i := (Int.fdiv (Int.fdiv x 65536) 256)) (c := c) (by kernel_rfl) rfl rfl (Eq.trans (b := .int .u8 (IntKind.u8.wrap ((Int.fdiv (Int.fdiv x 65536) 256)))) (by kernel_rfl) (by rw [w8])) (by kernel_rfl) (by omega) hc ?_
        refine evl_all 300 (by kernel_rfl) ?_
        repeat' (with_reducible first | refine ev_seq ?_ | refine ev_block ?_ | refine ev_loop ?_ | refine ev_skip ?_ | refine ev_scope ?_)
        refine ev_ret ?_
        refine ⟨[.int .i64 (IntKind.i64.wrap (24 + IntKind.i64.wrap (c.toNat : Int)))], by kernel_rfl, 24 + c.toNat, ?_, by kernel_rfl, by omega, by omega, by omega, by omega, by omega, by omega⟩
        have hw : (c.toNat : Int) < 256 := by have := c.toNat_lt; omega
        show Value.int .i64 (IntKind.i64.wrap (24 + IntKind.i64.wrap (c.toNat : Int))) = _
        rw [wrap64s (x := (c.toNat : Int)) (by omega) (by omega), wrap64s (by omega) (by omega)]
      · refine evl_nil ?_
        repeat' (with_reducible first | refine ev_seq ?_ | refine ev_block ?_ | refine ev_loop ?_ | refine ev_skip ?_ | refine ev_scope ?_)
        refine ev_false (by kernel_rfl) ?_
        have c3 : decide ((Int.fdiv x 65536) ≥ 256) = false := Eq.trans (by kernel_rfl) h3
        have c3 := of_decide_eq_false c3
        clear h3
        repeat' (with_reducible first | refine ev_seq ?_ | refine ev_block ?_ | refine ev_loop ?_ | refine ev_skip ?_ | refine ev_scope ?_)
        refine ev_region ?_
        refine evl_chunk 300 3 (by kernel_rfl) ?_
        have w8 : IntKind.u8.wrap ((Int.fdiv x 65536)) = (Int.fdiv x 65536) := wrap8 (by omega) (by omega)
        obtain ⟨c, hc, p1, p2, p3, p4⟩ := tab_at ((Int.fdiv x 65536)).toNat (by omega)
        refine evl_byte (k := .u8) (i := (Int.fdiv x 65536)) (c := c) (by kernel_rfl) rfl rfl (Eq.trans (b := .int .u8 (IntKind.u8.wrap ((Int.fdiv x 65536)))) (by kernel_rfl) (by rw [w8])) (by kernel_rfl) (by omega) hc ?_
        refine evl_all 300 (by kernel_rfl) ?_
        repeat' (with_reducible first | refine ev_seq ?_ | refine ev_block ?_ | refine ev_loop ?_ | refine ev_skip ?_ | refine ev_scope ?_)
        refine ev_ret ?_
        refine ⟨[.int .i64 (IntKind.i64.wrap (16 + IntKind.i64.wrap (c.toNat : Int)))], by kernel_rfl, 16 + c.toNat, ?_, by kernel_rfl, by omega, by omega, by omega, by omega, by omega, by omega⟩
        have hw : (c.toNat : Int) < 256 := by have := c.toNat_lt; omega
        show Value.int .i64 (IntKind.i64.wrap (16 + IntKind.i64.wrap (c.toNat : Int))) = _
        rw [wrap64s (x := (c.toNat : Int)) (by omega) (by omega), wrap64s (by omega) (by omega)]
    · refine evl_nil ?_
      repeat' (with_reducible first | refine ev_seq ?_ | refine ev_block ?_ | refine ev_loop ?_ | refine ev_skip ?_ | refine ev_scope ?_)
      refine ev_false (by kernel_rfl) ?_
      have c2 : decide (x ≥ 65536) = false := Eq.trans (by kernel_rfl) h2
      have c2 := of_decide_eq_false c2
      clear h2
      repeat' (with_reducible first | refine ev_seq ?_ | refine ev_block ?_ | refine ev_loop ?_ | refine ev_skip ?_ | refine ev_scope ?_)
      refine ev_region ?_
      refine evl_chunk 300 1 (by kernel_rfl) ?_
      refine evl_test (by kernel_rfl) (by kernel_rfl) (by kernel_rfl) (fun h3 => ?_) (fun h3 => ?_)
      · refine evl_nil ?_
        repeat' (with_reducible first | refine ev_seq ?_ | refine ev_block ?_ | refine ev_loop ?_ | refine ev_skip ?_ | refine ev_scope ?_)
        refine ev_true (by kernel_rfl) ?_
        repeat' (with_reducible first | refine ev_seq ?_ | refine ev_block ?_ | refine ev_loop ?_ | refine ev_skip ?_ | refine ev_scope ?_)
        refine ev_regionK 300 (by kernel_rfl) ?_
        repeat' (with_reducible first | refine ev_seq ?_ | refine ev_block ?_ | refine ev_loop ?_ | refine ev_skip ?_ | refine ev_scope ?_)
        refine ev_regionK 300 (by kernel_rfl) ?_
        have c3 : decide (x ≥ 256) = true := Eq.trans (by kernel_rfl) h3
        have c3 := of_decide_eq_true c3
        clear h3
        have e3 : (Int.fdiv x 256) = x / 256 := Int.fdiv_eq_ediv_of_nonneg _ (by omega)
        repeat' (with_reducible first | refine ev_seq ?_ | refine ev_block ?_ | refine ev_loop ?_ | refine ev_skip ?_ | refine ev_scope ?_)
        refine ev_region ?_
        refine evl_chunk 300 3 (by kernel_rfl) ?_
        have w8 : IntKind.u8.wrap ((Int.fdiv x 256)) = (Int.fdiv x 256) := wrap8 (by omega) (by omega)
        obtain ⟨c, hc, p1, p2, p3, p4⟩ := tab_at ((Int.fdiv x 256)).toNat (by omega)
        refine evl_byte (k := .u8) (i := (Int.fdiv x 256)) (c := c) (by kernel_rfl) rfl rfl (Eq.trans (b := .int .u8 (IntKind.u8.wrap ((Int.fdiv x 256)))) (by kernel_rfl) (by rw [w8])) (by kernel_rfl) (by omega) hc ?_
        refine evl_all 300 (by kernel_rfl) ?_
        repeat' (with_reducible first | refine ev_seq ?_ | refine ev_block ?_ | refine ev_loop ?_ | refine ev_skip ?_ | refine ev_scope ?_)
        refine ev_ret ?_
        refine ⟨[.int .i64 (IntKind.i64.wrap (8 + IntKind.i64.wrap (c.toNat : Int)))], by kernel_rfl, 8 + c.toNat, ?_, by kernel_rfl, by omega, by omega, by omega, by omega, by omega, by omega⟩
        have hw : (c.toNat : Int) < 256 := by have := c.toNat_lt; omega
        show Value.int .i64 (IntKind.i64.wrap (8 + IntKind.i64.wrap (c.toNat : Int))) = _
        rw [wrap64s (x := (c.toNat : Int)) (by omega) (by omega), wrap64s (by omega) (by omega)]
      · refine evl_nil ?_
        repeat' (with_reducible first | refine ev_seq ?_ | refine ev_block ?_ | refine ev_loop ?_ | refine ev_skip ?_ | refine ev_scope ?_)
        refine ev_false (by kernel_rfl) ?_
        have c3 : decide (x ≥ 256) = false := Eq.trans (by kernel_rfl) h3
        have c3 := of_decide_eq_false c3
        clear h3
        repeat' (with_reducible first | refine ev_seq ?_ | refine ev_block ?_ | refine ev_loop ?_ | refine ev_skip ?_ | refine ev_scope ?_)
        refine ev_region ?_
        refine evl_chunk 300 3 (by kernel_rfl) ?_
        have w8 : IntKind.u8.wrap (x) = x := wrap8 (by omega) (by omega)
        obtain ⟨c, hc, p1, p2, p3, p4⟩ := tab_at (x).toNat (by omega)
        refine evl_byte (k := .u8) (i := x) (c := c) (by kernel_rfl) rfl rfl (Eq.trans (b := .int .u8 (IntKind.u8.wrap (x))) (by kernel_rfl) (by rw [w8])) (by kernel_rfl) (by omega) hc ?_
        refine evl_all 300 (by kernel_rfl) ?_
        repeat' (with_reducible first | refine ev_seq ?_ | refine ev_block ?_ | refine ev_loop ?_ | refine ev_skip ?_ | refine ev_scope ?_)
        refine ev_ret ?_
        refine ⟨[.int .i64 (IntKind.i64.wrap (0 + IntKind.i64.wrap (c.toNat : Int)))], by kernel_rfl, 0 + c.toNat, ?_, by kernel_rfl, by omega, by omega, by omega, by omega, by omega, by omega⟩
        have hw : (c.toNat : Int) < 256 := by have := c.toNat_lt; omega
        show Value.int .i64 (IntKind.i64.wrap (0 + IntKind.i64.wrap (c.toNat : Int))) = _
        rw [wrap64s (x := (c.toNat : Int)) (by omega) (by omega), wrap64s (by omega) (by omega)]
end Go.Proofs.Ytfcfphkcoongdaa
