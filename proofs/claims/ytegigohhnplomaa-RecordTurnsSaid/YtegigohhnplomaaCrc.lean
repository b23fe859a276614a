/- Check sums. -/
import Derived.Test.YtegigohhnplomaaBase
import Derived.Test.YtegigohhnplomaaKit
set_option linter.unusedVariables false
set_option linter.unusedSimpArgs false
set_option linter.unnecessarySimpa false
set_option maxHeartbeats 4000000
set_option maxRecDepth 100000
namespace Go.Proofs.Ytegigohhnplomaa
open Go.Ai
def hv (o : Nat) : Nat := [0, 498536548, 997073096, 651767980, 1994146192, 1802195444, 1303535960, 1342533948, 3988292384, 4027552580, 3604390888, 3412177804, 2607071920, 2262029012, 2685067896, 3183342108].getD o 0
def hcells : List Value := [.int .u32 0, .int .u32 498536548, .int .u32 997073096, .int .u32 651767980, .int .u32 1994146192, .int .u32 1802195444, .int .u32 1303535960, .int .u32 1342533948, .int .u32 3988292384, .int .u32 4027552580, .int .u32 3604390888, .int .u32 3412177804, .int .u32 2607071920, .int .u32 2262029012, .int .u32 2685067896, .int .u32 3183342108]
theorem hv_lt (o : Nat) : hv o < 4294967296 := by
 by_cases h : o < 16
 ·rcases (show o = 0 ∨ o = 1 ∨ o = 2 ∨ o = 3 ∨ o = 4 ∨ o = 5 ∨ o = 6 ∨ o = 7 ∨ o = 8 ∨ o = 9 ∨ o = 10 ∨ o = 11 ∨ o = 12 ∨ o = 13 ∨ o = 14 ∨ o = 15 by omega) with rfl | rfl | rfl | rfl | rfl | rfl | rfl | rfl | rfl | rfl | rfl | rfl | rfl | rfl | rfl | rfl <;> decide
 ·unfold hv;rw [List.getD_eq_getElem?_getD, List.getElem?_eq_none Z0v];decide
theorem hc_at {o : Nat} (h : o < 16) : hcells[o]? = some (.int .u32 ((hv o : Nat) : Int)) := by
 rcases (show o = 0 ∨ o = 1 ∨ o = 2 ∨ o = 3 ∨ o = 4 ∨ o = 5 ∨ o = 6 ∨ o = 7 ∨ o = 8 ∨ o = 9 ∨ o = 10 ∨ o = 11 ∨ o = 12 ∨ o = 13 ∨ o = 14 ∨ o = 15 by omega) with rfl | rfl | rfl | rfl | rfl | rfl | rfl | rfl | rfl | rfl | rfl | rfl | rfl | rfl | rfl | rfl <;> rfl
def nib (x : Nat) : Nat := (x / 16) ^^^ hv (x % 16)
def stepB (x : Nat) (c : UInt8) : Nat := nib (nib (x ^^^ c.toNat))
def feedN (x : Nat) (l : List UInt8) : Nat := l.foldl stepB x
theorem feed_succ {l : List UInt8} {x i : Nat} {c : UInt8} (h : l[i]? = some c) : feedN x (l.take (i + 1)) = stepB (feedN x (l.take i)) c := by
 rw [List.take_add_one, h];simp [feedN]
theorem byte_lt32 (c : UInt8) : c.toNat < 4294967296 := Nat.lt_trans c.toNat_lt Ze
theorem div_lt32 {x : Nat} (h : x < 4294967296) : x / 16 < 4294967296 := Nat.lt_of_le_of_lt (Nat.div_le_self _ _) h
theorem nib_lt {x : Nat} (h : x < 4294967296) : nib x < 4294967296 := xor_lt32 (div_lt32 h) (hv_lt _)
theorem step_lt {x : Nat} {c : UInt8} (h : x < 4294967296) : stepB x c < 4294967296 := nib_lt (nib_lt (xor_lt32 h (byte_lt32 c)))
theorem feed_lt : ∀ (l : List UInt8) {x : Nat}, x < 4294967296 → feedN x l < 4294967296
 | [], _, h => h
 | c :: l, _, h => feed_lt l (step_lt (c := c) h)
def addN (x : Nat) (l : List UInt8) : Nat := 4294967295 ^^^ feedN (4294967295 ^^^ x) l
theorem ones_lt : (4294967295 : Nat) < 4294967296 := Ze
theorem add_lt {x : Nat} {l : List UInt8} (h : x < 4294967296) : addN x l < 4294967296 := xor_lt32 ones_lt (feed_lt l (xor_lt32 ones_lt h))
def sumN (l : List UInt8) : Nat := addN 0 l
def s4 (l : List UInt8) : List UInt8 := [UInt8.ofNat (sumN l), UInt8.ofNat (sumN l / 256), UInt8.ofNat (sumN l / 65536), UInt8.ofNat (sumN l / 16777216)]
theorem idx_arr {C : Cfg} {t : TypeId} {id j m : Nat} {k : IntKind} (ht : arrTy C t m = true) (hj : j < m) : indexAddrV C t (.pointer (some ⟨id, 0, none⟩)) (.int k ((j : Nat) : Int)) = some (.pointer (some ⟨id, j, none⟩)) := by
 unfold arrTy at ht;split at ht
 ·rename_i hty;split at ht
  ·rename_i et het;rw [Bool.and_eq_true] at ht;have e1 := Nat.eq_of_beq_eq_true ht.1;have e2 := Nat.eq_of_beq_eq_true ht.2;unfold indexAddrV;rw [hty];simp only [het];rw [if_pos ⟨Int.natCast_nonneg j, Z5⟩, e2];simp [Addr.plus]
  ·cases ht
 ·cases ht
theorem halves_run : valIs 6000 (.agg #[.int .u32 0, .int .u32 498536548, .int .u32 997073096, .int .u32 651767980, .int .u32 1994146192, .int .u32 1802195444, .int .u32 1303535960, .int .u32 1342533948, .int .u32 3988292384, .int .u32 4027552580, .int .u32 3604390888, .int .u32 3412177804, .int .u32 2607071920, .int .u32 2262029012, .int .u32 2685067896, .int .u32 3183342108]) (run Try.cfg 6000 (.call 80 []) (St.empty 0)) = true := Z1
theorem halves_sc : SC Try.prog 0 80 [] (St.empty 0) fun v s' => v = .agg #[.int .u32 0, .int .u32 498536548, .int .u32 997073096, .int .u32 651767980, .int .u32 1994146192, .int .u32 1802195444, .int .u32 1303535960, .int .u32 1342533948, .int .u32 3988292384, .int .u32 4027552580, .int .u32 3604390888, .int .u32 3412177804, .int .u32 2607071920, .int .u32 2262029012, .int .u32 2685067896, .int .u32 3183342108] ∧ s'.n ≤ 6000 := sc_val Try.cfgOk 6000 6000 halves_run
noncomputable def con_halves : Con Try.prog 0 := Con.pure (α := Unit) 80 (fun z9 => []) (fun z9 => .agg #[.int .u32 0, .int .u32 498536548, .int .u32 997073096, .int .u32 651767980, .int .u32 1994146192, .int .u32 1802195444, .int .u32 1303535960, .int .u32 1342533948, .int .u32 3988292384, .int .u32 4027552580, .int .u32 3604390888, .int .u32 3412177804, .int .u32 2607071920, .int .u32 2262029012, .int .u32 2685067896, .int .u32 3183342108]) (fun z9 => True) (by
 intro x y _; rfl) (fun _ => rfl) (fun _ => rfl) 6000 (by
 intro x hp; exact halves_sc)
theorem con_halves_at   (s : St) : con_halves.rel [] s (.agg #[.int .u32 0, .int .u32 498536548, .int .u32 997073096, .int .u32 651767980, .int .u32 1994146192, .int .u32 1802195444, .int .u32 1303535960, .int .u32 1342533948, .int .u32 3988292384, .int .u32 4027552580, .int .u32 3604390888, .int .u32 3412177804, .int .u32 2607071920, .int .u32 2262029012, .int .u32 2685067896, .int .u32 3183342108]) s := con_pure () trivial s
theorem feed_fn : Try.cfg.fn 78 = some Try.f78 := Z1
theorem feed_sc (x0 : Nat) (b : List UInt8) (h0 : x0 < 4294967296) (h1 : b.length ≤ 2 * 1000000000) : SC Try.prog 0 78 [.int .u32 ((x0 : Nat) : Int), slL 0 1 b.length] ((St.empty 0).new (rowL Z1s b)) fun v s' => v = .int .u32 ((feedN x0 b : Nat) : Int) ∧ s'.n ≤ 400 ∧ ∀ a, a < 1 → s'.get a = some (objL [rowL Z1s b] a) := by
 obtain ⟨rc, hS, hC⟩ := rc_con (Z24 Try.cfgOk 300) [con_halves] Z1;have hC80 := hC con_halves (.head _);refine Z2d Try.cfgOk feed_fn rfl ?_;refine Z1u ?_;refine kK Try.cfgOk hS ?_;refine Z1u ?_;refine Z1t Try.cfgOk hS ?_;refine aC 80 [] (.agg #[.int .u32 0, .int .u32 498536548, .int .u32 997073096, .int .u32 651767980, .int .u32 1994146192, .int .u32 1802195444, .int .u32 1303535960, .int .u32 1342533948, .int .u32 3988292384, .int .u32 4027552580, .int .u32 3604390888, .int .u32 3412177804, .int .u32 2607071920, .int .u32 2262029012, .int .u32 2685067896, .int .u32 3183342108]) _ rfl (hC80 _ _ _ _ (con_halves_at   _)) ?_;refine aN ?_;refine Z1u (Z1u ?_);refine kK Try.cfgOk hS ?_;refine Z2f ?_;refine sk_live 35 ((fun a : Nat × Nat => [(0, .int .u32 ((a.2 : Nat) : Int)), (5, .pointer (some ⟨1, 0, none⟩)), (9, slL 0 1 b.length), (10, .int .i64 ((b.length : Nat) : Int)), (11, .int .i64 ((a.1 : Nat) : Int))]) (0, x0)) Z1 ⟨Z1, Z1, Z1, Z1, Z1, trivial⟩ fun m1 => ?_
 refine sk_st ((fun a : Nat × Nat => (((St.empty 0).new (rowL Z1s b)).new (.cells [.int .u32 0, .int .u32 498536548, .int .u32 997073096, .int .u32 651767980, .int .u32 1994146192, .int .u32 1802195444, .int .u32 1303535960, .int .u32 1342533948, .int .u32 3988292384, .int .u32 4027552580, .int .u32 3604390888, .int .u32 3412177804, .int .u32 2607071920, .int .u32 2262029012, .int .u32 2685067896, .int .u32 3183342108]))) (0, x0)) Z1 ?_;refine (sk_while (k := 2) (N := 400) (live := (fun a : Nat × Nat => [(0, .int .u32 ((a.2 : Nat) : Int)), (5, .pointer (some ⟨1, 0, none⟩)), (9, slL 0 1 b.length), (10, .int .i64 ((b.length : Nat) : Int)), (11, .int .i64 ((a.1 : Nat) : Int))])) (M := (fun a : Nat × Nat => (((St.empty 0).new (rowL Z1s b)).new (.cells [.int .u32 0, .int .u32 498536548, .int .u32 997073096, .int .u32 651767980, .int .u32 1994146192, .int .u32 1802195444, .int .u32 1303535960, .int .u32 1342533948, .int .u32 3988292384, .int .u32 4027552580, .int .u32 3604390888, .int .u32 3412177804, .int .u32 2607071920, .int .u32 2262029012, .int .u32 2685067896, .int .u32 3183342108])))) (fun a : Nat × Nat => (a.1 ≤ b.length) ∧ (a.2 = feedN x0 (b.take a.1)) ∧ (a.2 < 4294967296)) (fun a : Nat × Nat => b.length - a.1) (fun (a : Nat × Nat) (o : Out) (lv : List (Nat × Value)) (M : St) => (o = .exit 0 ∧ (¬ a.1 < b.length) ∧ lv = [(0, .int .u32 ((a.2 : Nat) : Int)), (5, .pointer (some ⟨1, 0, none⟩)), (9, slL 0 1 b.length), (10, .int .i64 ((b.length : Nat) : Int)), (11, .int .i64 ((a.1 : Nat) : Int))] ∧ M = (((St.empty 0).new (rowL Z1s b)).new (.cells [.int .u32 0, .int .u32 498536548, .int .u32 997073096, .int .u32 651767980, .int .u32 1994146192, .int .u32 1802195444, .int .u32 1303535960, .int .u32 1342533948, .int .u32 3988292384, .int .u32 4027552580, .int .u32 3604390888, .int .u32 3412177804, .int .u32 2607071920, .int .u32 2262029012, .int .u32 2685067896, .int .u32 3183342108])))) (Nat.zero_le _) (fun a ha => ?_) (fun a ha => ?_) (fun a m ha => ?_) (fun a m ha => ?_) (0, x0) m1 ?_).up ?_
 ·exact ⟨Z1, (((Z1x 0).new _).new _), (selfs (all_cons (o := rowL Z1s b) Z1 (OSub.arr (subs_clo (Z20 Z22))) (all_cons (o := .cells [.int .u32 0, .int .u32 498536548, .int .u32 997073096, .int .u32 651767980, .int .u32 1994146192, .int .u32 1802195444, .int .u32 1303535960, .int .u32 1342533948, .int .u32 3988292384, .int .u32 4027552580, .int .u32 3604390888, .int .u32 3412177804, .int .u32 2607071920, .int .u32 2262029012, .int .u32 2685067896, .int .u32 3183342108]) Z1 (OSub.cells (.cons (sub_clo rfl) (.cons (sub_clo rfl) (.cons (sub_clo rfl) (.cons (sub_clo rfl) (.cons (sub_clo rfl) (.cons (sub_clo rfl) (.cons (sub_clo rfl) (.cons (sub_clo rfl) (.cons (sub_clo rfl) (.cons (sub_clo rfl) (.cons (sub_clo rfl) (.cons (sub_clo rfl) (.cons (sub_clo rfl) (.cons (sub_clo rfl) (.cons (sub_clo rfl) (.cons (sub_clo rfl) .nil))))))))))))))))) (Z25))))⟩
 ·exact ⟨sub_clo rfl, .ptr ⟨Ze, rfl⟩, .slice ⟨Ze, rfl⟩, sub_clo rfl, sub_clo rfl, trivial⟩
 ·exact ⟨Z1, Z1, Z1, Z1, Z1, trivial⟩
 ·obtain ⟨i, x⟩ := a;obtain ⟨i0, i1, i2⟩ := ha;dsimp only at i0 i1 i2;refine Z1u ?_;refine Z1t Try.cfgOk hS ?_;refine aT (fun h2 => ?_) (fun h2 => ?_)
  ·have c3e : (decide ((((i : Nat) : Int) : Int) < ((b.length : Nat) : Int))) = true := Eq.trans Z1 h2;clear h2;have c3 : (((i : Nat) : Int) : Int) < ((b.length : Nat) : Int) := of_decide_eq_true c3e;clear c3e;refine Z29 ?_;refine Z1u ?_;refine kT ?_;refine Z26 (Z1u (Z2f (Z1u ?_)));refine Z1t Try.cfgOk hS ?_;refine aM (indexAddrV Try.cfg 34 (slL 0 1 b.length) (.int .i64 ((i : Nat) : Int))) (.pointer (some ⟨0, i * 1, some (b.length * 1)⟩)) (idx_rowL Z1 Z5) ?_;have hx4l : i < b.length := by omega
   refine Exists.elim (get_ex hx4l) fun x4 hx4 => ?_
   clear hx4l;refine aM (loadV Try.cfg (((St.empty 0).new (rowL Z1s b)).new (.cells [.int .u32 0, .int .u32 498536548, .int .u32 997073096, .int .u32 651767980, .int .u32 1994146192, .int .u32 1802195444, .int .u32 1303535960, .int .u32 1342533948, .int .u32 3988292384, .int .u32 4027552580, .int .u32 3604390888, .int .u32 3412177804, .int .u32 2607071920, .int .u32 2262029012, .int .u32 2685067896, .int .u32 3183342108])) 5 (.pointer (some ⟨0, i * 1, some (b.length * 1)⟩))) (.int .u8 ((x4.toNat : Nat) : Int)) (load_rowL1 (o := 0) (l := b) Z1 Z2g Z1 hx4 rfl) ?_;refine aN ?_;refine Z1u ?_;refine Z1t Try.cfgOk hS ?_;refine aK 2 ?_;refine aE (v := .int .u32 (IntKind.wrap .u32 ((x4.toNat : Nat) : Int))) (.int .u32 ((x4.toNat : Nat) : Int)) (congrArg (Value.int .u32) (wrap_u32b _)) ?_;refine aE (v := .int .u32 (IntKind.wrap .u32 (((BitVec.ofInt (IntKind.bits .u32) ((x : Nat) : Int) ^^^ BitVec.ofInt (IntKind.bits .u32) ((x4.toNat : Nat) : Int)).toNat : Nat) : Int))) (.int .u32 (((x ^^^ x4.toNat) : Nat) : Int)) (congrArg (Value.int .u32) (xor32 Zh Zh)) ?_;refine aN ?_;refine Z1u ?_;refine Z1t Try.cfgOk hS ?_;refine aK 1 ?_;refine aE (v := .int .u32 (Int.fdiv (((x ^^^ x4.toNat) : Nat) : Int) (2 ^ (min (Int.toNat 4) (IntKind.bits .u32))))) (.int .u32 (((x ^^^ x4.toNat) / 16 : Nat) : Int)) (congrArg (Value.int .u32) (shr_nat (x ^^^ x4.toNat) 4 (y := 16) Ze rfl)) ?_;refine aK 1 ?_;refine aE (v := .int .u32 (IntKind.wrap .u32 (((BitVec.ofInt (IntKind.bits .u32) (((x ^^^ x4.toNat) : Nat) : Int) &&& BitVec.ofInt (IntKind.bits .u32) 15).toNat : Nat) : Int))) (.int .u32 (((x ^^^ x4.toNat) % 16 : Nat) : Int)) (congrArg (Value.int .u32) (and15 (x ^^^ x4.toNat) Zh)) ?_;refine aM (indexAddrV Try.cfg 137 (.pointer (some ⟨1, 0, none⟩)) (.int .u32 (((x ^^^ x4.toNat) % 16 : Nat) : Int))) (.pointer (some ⟨1, (x ^^^ x4.toNat) % 16, none⟩)) (idx_arr (m := 16) Z1 (by first | omega | exact Nat.mod_lt _ Ze)) ?_;refine aM (loadV Try.cfg (((St.empty 0).new (rowL Z1s b)).new (.cells [.int .u32 0, .int .u32 498536548, .int .u32 997073096, .int .u32 651767980, .int .u32 1994146192, .int .u32 1802195444, .int .u32 1303535960, .int .u32 1342533948, .int .u32 3988292384, .int .u32 4027552580, .int .u32 3604390888, .int .u32 3412177804, .int .u32 2607071920, .int .u32 2262029012, .int .u32 2685067896, .int .u32 3183342108])) 80 (.pointer (some ⟨1, (x ^^^ x4.toNat) % 16, none⟩))) (.int .u32 ((hv ((x ^^^ x4.toNat) % 16) : Nat) : Int)) (load_sym Z1 (cs := hcells) Z1 (hc_at (Nat.mod_lt _ Ze))) ?_;refine aE (v := .int .u32 (IntKind.wrap .u32 (((BitVec.ofInt (IntKind.bits .u32) (((x ^^^ x4.toNat) / 16 : Nat) : Int) ^^^ BitVec.ofInt (IntKind.bits .u32) ((hv ((x ^^^ x4.toNat) % 16) : Nat) : Int)).toNat : Nat) : Int))) (.int .u32 (((((x ^^^ x4.toNat) / 16) ^^^ (hv ((x ^^^ x4.toNat) % 16))) : Nat) : Int)) (congrArg (Value.int .u32) (xor32 Zh Zh)) ?_;refine aN ?_;refine Z1t Try.cfgOk hS ?_;refine aK 1 ?_;refine aE (v := .int .u32 (Int.fdiv (((((x ^^^ x4.toNat) / 16) ^^^ (hv ((x ^^^ x4.toNat) % 16))) : Nat) : Int) (2 ^ (min (Int.toNat 4) (IntKind.bits .u32))))) (.int .u32 (((((x ^^^ x4.toNat) / 16) ^^^ (hv ((x ^^^ x4.toNat) % 16))) / 16 : Nat) : Int)) (congrArg (Value.int .u32) (shr_nat (((x ^^^ x4.toNat) / 16) ^^^ (hv ((x ^^^ x4.toNat) % 16))) 4 (y := 16) Ze rfl)) ?_;refine aK 1 ?_;refine aE (v := .int .u32 (IntKind.wrap .u32 (((BitVec.ofInt (IntKind.bits .u32) (((((x ^^^ x4.toNat) / 16) ^^^ (hv ((x ^^^ x4.toNat) % 16))) : Nat) : Int) &&& BitVec.ofInt (IntKind.bits .u32) 15).toNat : Nat) : Int))) (.int .u32 (((((x ^^^ x4.toNat) / 16) ^^^ (hv ((x ^^^ x4.toNat) % 16))) % 16 : Nat) : Int)) (congrArg (Value.int .u32) (and15 (((x ^^^ x4.toNat) / 16) ^^^ (hv ((x ^^^ x4.toNat) % 16))) Zh)) ?_;refine aM (indexAddrV Try.cfg 137 (.pointer (some ⟨1, 0, none⟩)) (.int .u32 (((((x ^^^ x4.toNat) / 16) ^^^ (hv ((x ^^^ x4.toNat) % 16))) % 16 : Nat) : Int))) (.pointer (some ⟨1, (((x ^^^ x4.toNat) / 16) ^^^ (hv ((x ^^^ x4.toNat) % 16))) % 16, none⟩)) (idx_arr (m := 16) Z1 (by first | omega | exact Nat.mod_lt _ Ze)) ?_;refine aM (loadV Try.cfg (((St.empty 0).new (rowL Z1s b)).new (.cells [.int .u32 0, .int .u32 498536548, .int .u32 997073096, .int .u32 651767980, .int .u32 1994146192, .int .u32 1802195444, .int .u32 1303535960, .int .u32 1342533948, .int .u32 3988292384, .int .u32 4027552580, .int .u32 3604390888, .int .u32 3412177804, .int .u32 2607071920, .int .u32 2262029012, .int .u32 2685067896, .int .u32 3183342108])) 80 (.pointer (some ⟨1, (((x ^^^ x4.toNat) / 16) ^^^ (hv ((x ^^^ x4.toNat) % 16))) % 16, none⟩))) (.int .u32 ((hv ((((x ^^^ x4.toNat) / 16) ^^^ (hv ((x ^^^ x4.toNat) % 16))) % 16) : Nat) : Int)) (load_sym Z1 (cs := hcells) Z1 (hc_at (Nat.mod_lt _ Ze))) ?_;refine aE (v := .int .u32 (IntKind.wrap .u32 (((BitVec.ofInt (IntKind.bits .u32) (((((x ^^^ x4.toNat) / 16) ^^^ (hv ((x ^^^ x4.toNat) % 16))) / 16 : Nat) : Int) ^^^ BitVec.ofInt (IntKind.bits .u32) ((hv ((((x ^^^ x4.toNat) / 16) ^^^ (hv ((x ^^^ x4.toNat) % 16))) % 16) : Nat) : Int)).toNat : Nat) : Int))) (.int .u32 (((((((x ^^^ x4.toNat) / 16) ^^^ (hv ((x ^^^ x4.toNat) % 16))) / 16) ^^^ (hv ((((x ^^^ x4.toNat) / 16) ^^^ (hv ((x ^^^ x4.toNat) % 16))) % 16))) : Nat) : Int)) (congrArg (Value.int .u32) (xor32 Zh Zh)) ?_;refine aN ?_;refine Z1t Try.cfgOk hS ?_;refine aE (v := .int .i64 (IntKind.wrap .i64 (((i : Nat) : Int) + 1))) (.int .i64 ((i + 1 : Nat) : Int)) (congrArg (Value.int .i64) (wrap_to Z5 Z5)) ?_;refine aN ?_;refine .inl ⟨(i + 1, (((((x ^^^ x4.toNat) / 16) ^^^ (hv ((x ^^^ x4.toNat) % 16))) / 16) ^^^ (hv ((((x ^^^ x4.toNat) / 16) ^^^ (hv ((x ^^^ x4.toNat) % 16))) % 16)))), rfl, ⟨?_, ?_, ?_⟩, ?_, ⟨Z1, ⟨Z1, Z1, Z1, Z1, Z1, trivial⟩, ⟨sub_clo rfl, .ptr ⟨Ze, rfl⟩, .slice ⟨Ze, rfl⟩, sub_clo rfl, sub_clo rfl, trivial⟩, Zle, ⟨Z1, (((Z1x 0).new _).new _), (selfs (all_cons (o := rowL Z1s b) Z1 (OSub.arr (subs_clo (Z20 Z22))) (all_cons (o := .cells [.int .u32 0, .int .u32 498536548, .int .u32 997073096, .int .u32 651767980, .int .u32 1994146192, .int .u32 1802195444, .int .u32 1303535960, .int .u32 1342533948, .int .u32 3988292384, .int .u32 4027552580, .int .u32 3604390888, .int .u32 3412177804, .int .u32 2607071920, .int .u32 2262029012, .int .u32 2685067896, .int .u32 3183342108]) Z1 (OSub.cells (.cons (sub_clo rfl) (.cons (sub_clo rfl) (.cons (sub_clo rfl) (.cons (sub_clo rfl) (.cons (sub_clo rfl) (.cons (sub_clo rfl) (.cons (sub_clo rfl) (.cons (sub_clo rfl) (.cons (sub_clo rfl) (.cons (sub_clo rfl) (.cons (sub_clo rfl) (.cons (sub_clo rfl) (.cons (sub_clo rfl) (.cons (sub_clo rfl) (.cons (sub_clo rfl) (.cons (sub_clo rfl) .nil))))))))))))))))) (Z25))))⟩, Z2b Z1⟩⟩
   ·(try dsimp only); omega
   ·(try dsimp only); rw [i1, feed_succ Z2]; rfl
   ·(try dsimp only); (repeat' first | assumption | exact hv_lt _ | exact byte_lt32 _ | exact ones_lt | refine xor_lt32 ?_ ?_ | refine div_lt32 ?_ | refine feed_lt _ ?_ | refine add_lt ?_ | decide)
   ·omega
  ·have c3e : (decide ((((i : Nat) : Int) : Int) < ((b.length : Nat) : Int))) = false := Eq.trans Z1 h2;clear h2;have c3 : ¬ (((i : Nat) : Int) : Int) < ((b.length : Nat) : Int) := of_decide_eq_false c3e;clear c3e;refine Z29 ?_;refine Z1u ?_;refine kF ?_;refine sk_exit ?_;dsimp only;refine .inr ⟨_, _, (fun h => Zw), ⟨rfl, ?_, rfl, rfl⟩, ⟨Z1, ⟨Z1, Z1, Z1, Z1, Z1, trivial⟩, ⟨sub_clo rfl, .ptr ⟨Ze, rfl⟩, .slice ⟨Ze, rfl⟩, sub_clo rfl, sub_clo rfl, trivial⟩, Zle, ⟨Z1, (((Z1x 0).new _).new _), (selfs (all_cons (o := rowL Z1s b) Z1 (OSub.arr (subs_clo (Z20 Z22))) (all_cons (o := .cells [.int .u32 0, .int .u32 498536548, .int .u32 997073096, .int .u32 651767980, .int .u32 1994146192, .int .u32 1802195444, .int .u32 1303535960, .int .u32 1342533948, .int .u32 3988292384, .int .u32 4027552580, .int .u32 3604390888, .int .u32 3412177804, .int .u32 2607071920, .int .u32 2262029012, .int .u32 2685067896, .int .u32 3183342108]) Z1 (OSub.cells (.cons (sub_clo rfl) (.cons (sub_clo rfl) (.cons (sub_clo rfl) (.cons (sub_clo rfl) (.cons (sub_clo rfl) (.cons (sub_clo rfl) (.cons (sub_clo rfl) (.cons (sub_clo rfl) (.cons (sub_clo rfl) (.cons (sub_clo rfl) (.cons (sub_clo rfl) (.cons (sub_clo rfl) (.cons (sub_clo rfl) (.cons (sub_clo rfl) (.cons (sub_clo rfl) (.cons (sub_clo rfl) .nil))))))))))))))))) (Z25))))⟩, Z2b Z1⟩⟩
   ·omega
 ·exact ⟨Zy, Z0e, Z14⟩
 rintro o e1 s1 ⟨a, lv1, M1, m1, ha, ⟨rfl, hx, rfl, rfl⟩, rfl, rfl⟩;obtain ⟨i, x⟩ := a;obtain ⟨i0, i1, i2⟩ := ha;dsimp only at hx i0 i1 i2;dsimp only;try rw [if_pos rfl]
 refine Z1u ?_;refine kK Try.cfgOk hS ?_;refine Z1z ?_;exact ⟨[.int .u32 ((x : Nat) : Int)], Z1, congrArg (Value.int .u32) (by rw [i1, List.take_of_length_le Z5]), Zle, all1 Z1⟩
noncomputable def sm_feed : Small Try.prog 0 78 (Nat × (List UInt8)) where
 k := 1
 A := fun z9 ρ => [.int .u32 ((z9.1 : Nat) : Int), slL (ρ 0) 1 z9.2.length]
 M := fun z9 ρ => objL [rowL Z1s z9.2]
 M1 := fun z9 ρ => objL [rowL Z1s z9.2]
 V := fun z9 ρ => .int .u32 ((feedN z9.1 z9.2 : Nat) : Int)
 Pre := fun z9 => (z9.1 < 4294967296) ∧ (z9.2.length ≤ 2 * 1000000000)
 ch := []
 N := 400
 s0 := fun z9 => ((St.empty 0).new (rowL Z1s z9.2))
 hch := by decide
 hsame := fun x ρ => all1 (fun _ => rfl)
 hG := rfl
 hn := fun x => rfl
 hwf := fun x => ((Z1x 0).new _)
 hget := fun x => all1 (by kernel_rfl)
 noloop := fun x ρ => all1 (fun h => h.elim)
 inA := fun x ρ R hR => .cons (sub_clo rfl) (.cons (.slice (hR 0 _ (by decide))) .nil)
 inM := fun x ρ R hR => all1 (OSub.arr (subs_clo (Z20 Z22)))
 outM := fun x ρ R hR => all1 (OSub.arr (subs_clo (Z20 Z22)))
 outV := fun x ρ R hR => sub_clo rfl
 dom := by
  intro x ρ a ha
  cases ha
 sc := by
  rintro ⟨a0, a1⟩ ⟨p0, p1⟩
  exact feed_sc a0 a1 p0 p1
 det := by
  rintro ⟨a0, a1⟩ ρ ⟨b0, b1⟩ σ s h hm hm'
  simp only [injA, injB, Z27] at h
  have q0 : ρ 0 = σ 0 := by simp_all
  have e0 := (hm 0 (by decide)).symm.trans ((congrArg s.get q0).trans (hm' 0 (by decide)))
  simp only [objL, List.getD_cons_zero, List.getD_cons_succ, injA, injB, Z27] at e0
  have q : ∀ a, a < 1 → ρ a = σ a := all1 q0
  clear hm hm'
  exact ⟨by first | rfl | (simp_all [Prod.ext_iff]; done) | exact e0, q⟩
 par := by
  intro x ρ σ h
  have h0 := h 0 (by decide)
  exact ⟨by first | rfl | simp only [h0], by first | exact fun _ _ => rfl | (intro a ha; simp only [h0])⟩
noncomputable def con_feed : Con Try.prog 0 := sm_feed.con
theorem con_feed_at (x0 : Nat) (b : List UInt8) (i0 : Nat) (h0 : x0 < 4294967296) (h1 : b.length ≤ 2 * 1000000000) (s : St) (hn : nodupB [i0] = true) (m0 : s.get i0 = some (rowL Z1s b)) : con_feed.rel [.int .u32 ((x0 : Nat) : Int), slL i0 1 b.length] s (.int .u32 ((feedN x0 b : Nat) : Int)) s :=
 sm_feed.at_ (x0, b) [i0] s _ ⟨h0, h1⟩ rfl hn rfl (all1 m0) rfl rfl
theorem cadd_fn : Try.cfg.fn 59 = some Try.f59 := Z1
theorem cadd_sc (x0 : Nat) (b : List UInt8) (h0 : x0 < 4294967296) (h1 : b.length ≤ 2 * 1000000000) : SC Try.prog 0 59 [.int .u32 ((x0 : Nat) : Int), slL 0 1 b.length] ((St.empty 0).new (rowL Z1s b)) fun v s' => v = .int .u32 ((addN x0 b : Nat) : Int) ∧ s'.n ≤ 400 ∧ ∀ a, a < 1 → s'.get a = some (objL [rowL Z1s b] a) := by
 obtain ⟨rc, hS, hC⟩ := rc_con (Z24 Try.cfgOk 300) [con_feed] Z1;have hC78 := hC con_feed (.head _);refine Z2d Try.cfgOk cadd_fn rfl ?_;refine Z1u ?_;refine kK Try.cfgOk hS ?_;refine Z1u ?_;refine Z1t Try.cfgOk hS ?_;refine aK 1 ?_;refine aE (v := .int .u32 (IntKind.wrap .u32 (((BitVec.ofInt (IntKind.bits .u32) (if IntKind.signed .u32 then -1 else IntKind.max .u32) ^^^ BitVec.ofInt (IntKind.bits .u32) ((x0 : Nat) : Int)).toNat : Nat) : Int))) (.int .u32 (((4294967295 ^^^ x0) : Nat) : Int)) (congrArg (Value.int .u32) (not32 Zh)) ?_;refine aK 1 ?_;refine aC 78 [.int .u32 (((4294967295 ^^^ x0) : Nat) : Int), slL 0 1 b.length] (.int .u32 ((feedN (4294967295 ^^^ x0) b : Nat) : Int)) _ rfl (hC78 _ _ _ _ (con_feed_at (4294967295 ^^^ x0) b 0 Zo Zo _ Z1 Z1 )) ?_;refine aE (v := .int .u32 (IntKind.wrap .u32 (((BitVec.ofInt (IntKind.bits .u32) (if IntKind.signed .u32 then -1 else IntKind.max .u32) ^^^ BitVec.ofInt (IntKind.bits .u32) ((feedN (4294967295 ^^^ x0) b : Nat) : Int)).toNat : Nat) : Int))) (.int .u32 (((4294967295 ^^^ (feedN (4294967295 ^^^ x0) b)) : Nat) : Int)) (congrArg (Value.int .u32) (not32 Zh)) ?_;refine aN ?_;refine Z1z ?_;exact ⟨[.int .u32 (((4294967295 ^^^ (feedN (4294967295 ^^^ x0) b)) : Nat) : Int)], Z1, congrArg (Value.int .u32) Z0m, Zle, all1 Z1⟩
noncomputable def sm_cadd : Small Try.prog 0 59 (Nat × (List UInt8)) where
 k := 1
 A := fun z9 ρ => [.int .u32 ((z9.1 : Nat) : Int), slL (ρ 0) 1 z9.2.length]
 M := fun z9 ρ => objL [rowL Z1s z9.2]
 M1 := fun z9 ρ => objL [rowL Z1s z9.2]
 V := fun z9 ρ => .int .u32 ((addN z9.1 z9.2 : Nat) : Int)
 Pre := fun z9 => (z9.1 < 4294967296) ∧ (z9.2.length ≤ 2 * 1000000000)
 ch := []
 N := 400
 s0 := fun z9 => ((St.empty 0).new (rowL Z1s z9.2))
 hch := by decide
 hsame := fun x ρ => all1 (fun _ => rfl)
 hG := rfl
 hn := fun x => rfl
 hwf := fun x => ((Z1x 0).new _)
 hget := fun x => all1 (by kernel_rfl)
 noloop := fun x ρ => all1 (fun h => h.elim)
 inA := fun x ρ R hR => .cons (sub_clo rfl) (.cons (.slice (hR 0 _ (by decide))) .nil)
 inM := fun x ρ R hR => all1 (OSub.arr (subs_clo (Z20 Z22)))
 outM := fun x ρ R hR => all1 (OSub.arr (subs_clo (Z20 Z22)))
 outV := fun x ρ R hR => sub_clo rfl
 dom := by
  intro x ρ a ha
  cases ha
 sc := by
  rintro ⟨a0, a1⟩ ⟨p0, p1⟩
  exact cadd_sc a0 a1 p0 p1
 det := by
  rintro ⟨a0, a1⟩ ρ ⟨b0, b1⟩ σ s h hm hm'
  simp only [injA, injB, Z27] at h
  have q0 : ρ 0 = σ 0 := by simp_all
  have e0 := (hm 0 (by decide)).symm.trans ((congrArg s.get q0).trans (hm' 0 (by decide)))
  simp only [objL, List.getD_cons_zero, List.getD_cons_succ, injA, injB, Z27] at e0
  have q : ∀ a, a < 1 → ρ a = σ a := all1 q0
  clear hm hm'
  exact ⟨by first | rfl | (simp_all [Prod.ext_iff]; done) | exact e0, q⟩
 par := by
  intro x ρ σ h
  have h0 := h 0 (by decide)
  exact ⟨by first | rfl | simp only [h0], by first | exact fun _ _ => rfl | (intro a ha; simp only [h0])⟩
noncomputable def con_cadd : Con Try.prog 0 := sm_cadd.con
theorem con_cadd_at (x0 : Nat) (b : List UInt8) (i0 : Nat) (h0 : x0 < 4294967296) (h1 : b.length ≤ 2 * 1000000000) (s : St) (hn : nodupB [i0] = true) (m0 : s.get i0 = some (rowL Z1s b)) : con_cadd.rel [.int .u32 ((x0 : Nat) : Int), slL i0 1 b.length] s (.int .u32 ((addN x0 b : Nat) : Int)) s :=
 sm_cadd.at_ (x0, b) [i0] s _ ⟨h0, h1⟩ rfl hn rfl (all1 m0) rfl rfl
theorem csum_fn : Try.cfg.fn 34 = some Try.f34 := Z1
theorem csum_sc (b : List UInt8) (h0 : b.length ≤ 2 * 1000000000) : SC Try.prog 0 34 [.slice (some ⟨0, 0, some 1⟩) 1 1] (((St.empty 0).new (.arr [slL 1 1 b.length] 0 false)).new (rowL Z1s b)) fun v s' => v = .int .u32 ((sumN b : Nat) : Int) ∧ s'.n ≤ 400 ∧ ∀ a, a < 2 → s'.get a = some (objL [.arr [slL 1 1 b.length] 0 false, rowL Z1s b] a) := by
 obtain ⟨rc, hS, hC⟩ := rc_con (Z24 Try.cfgOk 300) [con_cadd] Z1;have hC59 := hC con_cadd (.head _);refine Z2d Try.cfgOk csum_fn rfl ?_;refine Z1u ?_;refine kK Try.cfgOk hS ?_;refine Z1u ?_;refine kK Try.cfgOk hS ?_;refine Z1u (Z1u ?_);refine kK Try.cfgOk hS ?_;refine Z2f ?_;refine sk_loop ?_;refine Z1u ?_;refine kK Try.cfgOk hS ?_;refine Z1u ?_;refine kT ?_;refine Z26 (Z1u (Z2f (Z1u ?_)));refine kK Try.cfgOk hS ?_;refine Z1t Try.cfgOk hS ?_;refine aK 2 ?_;refine aC 59 [.int .u32 0, slL 1 1 b.length] (.int .u32 ((addN 0 b : Nat) : Int)) _ rfl (hC59 _ _ _ _ (con_cadd_at 0 b 1 Zo Zo _ Z1 Z1 )) ?_;refine aN ?_;refine kK Try.cfgOk hS ?_;refine sk_loop ?_;refine Z1u ?_;refine kK Try.cfgOk hS ?_;refine Z1u ?_;refine kF ?_;refine sk_exit ?_;dsimp only;try rw [if_pos rfl]
 refine Z1u ?_;refine kK Try.cfgOk hS ?_;refine Z1z ?_;exact ⟨[.int .u32 ((addN 0 b : Nat) : Int)], Z1, congrArg (Value.int .u32) Z0m, Zle, all2 Z1 Z1⟩
noncomputable def sm_csum : Small Try.prog 0 34 ((List UInt8)) where
 k := 2
 A := fun z9 ρ => [.slice (some ⟨(ρ 0), 0, some 1⟩) 1 1]
 M := fun z9 ρ => objL [.arr [slL (ρ 1) 1 z9.length] 0 false, rowL Z1s z9]
 M1 := fun z9 ρ => objL [.arr [slL (ρ 1) 1 z9.length] 0 false, rowL Z1s z9]
 V := fun z9 ρ => .int .u32 ((sumN z9 : Nat) : Int)
 Pre := fun z9 => (z9.length ≤ 2 * 1000000000)
 ch := []
 N := 400
 s0 := fun z9 => (((St.empty 0).new (.arr [slL 1 1 z9.length] 0 false)).new (rowL Z1s z9))
 hch := by decide
 hsame := fun x ρ => all2 (fun _ => rfl) (fun _ => rfl)
 hG := rfl
 hn := fun x => rfl
 hwf := fun x => (((Z1x 0).new _).new _)
 hget := fun x => all2 (by kernel_rfl) (by kernel_rfl)
 noloop := fun x ρ => all2 (fun h => h.elim) (fun h => h.elim)
 inA := fun x ρ R hR => .cons (.slice (hR 0 _ (by decide))) .nil
 inM := fun x ρ R hR => all2 (OSub.arr (.cons (.slice (hR 1 _ (by decide))) .nil)) (OSub.arr (subs_clo (Z20 Z22)))
 outM := fun x ρ R hR => all2 (OSub.arr (.cons (.slice (hR 1 _ (by decide))) .nil)) (OSub.arr (subs_clo (Z20 Z22)))
 outV := fun x ρ R hR => sub_clo rfl
 dom := by
  intro x ρ a ha
  cases ha
 sc := by
  rintro x p0
  exact csum_sc x p0
 det := by
  rintro x ρ y σ s h hm hm'
  simp only [injA, injB, Z27] at h
  have q0 : ρ 0 = σ 0 := by simp_all
  have e0 := (hm 0 (by decide)).symm.trans ((congrArg s.get q0).trans (hm' 0 (by decide)))
  simp only [objL, List.getD_cons_zero, List.getD_cons_succ, injA, injB, Z27] at e0
  have q1 : ρ 1 = σ 1 := by simp_all
  have e1 := (hm 1 (by decide)).symm.trans ((congrArg s.get q1).trans (hm' 1 (by decide)))
  simp only [objL, List.getD_cons_zero, List.getD_cons_succ, injA, injB, Z27] at e1
  have q : ∀ a, a < 2 → ρ a = σ a := all2 q0 q1
  clear hm hm'
  exact ⟨by first | rfl | (simp_all [Prod.ext_iff]; done) | exact e0, q⟩
 par := by
  intro x ρ σ h
  have h0 := h 0 (by decide); have h1 := h 1 (by decide)
  exact ⟨by first | rfl | simp only [h0, h1], by first | exact fun _ _ => rfl | (intro a ha; simp only [h0, h1])⟩
noncomputable def con_csum : Con Try.prog 0 := sm_csum.con
theorem con_csum_at (b : List UInt8) (i0 : Nat) (i1 : Nat) (h0 : b.length ≤ 2 * 1000000000) (s : St) (hn : nodupB [i0, i1] = true) (m0 : s.get i0 = some (.arr [slL i1 1 b.length] 0 false)) (m1 : s.get i1 = some (rowL Z1s b)) : con_csum.rel [.slice (some ⟨i0, 0, some 1⟩) 1 1] s (.int .u32 ((sumN b : Nat) : Int)) s :=
 sm_csum.at_ b [i0, i1] s _ h0 rfl hn rfl (all2 m0 m1) rfl rfl
theorem summed_fn : Try.cfg.fn 16 = some Try.f16 := Z1
theorem summed_sc (b : List UInt8) (h0 : b.length ≤ 1000000000) : SC Try.prog 0 16 [slL 0 1 b.length] ((St.empty 0).new (rowL Z1s b)) fun v s' => v = slL 0 1 ((b ++ s4 b).length) ∧ s'.n ≤ 400 ∧ ∀ a, a < 1 → s'.get a = some (objL [rowL Z1s (b ++ s4 b)] a) := by
 obtain ⟨rc, hS, hC⟩ := rc_con (Z24 Try.cfgOk 300) [con_csum] Z1;have hC34 := hC con_csum (.head _);refine Z2d Try.cfgOk summed_fn rfl ?_;refine Z1u ?_;refine kK Try.cfgOk hS ?_;refine Z1u ?_;refine Z1t Try.cfgOk hS ?_;refine aK 2 ?_;refine aC 34 [.slice (some ⟨1, 0, some 1⟩) 1 1] (.int .u32 ((sumN b : Nat) : Int)) _ rfl (hC34 _ _ _ _ (con_csum_at b 1 0 Zo _ Z1 Z1 Z1 )) ?_;refine aN ?_;refine Z1u (Z1u ?_);refine kK Try.cfgOk hS ?_;refine Z2f ?_;refine sk_loop ?_;refine Z1u ?_;refine kK Try.cfgOk hS ?_;refine Z1u ?_;refine kT ?_;refine Z26 (Z1u (Z2f (Z1u ?_)));refine kK Try.cfgOk hS ?_;refine Z1t Try.cfgOk hS ?_;refine aK 4 ?_;refine aE (v := .int .u32 (Int.fdiv ((sumN b : Nat) : Int) (2 ^ (min (Int.toNat 0) (IntKind.bits .u32))))) (.int .u32 (((sumN b) / 1 : Nat) : Int)) (congrArg (Value.int .u32) (shr_nat (sumN b) 0 (y := 1) Ze rfl)) ?_;refine aE (v := .int .u8 (IntKind.wrap .u8 (((sumN b) / 1 : Nat) : Int))) (.int .u8 (((UInt8.ofNat ((sumN b) / 1)).toNat : Nat) : Int)) (congrArg (Value.int .u8) (wrap_u8n _)) ?_;refine aK 1 ?_;refine al_opF (v := slL 0 1 (b ++ [(UInt8.ofNat ((sumN b) / 1))]).length) (s1 := ((((St.empty 0).new (rowL Z1s b)).new (.arr [slL 0 1 b.length] 0 false)).new (.arr [.int .u8 (((UInt8.ofNat ((sumN b) / 1)).toNat : Nat) : Int)] 0 false)).set 0 (rowL Z1s (b ++ [(UInt8.ofNat ((sumN b) / 1))]))) Z1 Z1 (Eq.trans (b := appendV Try.cfg ((((St.empty 0).new (rowL Z1s b)).new (.arr [slL 0 1 b.length] 0 false)).new (.arr [.int .u8 (((UInt8.ofNat ((sumN b) / 1)).toNat : Nat) : Int)] 0 false)) 34 (slL 0 1 b.length) (.slice (some ⟨2, 0, some 1⟩) 1 1)) Z1 (app_rowL (l := b) (l2 := [(UInt8.ofNat ((sumN b) / 1))]) (bytes := 1) tokC Z1 Z2g bcells_one Z1 Z1 Z1 Zi)) ?_;refine aN ?_;refine kK Try.cfgOk hS ?_;refine sk_loop ?_;refine Z1u ?_;refine kK Try.cfgOk hS ?_;refine Z1u ?_;refine kT ?_;refine Z26 (Z1u (Z2f (Z1u ?_)));refine kK Try.cfgOk hS ?_;refine Z1t Try.cfgOk hS ?_;refine aK 4 ?_;refine aE (v := .int .u32 (Int.fdiv ((sumN b : Nat) : Int) (2 ^ (min (Int.toNat 8) (IntKind.bits .u32))))) (.int .u32 (((sumN b) / 256 : Nat) : Int)) (congrArg (Value.int .u32) (shr_nat (sumN b) 8 (y := 256) Ze rfl)) ?_;refine aE (v := .int .u8 (IntKind.wrap .u8 (((sumN b) / 256 : Nat) : Int))) (.int .u8 (((UInt8.ofNat ((sumN b) / 256)).toNat : Nat) : Int)) (congrArg (Value.int .u8) (wrap_u8n _)) ?_;refine aK 1 ?_;refine al_opF (v := slL 0 1 ((b ++ [(UInt8.ofNat ((sumN b) / 1))]) ++ [(UInt8.ofNat ((sumN b) / 256))]).length) (s1 := (((((St.empty 0).new (rowL Z1s (b ++ [(UInt8.ofNat ((sumN b) / 1))]))).new (.arr [slL 0 1 b.length] 0 false)).new (.arr [.int .u8 (((UInt8.ofNat ((sumN b) / 1)).toNat : Nat) : Int)] 0 false)).new (.arr [.int .u8 (((UInt8.ofNat ((sumN b) / 256)).toNat : Nat) : Int)] 0 false)).set 0 (rowL Z1s ((b ++ [(UInt8.ofNat ((sumN b) / 1))]) ++ [(UInt8.ofNat ((sumN b) / 256))]))) Z1 Z1 (Eq.trans (b := appendV Try.cfg (((((St.empty 0).new (rowL Z1s (b ++ [(UInt8.ofNat ((sumN b) / 1))]))).new (.arr [slL 0 1 b.length] 0 false)).new (.arr [.int .u8 (((UInt8.ofNat ((sumN b) / 1)).toNat : Nat) : Int)] 0 false)).new (.arr [.int .u8 (((UInt8.ofNat ((sumN b) / 256)).toNat : Nat) : Int)] 0 false)) 34 (slL 0 1 ((b ++ [(UInt8.ofNat ((sumN b) / 1))]).length)) (.slice (some ⟨3, 0, some 1⟩) 1 1)) Z1 (app_rowL (l := (b ++ [(UInt8.ofNat ((sumN b) / 1))])) (l2 := [(UInt8.ofNat ((sumN b) / 256))]) (bytes := 1) tokC Z1 Z2g bcells_one Z1 Z1 Z1 Zi)) ?_;refine aN ?_;refine kK Try.cfgOk hS ?_;refine sk_loop ?_;refine Z1u ?_;refine kK Try.cfgOk hS ?_;refine Z1u ?_;refine kT ?_;refine Z26 (Z1u (Z2f (Z1u ?_)));refine kK Try.cfgOk hS ?_;refine Z1t Try.cfgOk hS ?_;refine aK 4 ?_;refine aE (v := .int .u32 (Int.fdiv ((sumN b : Nat) : Int) (2 ^ (min (Int.toNat 16) (IntKind.bits .u32))))) (.int .u32 (((sumN b) / 65536 : Nat) : Int)) (congrArg (Value.int .u32) (shr_nat (sumN b) 16 (y := 65536) Ze rfl)) ?_;refine aE (v := .int .u8 (IntKind.wrap .u8 (((sumN b) / 65536 : Nat) : Int))) (.int .u8 (((UInt8.ofNat ((sumN b) / 65536)).toNat : Nat) : Int)) (congrArg (Value.int .u8) (wrap_u8n _)) ?_;refine aK 1 ?_;refine al_opF (v := slL 0 1 (((b ++ [(UInt8.ofNat ((sumN b) / 1))]) ++ [(UInt8.ofNat ((sumN b) / 256))]) ++ [(UInt8.ofNat ((sumN b) / 65536))]).length) (s1 := ((((((St.empty 0).new (rowL Z1s ((b ++ [(UInt8.ofNat ((sumN b) / 1))]) ++ [(UInt8.ofNat ((sumN b) / 256))]))).new (.arr [slL 0 1 b.length] 0 false)).new (.arr [.int .u8 (((UInt8.ofNat ((sumN b) / 1)).toNat : Nat) : Int)] 0 false)).new (.arr [.int .u8 (((UInt8.ofNat ((sumN b) / 256)).toNat : Nat) : Int)] 0 false)).new (.arr [.int .u8 (((UInt8.ofNat ((sumN b) / 65536)).toNat : Nat) : Int)] 0 false)).set 0 (rowL Z1s (((b ++ [(UInt8.ofNat ((sumN b) / 1))]) ++ [(UInt8.ofNat ((sumN b) / 256))]) ++ [(UInt8.ofNat ((sumN b) / 65536))]))) Z1 Z1 (Eq.trans (b := appendV Try.cfg ((((((St.empty 0).new (rowL Z1s ((b ++ [(UInt8.ofNat ((sumN b) / 1))]) ++ [(UInt8.ofNat ((sumN b) / 256))]))).new (.arr [slL 0 1 b.length] 0 false)).new (.arr [.int .u8 (((UInt8.ofNat ((sumN b) / 1)).toNat : Nat) : Int)] 0 false)).new (.arr [.int .u8 (((UInt8.ofNat ((sumN b) / 256)).toNat : Nat) : Int)] 0 false)).new (.arr [.int .u8 (((UInt8.ofNat ((sumN b) / 65536)).toNat : Nat) : Int)] 0 false)) 34 (slL 0 1 (((b ++ [(UInt8.ofNat ((sumN b) / 1))]) ++ [(UInt8.ofNat ((sumN b) / 256))]).length)) (.slice (some ⟨4, 0, some 1⟩) 1 1)) Z1 (app_rowL (l := ((b ++ [(UInt8.ofNat ((sumN b) / 1))]) ++ [(UInt8.ofNat ((sumN b) / 256))])) (l2 := [(UInt8.ofNat ((sumN b) / 65536))]) (bytes := 1) tokC Z1 Z2g bcells_one Z1 Z1 Z1 Zi)) ?_;refine aN ?_;refine kK Try.cfgOk hS ?_;refine sk_loop ?_;refine Z1u ?_;refine kK Try.cfgOk hS ?_;refine Z1u ?_;refine kT ?_;refine Z26 (Z1u (Z2f (Z1u ?_)));refine kK Try.cfgOk hS ?_;refine Z1t Try.cfgOk hS ?_;refine aK 4 ?_;refine aE (v := .int .u32 (Int.fdiv ((sumN b : Nat) : Int) (2 ^ (min (Int.toNat 24) (IntKind.bits .u32))))) (.int .u32 (((sumN b) / 16777216 : Nat) : Int)) (congrArg (Value.int .u32) (shr_nat (sumN b) 24 (y := 16777216) Ze rfl)) ?_;refine aE (v := .int .u8 (IntKind.wrap .u8 (((sumN b) / 16777216 : Nat) : Int))) (.int .u8 (((UInt8.ofNat ((sumN b) / 16777216)).toNat : Nat) : Int)) (congrArg (Value.int .u8) (wrap_u8n _)) ?_;refine aK 1 ?_;refine al_opF (v := slL 0 1 ((((b ++ [(UInt8.ofNat ((sumN b) / 1))]) ++ [(UInt8.ofNat ((sumN b) / 256))]) ++ [(UInt8.ofNat ((sumN b) / 65536))]) ++ [(UInt8.ofNat ((sumN b) / 16777216))]).length) (s1 := (((((((St.empty 0).new (rowL Z1s (((b ++ [(UInt8.ofNat ((sumN b) / 1))]) ++ [(UInt8.ofNat ((sumN b) / 256))]) ++ [(UInt8.ofNat ((sumN b) / 65536))]))).new (.arr [slL 0 1 b.length] 0 false)).new (.arr [.int .u8 (((UInt8.ofNat ((sumN b) / 1)).toNat : Nat) : Int)] 0 false)).new (.arr [.int .u8 (((UInt8.ofNat ((sumN b) / 256)).toNat : Nat) : Int)] 0 false)).new (.arr [.int .u8 (((UInt8.ofNat ((sumN b) / 65536)).toNat : Nat) : Int)] 0 false)).new (.arr [.int .u8 (((UInt8.ofNat ((sumN b) / 16777216)).toNat : Nat) : Int)] 0 false)).set 0 (rowL Z1s ((((b ++ [(UInt8.ofNat ((sumN b) / 1))]) ++ [(UInt8.ofNat ((sumN b) / 256))]) ++ [(UInt8.ofNat ((sumN b) / 65536))]) ++ [(UInt8.ofNat ((sumN b) / 16777216))]))) Z1 Z1 (Eq.trans (b := appendV Try.cfg (((((((St.empty 0).new (rowL Z1s (((b ++ [(UInt8.ofNat ((sumN b) / 1))]) ++ [(UInt8.ofNat ((sumN b) / 256))]) ++ [(UInt8.ofNat ((sumN b) / 65536))]))).new (.arr [slL 0 1 b.length] 0 false)).new (.arr [.int .u8 (((UInt8.ofNat ((sumN b) / 1)).toNat : Nat) : Int)] 0 false)).new (.arr [.int .u8 (((UInt8.ofNat ((sumN b) / 256)).toNat : Nat) : Int)] 0 false)).new (.arr [.int .u8 (((UInt8.ofNat ((sumN b) / 65536)).toNat : Nat) : Int)] 0 false)).new (.arr [.int .u8 (((UInt8.ofNat ((sumN b) / 16777216)).toNat : Nat) : Int)] 0 false)) 34 (slL 0 1 ((((b ++ [(UInt8.ofNat ((sumN b) / 1))]) ++ [(UInt8.ofNat ((sumN b) / 256))]) ++ [(UInt8.ofNat ((sumN b) / 65536))]).length)) (.slice (some ⟨5, 0, some 1⟩) 1 1)) Z1 (app_rowL (l := (((b ++ [(UInt8.ofNat ((sumN b) / 1))]) ++ [(UInt8.ofNat ((sumN b) / 256))]) ++ [(UInt8.ofNat ((sumN b) / 65536))])) (l2 := [(UInt8.ofNat ((sumN b) / 16777216))]) (bytes := 1) tokC Z1 Z2g bcells_one Z1 Z1 Z1 Zi)) ?_;refine aN ?_;refine kK Try.cfgOk hS ?_;refine sk_loop ?_;refine Z1u ?_;refine kK Try.cfgOk hS ?_;refine Z1u ?_;refine kF ?_;refine sk_exit ?_;dsimp only;try rw [if_pos rfl]
 refine Z1u ?_;refine kK Try.cfgOk hS ?_;refine Z1z ?_;exact ⟨[slL 0 1 (((((b ++ [(UInt8.ofNat ((sumN b) / 1))]) ++ [(UInt8.ofNat ((sumN b) / 256))]) ++ [(UInt8.ofNat ((sumN b) / 65536))]) ++ [(UInt8.ofNat ((sumN b) / 16777216))]).length)], Z1, by first | rfl | (simp [s4]; done) | (simp [s4]; rfl), Zle, all1 (Eq.trans (b := some (rowL Z1s ((((b ++ [(UInt8.ofNat ((sumN b) / 1))]) ++ [(UInt8.ofNat ((sumN b) / 256))]) ++ [(UInt8.ofNat ((sumN b) / 65536))]) ++ [(UInt8.ofNat ((sumN b) / 16777216))]))) Z1 (congrArg some (show ((rowL Z1s ((((b ++ [(UInt8.ofNat ((sumN b) / 1))]) ++ [(UInt8.ofNat ((sumN b) / 256))]) ++ [(UInt8.ofNat ((sumN b) / 65536))]) ++ [(UInt8.ofNat ((sumN b) / 16777216))])) : AObj) = rowL Z1s (b ++ s4 b) by first | rfl | (simp [s4]; done))))⟩
noncomputable def sm_summed : Small Try.prog 0 16 ((List UInt8)) where
 k := 1
 A := fun z9 ρ => [slL (ρ 0) 1 z9.length]
 M := fun z9 ρ => objL [rowL Z1s z9]
 M1 := fun z9 ρ => objL [rowL Z1s (z9 ++ s4 z9)]
 V := fun z9 ρ => slL (ρ 0) 1 ((z9 ++ s4 z9).length)
 Pre := fun z9 => (z9.length ≤ 1000000000)
 ch := [0]
 N := 400
 s0 := fun z9 => ((St.empty 0).new (rowL Z1s z9))
 hch := by decide
 hsame := fun x ρ => all1 (fun h => absurd (by decide) h)
 hG := rfl
 hn := fun x => rfl
 hwf := fun x => ((Z1x 0).new _)
 hget := fun x => all1 (by kernel_rfl)
 noloop := fun x ρ => all1 (fun h => h.elim)
 inA := fun x ρ R hR => .cons (.slice (hR 0 _ (by decide))) .nil
 inM := fun x ρ R hR => all1 (OSub.arr (subs_clo (Z20 Z22)))
 outM := fun x ρ R hR => all1 (OSub.arr (subs_clo (Z20 Z22)))
 outV := fun x ρ R hR => .slice (hR 0 _ (by decide))
 dom := by
  intro x ρ a ha
  obtain rfl := List.mem_singleton.1 ha
  exact .inr fun h => h
 sc := by
  rintro x p0
  exact summed_sc x p0
 det := by
  rintro x ρ y σ s h hm hm'
  simp only [injA, injB, Z27] at h
  have q0 : ρ 0 = σ 0 := by simp_all
  have e0 := (hm 0 (by decide)).symm.trans ((congrArg s.get q0).trans (hm' 0 (by decide)))
  simp only [objL, List.getD_cons_zero, List.getD_cons_succ, injA, injB, Z27] at e0
  have q : ∀ a, a < 1 → ρ a = σ a := all1 q0
  clear hm hm'
  exact ⟨by first | rfl | (simp_all [Prod.ext_iff]; done) | exact e0, q⟩
 par := by
  intro x ρ σ h
  have h0 := h 0 (by decide)
  exact ⟨by first | rfl | simp only [h0], by first | exact fun _ _ => rfl | (intro a ha; simp only [h0])⟩
noncomputable def con_summed : Con Try.prog 0 := sm_summed.con
theorem con_summed_at (b : List UInt8) (i0 : Nat) (h0 : b.length ≤ 1000000000) (s : St) (hn : nodupB [i0] = true) (m0 : s.get i0 = some (rowL Z1s b)) : con_summed.rel [slL i0 1 b.length] s (slL i0 1 ((b ++ s4 b).length)) (s.set i0 (rowL Z1s (b ++ s4 b))) :=
 sm_summed.at_ b [i0] s _ h0 rfl hn rfl (all1 m0) rfl rfl
end Go.Proofs.Ytegigohhnplomaa