/- Instructions: their shapes, fields, words. -/
import Derived.Test.YtgplkbfjlidinabGreatDoorBase
import Derived.Test.YtgplkbfjlidinabGreatDoorShelf
import Derived.Test.YtgplkbfjlidinabGreatDoorKit
set_option linter.unusedVariables false
set_option linter.unusedSimpArgs false
set_option linter.unnecessarySimpa false
set_option maxHeartbeats 4000000
set_option maxRecDepth 100000
namespace Go.Proofs.YtgplkbfjlidinabGreatDoor
open Go.Ai
def shp (op : Int) : List UInt8 :=
 if op = 0 then [97, 110] else if op = 1 then [97, 98] else if op = 2 then [97, 98, 99] else if op = 3 then [97, 98, 99] else if op = 4 then [97, 98, 99] else if op = 5 then [97, 98, 99] else if op = 6 then [97, 98, 99]
 else if op = 7 then [97, 116, 98] else if op = 8 then [97, 116, 98] else if op = 9 then [116, 98, 97] else if op = 10 then [116, 98] else if op = 11 then [97, 116, 98, 99, 107] else if op = 12 then [97, 116, 98, 99, 107]
 else if op = 13 then [115, 98, 106, 99] else if op = 14 then [98, 106, 99] else if op = 15 then [97] else []
theorem shp_at {op k : Int} {l : List UInt8} (h : op = k) (e : shp k = l) : (⟨l.toArray⟩ : ByteArray) = bstr (shp op) := by subst h; rw [e]; rfl
theorem shp_none {op : Int} (h : ¬ (0 ≤ op ∧ op ≤ 15)) : shp op = [] := by
 unfold shp;rw [if_neg Z4, if_neg Z4, if_neg Z4, if_neg Z4, if_neg Z4, if_neg Z4, if_neg Z4, if_neg Z4, if_neg Z4, if_neg Z4, if_neg Z4, if_neg Z4, if_neg Z4, if_neg Z4, if_neg Z4, if_neg Z4]
theorem shp_ops {op : Int} (h : 0 ≤ op ∧ op ≤ 15) : op = 0 ∨ op = 1 ∨ op = 2 ∨ op = 3 ∨ op = 4 ∨ op = 5 ∨ op = 6 ∨ op = 7 ∨ op = 8 ∨ op = 9 ∨ op = 10 ∨ op = 11 ∨ op = 12 ∨ op = 13 ∨ op = 14 ∨ op = 15 := Z4
theorem shp_len (op : Int) : (shp op).length ≤ 5 := by
 by_cases h : 0 ≤ op ∧ op ≤ 15
 ·rcases shp_ops h with rfl | rfl | rfl | rfl | rfl | rfl | rfl | rfl | rfl | rfl | rfl | rfl | rfl | rfl | rfl | rfl <;> decide
 ·rw [shp_none h]; decide
def offL (x : UInt8) : Nat := if x.toNat = 97 ∨ x.toNat = 115 then 1 else if x.toNat = 98 then 2 else if x.toNat = 99 then 3 else if x.toNat = 116 then 4 else 5
def fld (x : UInt8) (c : Code) : Int := if x.toNat = 97 ∨ x.toNat = 115 then c.2.1 else if x.toNat = 98 then c.2.2.1 else if x.toNat = 99 then c.2.2.2.1 else if x.toNat = 116 then c.2.2.2.2.1 else c.2.2.2.2.2
def clr (x : UInt8) (c : Code) : Code := if x.toNat = 97 ∨ x.toNat = 115 then (c.1, 0, c.2.2) else if x.toNat = 98 then (c.1, c.2.1, 0, c.2.2.2) else if x.toNat = 99 then (c.1, c.2.1, c.2.2.1, 0, c.2.2.2.2) else if x.toNat = 116 then (c.1, c.2.1, c.2.2.1, c.2.2.2.1, 0, c.2.2.2.2.2) else (c.1, c.2.1, c.2.2.1, c.2.2.2.1, c.2.2.2.2.1, 0)
theorem offL_lt (x : UInt8) : offL x < 6 := by unfold offL; (repeat' split) <;> omega
theorem fld_at (x : UInt8) (c : Code) : (Z29 c)[offL x]? = some (.int .i64 (fld x c)) := by unfold offL fld; (repeat' split) <;> rfl
theorem clr_at (x : UInt8) (c : Code) : splice (Z29 c) (offL x) [.int .i64 0] = Z29 (clr x c) := by unfold offL clr; (repeat' split) <;> rfl
def soundP (x : UInt8) (n bh : Int) : Prop :=
 if x.toNat = 97 ∨ x.toNat = 98 ∨ x.toNat = 99 then 0 ≤ n ∧ n ≤ 7 else if x.toNat = 116 then 0 ≤ n ∧ n ≤ 3 else if x.toNat = 107 then 1 ≤ n ∧ n ≤ 64 else if x.toNat = 115 then 1 ≤ n ∧ n ≤ bh else if x.toNat = 106 then 0 ≤ n ∧ n ≤ 3 else True
def zer (l : List UInt8) (c : Code) : Code := l.foldl (fun r x => clr x r) c
theorem zer_succ {l : List UInt8} {c : Code} {i : Nat} {x : UInt8} (h : l[i]? = some x) : zer (l.take (i + 1)) c = clr x (zer (l.take i) c) := by
 rw [List.take_add_one, h];simp [zer]
theorem zer_op (l : List UInt8) : ∀ c : Code, (zer l c).1 = c.1 := by
  induction l with
  | nil => intro c; rfl
  | cons x l ih =>
    intro c;show (zer l (clr x c)).1 = c.1;rw [ih];unfold clr;repeat' split
    all_goals rfl
def goodC (c : Code) (bh : Int) : Prop := (0 ≤ c.1 ∧ c.1 ≤ 15) ∧ (∀ x ∈ shp c.1, soundP x (fld x c) bh) ∧ (zer (shp c.1) c).2 = (0, 0, 0, 0, 0)
theorem all_succ {l : List UInt8} {p : UInt8 → Prop} {i : Nat} {x : UInt8} (h : ∀ y ∈ l.take i, p y) (hx : l[i]? = some x) (hp : p x) : ∀ y ∈ l.take (i + 1), p y := by
 intro y hy;rw [List.take_add_one, hx] at hy;rcases List.mem_append.1 hy with hy | hy
 ·exact h y hy
 ·obtain rfl := List.mem_singleton.1 (by simpa using hy);exact hp
theorem shape_fn : Tryz.cfg.fn 28 = some Tryz.f28 := Z3
theorem shape_sc (op : Int)  : SC Tryz.prog 135000004004000 28 [.int .i64 op] (St.empty 0) fun v s' => v = .tuple #[.string (bstr (shp op)), .bool (decide (0 ≤ op ∧ op ≤ 15))] ∧ s'.n ≤ 400 := by
 have hS := Z2q Tryz.cfgOk 300;refine sc_ice0 (N := 400) (v2 := .tuple #[.string (bstr (shp op)), .bool (decide (0 ≤ op ∧ op ≤ 15))]) (Q := fun v s' => FS 0 s' v (.tuple #[.string (bstr (shp op)), .bool (decide (0 ≤ op ∧ op ≤ 15))]) ∧ s'.n ≤ 400) ?_ (fun _ _ h => h);refine sc_body Tryz.cfgOk shape_fn rfl ?_;refine Z28 ?_;refine kK Tryz.cfgOk hS ?_;refine Z28 (Z28 ?_);refine kK Tryz.cfgOk hS ?_;refine Z2s (Z28 ?_);refine Z27 Tryz.cfgOk hS ?_;refine aT (fun h1 => ?_) (fun h1 => ?_)
 ·have c2e : ((op : Int) == 0) = true := Eq.trans Z3 h1;clear h1;have c2 : (op : Int) = 0 := eq_of_beq c2e;clear c2e;refine aN ?_;refine kT ?_;refine Z28 ?_;refine kK Tryz.cfgOk hS ?_;refine Z2a ?_;exact ⟨[.string (bstr [97, 110]), .bool true], Z3, .tuple (.cons (fs_to (Z2b rfl) (congrArg Value.string Zb)) (.cons (fs_to (Z2b rfl) (congrArg Value.bool Zb)) (.nil))), Zle⟩
 ·have c2e : ((op : Int) == 0) = false := Eq.trans Z3 h1;clear h1;have c2 : ¬ (op : Int) = 0 := ne_of_beq_false c2e;clear c2e;refine aN ?_;refine kF ?_;refine Z28 ?_;refine Z27 Tryz.cfgOk hS ?_;refine aT (fun h3 => ?_) (fun h3 => ?_)
  ·have c4e : ((op : Int) == 1) = true := Eq.trans Z3 h3;clear h3;have c4 : (op : Int) = 1 := eq_of_beq c4e;clear c4e;refine aN ?_;refine kT ?_;refine Z28 ?_;refine kK Tryz.cfgOk hS ?_;refine Z2a ?_;exact ⟨[.string (bstr [97, 98]), .bool true], Z3, .tuple (.cons (fs_to (Z2b rfl) (congrArg Value.string Zb)) (.cons (fs_to (Z2b rfl) (congrArg Value.bool Zb)) (.nil))), Zle⟩
  ·have c4e : ((op : Int) == 1) = false := Eq.trans Z3 h3;clear h3;have c4 : ¬ (op : Int) = 1 := ne_of_beq_false c4e;clear c4e;refine aN ?_;refine kF ?_;refine Z28 (Z28 ?_);refine Z27 Tryz.cfgOk hS ?_;refine aT (fun h5 => ?_) (fun h5 => ?_)
   ·have c6e : ((op : Int) == 2) = true := Eq.trans Z3 h5;clear h5;have c6 : (op : Int) = 2 := eq_of_beq c6e;clear c6e;refine aN ?_;refine kT ?_;refine Z2c ?_;refine kT ?_;refine Z28 ?_;refine kK Tryz.cfgOk hS ?_;refine Z2a ?_;exact ⟨[.string (bstr [97, 98, 99]), .bool true], Z3, .tuple (.cons (fs_to (Z2b rfl) (congrArg Value.string Zb)) (.cons (fs_to (Z2b rfl) (congrArg Value.bool Zb)) (.nil))), Zle⟩
   ·have c6e : ((op : Int) == 2) = false := Eq.trans Z3 h5;clear h5;have c6 : ¬ (op : Int) = 2 := ne_of_beq_false c6e;clear c6e;refine aN ?_;refine kF ?_;refine Z28 ?_;refine Z27 Tryz.cfgOk hS ?_;refine aT (fun h7 => ?_) (fun h7 => ?_)
    ·have c8e : ((op : Int) == 3) = true := Eq.trans Z3 h7;clear h7;have c8 : (op : Int) = 3 := eq_of_beq c8e;clear c8e;refine aN ?_;refine kT ?_;refine Z2c ?_;refine kT ?_;refine Z28 ?_;refine kK Tryz.cfgOk hS ?_;refine Z2a ?_;exact ⟨[.string (bstr [97, 98, 99]), .bool true], Z3, .tuple (.cons (fs_to (Z2b rfl) (congrArg Value.string Zb)) (.cons (fs_to (Z2b rfl) (congrArg Value.bool Zb)) (.nil))), Zle⟩
    ·have c8e : ((op : Int) == 3) = false := Eq.trans Z3 h7;clear h7;have c8 : ¬ (op : Int) = 3 := ne_of_beq_false c8e;clear c8e;refine aN ?_;refine kF ?_;refine Z28 ?_;refine Z27 Tryz.cfgOk hS ?_;refine aT (fun h9 => ?_) (fun h9 => ?_)
     ·have c10e : ((op : Int) == 4) = true := Eq.trans Z3 h9;clear h9;have c10 : (op : Int) = 4 := eq_of_beq c10e;clear c10e;refine aN ?_;refine kT ?_;refine Z2c ?_;refine kT ?_;refine Z28 ?_;refine kK Tryz.cfgOk hS ?_;refine Z2a ?_;exact ⟨[.string (bstr [97, 98, 99]), .bool true], Z3, .tuple (.cons (fs_to (Z2b rfl) (congrArg Value.string Zb)) (.cons (fs_to (Z2b rfl) (congrArg Value.bool Zb)) (.nil))), Zle⟩
     ·have c10e : ((op : Int) == 4) = false := Eq.trans Z3 h9;clear h9;have c10 : ¬ (op : Int) = 4 := ne_of_beq_false c10e;clear c10e;refine aN ?_;refine kF ?_;refine Z28 ?_;refine Z27 Tryz.cfgOk hS ?_;refine aT (fun h11 => ?_) (fun h11 => ?_)
      ·have c12e : ((op : Int) == 5) = true := Eq.trans Z3 h11;clear h11;have c12 : (op : Int) = 5 := eq_of_beq c12e;clear c12e;refine aN ?_;refine kT ?_;refine Z2c ?_;refine kT ?_;refine Z28 ?_;refine kK Tryz.cfgOk hS ?_;refine Z2a ?_;exact ⟨[.string (bstr [97, 98, 99]), .bool true], Z3, .tuple (.cons (fs_to (Z2b rfl) (congrArg Value.string Zb)) (.cons (fs_to (Z2b rfl) (congrArg Value.bool Zb)) (.nil))), Zle⟩
      ·have c12e : ((op : Int) == 5) = false := Eq.trans Z3 h11;clear h11;have c12 : ¬ (op : Int) = 5 := ne_of_beq_false c12e;clear c12e;refine aN ?_;refine kF ?_;refine Z27 Tryz.cfgOk hS ?_;refine aT (fun h13 => ?_) (fun h13 => ?_)
       ·have c14e : ((op : Int) == 6) = true := Eq.trans Z3 h13;clear h13;have c14 : (op : Int) = 6 := eq_of_beq c14e;clear c14e;refine aN ?_;refine kT ?_;refine Z28 ?_;refine kK Tryz.cfgOk hS ?_;refine Z2a ?_;exact ⟨[.string (bstr [97, 98, 99]), .bool true], Z3, .tuple (.cons (fs_to (Z2b rfl) (congrArg Value.string Zb)) (.cons (fs_to (Z2b rfl) (congrArg Value.bool Zb)) (.nil))), Zle⟩
       ·have c14e : ((op : Int) == 6) = false := Eq.trans Z3 h13;clear h13;have c14 : ¬ (op : Int) = 6 := ne_of_beq_false c14e;clear c14e;refine aN ?_;refine kF ?_;refine Z28 (Z28 ?_);refine Z27 Tryz.cfgOk hS ?_;refine aT (fun h15 => ?_) (fun h15 => ?_)
        ·have c16e : ((op : Int) == 7) = true := Eq.trans Z3 h15;clear h15;have c16 : (op : Int) = 7 := eq_of_beq c16e;clear c16e;refine aN ?_;refine kT ?_;refine Z2c ?_;refine kT ?_;refine Z28 ?_;refine kK Tryz.cfgOk hS ?_;refine Z2a ?_;exact ⟨[.string (bstr [97, 116, 98]), .bool true], Z3, .tuple (.cons (fs_to (Z2b rfl) (congrArg Value.string Zb)) (.cons (fs_to (Z2b rfl) (congrArg Value.bool Zb)) (.nil))), Zle⟩
        ·have c16e : ((op : Int) == 7) = false := Eq.trans Z3 h15;clear h15;have c16 : ¬ (op : Int) = 7 := ne_of_beq_false c16e;clear c16e;refine aN ?_;refine kF ?_;refine Z27 Tryz.cfgOk hS ?_;refine aT (fun h17 => ?_) (fun h17 => ?_)
         ·have c18e : ((op : Int) == 8) = true := Eq.trans Z3 h17;clear h17;have c18 : (op : Int) = 8 := eq_of_beq c18e;clear c18e;refine aN ?_;refine kT ?_;refine Z28 ?_;refine kK Tryz.cfgOk hS ?_;refine Z2a ?_;exact ⟨[.string (bstr [97, 116, 98]), .bool true], Z3, .tuple (.cons (fs_to (Z2b rfl) (congrArg Value.string Zb)) (.cons (fs_to (Z2b rfl) (congrArg Value.bool Zb)) (.nil))), Zle⟩
         ·have c18e : ((op : Int) == 8) = false := Eq.trans Z3 h17;clear h17;have c18 : ¬ (op : Int) = 8 := ne_of_beq_false c18e;clear c18e;refine aN ?_;refine kF ?_;refine Z28 ?_;refine Z27 Tryz.cfgOk hS ?_;refine aT (fun h19 => ?_) (fun h19 => ?_)
          ·have c20e : ((op : Int) == 9) = true := Eq.trans Z3 h19;clear h19;have c20 : (op : Int) = 9 := eq_of_beq c20e;clear c20e;refine aN ?_;refine kT ?_;refine Z28 ?_;refine kK Tryz.cfgOk hS ?_;refine Z2a ?_;exact ⟨[.string (bstr [116, 98, 97]), .bool true], Z3, .tuple (.cons (fs_to (Z2b rfl) (congrArg Value.string Zb)) (.cons (fs_to (Z2b rfl) (congrArg Value.bool Zb)) (.nil))), Zle⟩
          ·have c20e : ((op : Int) == 9) = false := Eq.trans Z3 h19;clear h19;have c20 : ¬ (op : Int) = 9 := ne_of_beq_false c20e;clear c20e;refine aN ?_;refine kF ?_;refine Z28 ?_;refine Z27 Tryz.cfgOk hS ?_;refine aT (fun h21 => ?_) (fun h21 => ?_)
           ·have c22e : ((op : Int) == 10) = true := Eq.trans Z3 h21;clear h21;have c22 : (op : Int) = 10 := eq_of_beq c22e;clear c22e;refine aN ?_;refine kT ?_;refine Z28 ?_;refine kK Tryz.cfgOk hS ?_;refine Z2a ?_;exact ⟨[.string (bstr [116, 98]), .bool true], Z3, .tuple (.cons (fs_to (Z2b rfl) (congrArg Value.string Zb)) (.cons (fs_to (Z2b rfl) (congrArg Value.bool Zb)) (.nil))), Zle⟩
           ·have c22e : ((op : Int) == 10) = false := Eq.trans Z3 h21;clear h21;have c22 : ¬ (op : Int) = 10 := ne_of_beq_false c22e;clear c22e;refine aN ?_;refine kF ?_;refine Z28 (Z28 ?_);refine Z27 Tryz.cfgOk hS ?_;refine aT (fun h23 => ?_) (fun h23 => ?_)
            ·have c24e : ((op : Int) == 11) = true := Eq.trans Z3 h23;clear h23;have c24 : (op : Int) = 11 := eq_of_beq c24e;clear c24e;refine aN ?_;refine kT ?_;refine Z2c ?_;refine kT ?_;refine Z28 ?_;refine kK Tryz.cfgOk hS ?_;refine Z2a ?_;exact ⟨[.string (bstr [97, 116, 98, 99, 107]), .bool true], Z3, .tuple (.cons (fs_to (Z2b rfl) (congrArg Value.string Zb)) (.cons (fs_to (Z2b rfl) (congrArg Value.bool Zb)) (.nil))), Zle⟩
            ·have c24e : ((op : Int) == 11) = false := Eq.trans Z3 h23;clear h23;have c24 : ¬ (op : Int) = 11 := ne_of_beq_false c24e;clear c24e;refine aN ?_;refine kF ?_;refine Z27 Tryz.cfgOk hS ?_;refine aT (fun h25 => ?_) (fun h25 => ?_)
             ·have c26e : ((op : Int) == 12) = true := Eq.trans Z3 h25;clear h25;have c26 : (op : Int) = 12 := eq_of_beq c26e;clear c26e;refine aN ?_;refine kT ?_;refine Z28 ?_;refine kK Tryz.cfgOk hS ?_;refine Z2a ?_;exact ⟨[.string (bstr [97, 116, 98, 99, 107]), .bool true], Z3, .tuple (.cons (fs_to (Z2b rfl) (congrArg Value.string Zb)) (.cons (fs_to (Z2b rfl) (congrArg Value.bool Zb)) (.nil))), Zle⟩
             ·have c26e : ((op : Int) == 12) = false := Eq.trans Z3 h25;clear h25;have c26 : ¬ (op : Int) = 12 := ne_of_beq_false c26e;clear c26e;refine aN ?_;refine kF ?_;refine Z28 ?_;refine Z27 Tryz.cfgOk hS ?_;refine aT (fun h27 => ?_) (fun h27 => ?_)
              ·have c28e : ((op : Int) == 13) = true := Eq.trans Z3 h27;clear h27;have c28 : (op : Int) = 13 := eq_of_beq c28e;clear c28e;refine aN ?_;refine kT ?_;refine Z28 ?_;refine kK Tryz.cfgOk hS ?_;refine Z2a ?_;exact ⟨[.string (bstr [115, 98, 106, 99]), .bool true], Z3, .tuple (.cons (fs_to (Z2b rfl) (congrArg Value.string Zb)) (.cons (fs_to (Z2b rfl) (congrArg Value.bool Zb)) (.nil))), Zle⟩
              ·have c28e : ((op : Int) == 13) = false := Eq.trans Z3 h27;clear h27;have c28 : ¬ (op : Int) = 13 := ne_of_beq_false c28e;clear c28e;refine aN ?_;refine kF ?_;refine Z28 ?_;refine Z27 Tryz.cfgOk hS ?_;refine aT (fun h29 => ?_) (fun h29 => ?_)
               ·have c30e : ((op : Int) == 14) = true := Eq.trans Z3 h29;clear h29;have c30 : (op : Int) = 14 := eq_of_beq c30e;clear c30e;refine aN ?_;refine kT ?_;refine Z28 ?_;refine kK Tryz.cfgOk hS ?_;refine Z2a ?_;exact ⟨[.string (bstr [98, 106, 99]), .bool true], Z3, .tuple (.cons (fs_to (Z2b rfl) (congrArg Value.string Zb)) (.cons (fs_to (Z2b rfl) (congrArg Value.bool Zb)) (.nil))), Zle⟩
               ·have c30e : ((op : Int) == 14) = false := Eq.trans Z3 h29;clear h29;have c30 : ¬ (op : Int) = 14 := ne_of_beq_false c30e;clear c30e;refine aN ?_;refine kF ?_;refine Z28 ?_;refine Z27 Tryz.cfgOk hS ?_;refine aT (fun h31 => ?_) (fun h31 => ?_)
                ·have c32e : ((op : Int) == 15) = true := Eq.trans Z3 h31;clear h31;have c32 : (op : Int) = 15 := eq_of_beq c32e;clear c32e;refine aN ?_;refine kT ?_;refine Z28 ?_;refine kK Tryz.cfgOk hS ?_;refine Z2a ?_;exact ⟨[.string (bstr [97]), .bool true], Z3, .tuple (.cons (fs_to (Z2b rfl) (congrArg Value.string Zb)) (.cons (fs_to (Z2b rfl) (congrArg Value.bool Zb)) (.nil))), Zle⟩
                ·have c32e : ((op : Int) == 15) = false := Eq.trans Z3 h31;clear h31;have c32 : ¬ (op : Int) = 15 := ne_of_beq_false c32e;clear c32e;refine aN ?_;refine kF ?_;refine Z2c (Z28 ?_);refine kK Tryz.cfgOk hS ?_;refine Z2a ?_;exact ⟨[.string (bstr []), .bool false], Z3, .tuple (.cons (fs_to (Z2b rfl) (congrArg Value.string Zb)) (.cons (fs_to (Z2b rfl) (congrArg Value.bool Zb)) (.nil))), Zle⟩
noncomputable def con_shape : Con Tryz.prog 135000004004000 := Con.pure (α := Int) 28 (fun z9 => [.int .i64 z9]) (fun z9 => .tuple #[.string (bstr (shp z9)), .bool (decide (0 ≤ z9 ∧ z9 ≤ 15))]) (fun z9 => True) (by
 intro x y h
 simp only [injA] at h
 first | exact h | (simp only [Prod.ext_iff, h, and_self, and_true, true_and]; done) | simp_all [Prod.ext_iff]) (fun _ => rfl) (fun _ => rfl) 400 (by
 rintro x _
 exact shape_sc x )
theorem con_shape_at (op : Int)  (s : St) : con_shape.rel [.int .i64 op] s (.tuple #[.string (bstr (shp op)), .bool (decide (0 ≤ op ∧ op ≤ 15))]) s := con_pure op trivial s
theorem field_fn : Tryz.cfg.fn 30 = some Tryz.f30 := Z3
theorem field_sc (x : UInt8) (r : Code)  : SC Tryz.prog 135000004004000 30 [.pointer (some ⟨0, 0, none⟩), .int .u8 ((x.toNat : Nat) : Int)] ((St.empty 0).new (.cells (Z29 r))) fun v s' => v = .pointer (some ⟨0, (offL x), none⟩) ∧ s'.n ≤ 400 ∧ ∀ a, a < 1 → s'.get a = some (objL [.cells (Z29 r)] a) := by
 have hS := Z2q Tryz.cfgOk 300;refine sc_body Tryz.cfgOk field_fn rfl ?_;refine Z28 ?_;refine kK Tryz.cfgOk hS ?_;refine Z28 (Z28 ?_);refine kK Tryz.cfgOk hS ?_;refine Z2s (Z28 (Z28 ?_));refine Z27 Tryz.cfgOk hS ?_;refine aT (fun h1 => ?_) (fun h1 => ?_)
 ·have c2e : ((((x.toNat : Nat) : Int) : Int) == 97) = true := Eq.trans Z3 h1;clear h1;have c2 : (((x.toNat : Nat) : Int) : Int) = 97 := eq_of_beq c2e;clear c2e;refine aN ?_;refine kT ?_;refine Z2c ?_;refine kT ?_;refine Z28 ?_;refine kK Tryz.cfgOk hS ?_;refine Z2a ?_;exact ⟨[.pointer (some ⟨0, 1, none⟩)], Z3, by refine congrArg (fun o => Value.pointer (some ⟨0, o, none⟩)) ?_; unfold offL; first | (rw [if_pos Z4]; done) | (rw [if_neg Z4, if_pos Z4]; done) | (rw [if_neg Z4, if_neg Z4, if_pos Z4]; done) | (rw [if_neg Z4, if_neg Z4, if_neg Z4, if_pos Z4]; done) | (rw [if_neg Z4, if_neg Z4, if_neg Z4, if_neg Z4]), Zle, all1 Z3⟩
 ·have c2e : ((((x.toNat : Nat) : Int) : Int) == 97) = false := Eq.trans Z3 h1;clear h1;have c2 : ¬ (((x.toNat : Nat) : Int) : Int) = 97 := ne_of_beq_false c2e;clear c2e;refine aN ?_;refine kF ?_;refine Z27 Tryz.cfgOk hS ?_;refine aT (fun h3 => ?_) (fun h3 => ?_)
  ·have c4e : ((((x.toNat : Nat) : Int) : Int) == 115) = true := Eq.trans Z3 h3;clear h3;have c4 : (((x.toNat : Nat) : Int) : Int) = 115 := eq_of_beq c4e;clear c4e;refine aN ?_;refine kT ?_;refine Z28 ?_;refine kK Tryz.cfgOk hS ?_;refine Z2a ?_;exact ⟨[.pointer (some ⟨0, 1, none⟩)], Z3, by refine congrArg (fun o => Value.pointer (some ⟨0, o, none⟩)) ?_; unfold offL; first | (rw [if_pos Z4]; done) | (rw [if_neg Z4, if_pos Z4]; done) | (rw [if_neg Z4, if_neg Z4, if_pos Z4]; done) | (rw [if_neg Z4, if_neg Z4, if_neg Z4, if_pos Z4]; done) | (rw [if_neg Z4, if_neg Z4, if_neg Z4, if_neg Z4]), Zle, all1 Z3⟩
  ·have c4e : ((((x.toNat : Nat) : Int) : Int) == 115) = false := Eq.trans Z3 h3;clear h3;have c4 : ¬ (((x.toNat : Nat) : Int) : Int) = 115 := ne_of_beq_false c4e;clear c4e;refine aN ?_;refine kF ?_;refine Z28 ?_;refine Z27 Tryz.cfgOk hS ?_;refine aT (fun h5 => ?_) (fun h5 => ?_)
   ·have c6e : ((((x.toNat : Nat) : Int) : Int) == 98) = true := Eq.trans Z3 h5;clear h5;have c6 : (((x.toNat : Nat) : Int) : Int) = 98 := eq_of_beq c6e;clear c6e;refine aN ?_;refine kT ?_;refine Z28 ?_;refine kK Tryz.cfgOk hS ?_;refine Z2a ?_;exact ⟨[.pointer (some ⟨0, 2, none⟩)], Z3, by refine congrArg (fun o => Value.pointer (some ⟨0, o, none⟩)) ?_; unfold offL; first | (rw [if_pos Z4]; done) | (rw [if_neg Z4, if_pos Z4]; done) | (rw [if_neg Z4, if_neg Z4, if_pos Z4]; done) | (rw [if_neg Z4, if_neg Z4, if_neg Z4, if_pos Z4]; done) | (rw [if_neg Z4, if_neg Z4, if_neg Z4, if_neg Z4]), Zle, all1 Z3⟩
   ·have c6e : ((((x.toNat : Nat) : Int) : Int) == 98) = false := Eq.trans Z3 h5;clear h5;have c6 : ¬ (((x.toNat : Nat) : Int) : Int) = 98 := ne_of_beq_false c6e;clear c6e;refine aN ?_;refine kF ?_;refine Z28 ?_;refine Z27 Tryz.cfgOk hS ?_;refine aT (fun h7 => ?_) (fun h7 => ?_)
    ·have c8e : ((((x.toNat : Nat) : Int) : Int) == 99) = true := Eq.trans Z3 h7;clear h7;have c8 : (((x.toNat : Nat) : Int) : Int) = 99 := eq_of_beq c8e;clear c8e;refine aN ?_;refine kT ?_;refine Z28 ?_;refine kK Tryz.cfgOk hS ?_;refine Z2a ?_;exact ⟨[.pointer (some ⟨0, 3, none⟩)], Z3, by refine congrArg (fun o => Value.pointer (some ⟨0, o, none⟩)) ?_; unfold offL; first | (rw [if_pos Z4]; done) | (rw [if_neg Z4, if_pos Z4]; done) | (rw [if_neg Z4, if_neg Z4, if_pos Z4]; done) | (rw [if_neg Z4, if_neg Z4, if_neg Z4, if_pos Z4]; done) | (rw [if_neg Z4, if_neg Z4, if_neg Z4, if_neg Z4]), Zle, all1 Z3⟩
    ·have c8e : ((((x.toNat : Nat) : Int) : Int) == 99) = false := Eq.trans Z3 h7;clear h7;have c8 : ¬ (((x.toNat : Nat) : Int) : Int) = 99 := ne_of_beq_false c8e;clear c8e;refine aN ?_;refine kF ?_;refine Z28 ?_;refine Z27 Tryz.cfgOk hS ?_;refine aT (fun h9 => ?_) (fun h9 => ?_)
     ·have c10e : ((((x.toNat : Nat) : Int) : Int) == 116) = true := Eq.trans Z3 h9;clear h9;have c10 : (((x.toNat : Nat) : Int) : Int) = 116 := eq_of_beq c10e;clear c10e;refine aN ?_;refine kT ?_;refine Z28 ?_;refine kK Tryz.cfgOk hS ?_;refine Z2a ?_;exact ⟨[.pointer (some ⟨0, 4, none⟩)], Z3, by refine congrArg (fun o => Value.pointer (some ⟨0, o, none⟩)) ?_; unfold offL; first | (rw [if_pos Z4]; done) | (rw [if_neg Z4, if_pos Z4]; done) | (rw [if_neg Z4, if_neg Z4, if_pos Z4]; done) | (rw [if_neg Z4, if_neg Z4, if_neg Z4, if_pos Z4]; done) | (rw [if_neg Z4, if_neg Z4, if_neg Z4, if_neg Z4]), Zle, all1 Z3⟩
     ·have c10e : ((((x.toNat : Nat) : Int) : Int) == 116) = false := Eq.trans Z3 h9;clear h9;have c10 : ¬ (((x.toNat : Nat) : Int) : Int) = 116 := ne_of_beq_false c10e;clear c10e;refine aN ?_;refine kF ?_;refine Z2c (Z28 ?_);refine kK Tryz.cfgOk hS ?_;refine Z2a ?_;exact ⟨[.pointer (some ⟨0, 5, none⟩)], Z3, by refine congrArg (fun o => Value.pointer (some ⟨0, o, none⟩)) ?_; unfold offL; first | (rw [if_pos Z4]; done) | (rw [if_neg Z4, if_pos Z4]; done) | (rw [if_neg Z4, if_neg Z4, if_pos Z4]; done) | (rw [if_neg Z4, if_neg Z4, if_neg Z4, if_pos Z4]; done) | (rw [if_neg Z4, if_neg Z4, if_neg Z4, if_neg Z4]), Zle, all1 Z3⟩
noncomputable def sm_field : Small Tryz.prog 135000004004000 30 (UInt8 × Code) where
 k := 1
 A := fun z9 ρ => [.pointer (some ⟨(ρ 0), 0, none⟩), .int .u8 ((z9.1.toNat : Nat) : Int)]
 M := fun z9 ρ => objL [.cells (Z29 z9.2)]
 M1 := fun z9 ρ => objL [.cells (Z29 z9.2)]
 V := fun z9 ρ => .pointer (some ⟨(ρ 0), (offL z9.1), none⟩)
 Pre := fun z9 => True
 ch := []
 N := 400
 s0 := fun z9 => ((St.empty 0).new (.cells (Z29 z9.2)))
 hch := by decide
 hsame := fun x ρ => all1 (fun _ => rfl)
 hG := rfl
 hn := fun x => rfl
 hwf := fun x => ((Z2d 0).new _)
 hget := fun x => all1 (by kernel_rfl)
 noloop := fun x ρ => all1 (fun h => h.elim)
 inA := fun x ρ R hR => .cons (.ptr (hR 0 _ (by decide))) (.cons (sub_clo rfl) .nil)
 inM := fun x ρ R hR => all1 (OSub.cells (subs_clo (Z2i _)))
 outM := fun x ρ R hR => all1 (OSub.cells (subs_clo (Z2i _)))
 outV := fun x ρ R hR => .ptr (hR 0 _ (by decide))
 dom := by
  intro x ρ a ha
  cases ha
 sc := by
  rintro ⟨a0, a1⟩ _
  exact field_sc a0 a1
 det := by
  rintro ⟨a0, a1⟩ ρ ⟨b0, b1⟩ σ s h hm hm'
  simp only [injA, injB, ccells_eq] at h
  have q0 : ρ 0 = σ 0 := by simp_all
  have e0 := (hm 0 (by decide)).symm.trans ((congrArg s.get q0).trans (hm' 0 (by decide)))
  simp only [objL, List.getD_cons_zero, List.getD_cons_succ, injA, injB, ccells_eq] at e0
  have q : ∀ a, a < 1 → ρ a = σ a := all1 q0
  clear hm hm'
  exact ⟨by first | rfl | (simp_all [Prod.ext_iff]; done) | exact e0, q⟩
 par := by
  intro x ρ σ h
  have h0 := h 0 (by decide)
  exact ⟨by first | rfl | simp only [h0], by first | exact fun _ _ => rfl | (intro a ha; simp only [h0])⟩
noncomputable def con_field : Con Tryz.prog 135000004004000 := sm_field.con
theorem con_field_at (x : UInt8) (r : Code) (i0 : Nat)  (s : St) (hn : nodupB [i0] = true) (m0 : s.get i0 = some (.cells (Z29 r))) : con_field.rel [.pointer (some ⟨i0, 0, none⟩), .int .u8 ((x.toNat : Nat) : Int)] s (.pointer (some ⟨i0, (offL x), none⟩)) s :=
 sm_field.at_ (x, r) [i0] s _ trivial rfl hn rfl (all1 m0) rfl rfl
def relB (n : Int) : List UInt8 := if n = 0 then [60] else if n = 1 then [61] else if n = 2 then [62] else if n = 3 then [60, 62] else [63]
theorem relB_len (n : Int) : (relB n).length ≤ 21 := by unfold relB; (repeat' split) <;> decide
def wordP (x : UInt8) (n : Int) : List UInt8 := if x.toNat = 97 ∨ x.toNat = 98 ∨ x.toNat = 99 then 114 :: Lib.itoa n else if x.toNat = 116 then 116 :: Lib.itoa n else if x.toNat = 106 then relB n else Lib.itoa n
theorem wordP_len {x : UInt8} {n : Int} (h : in64 n) : (wordP x n).length ≤ 22 := by
 have := itoa_len h;have := relB_len n;unfold wordP
 (repeat' split) <;> (try simp only [List.length_cons]) <;> omega
def inC (c : Code) : Prop := in64 c.1 ∧ in64 c.2.1 ∧ in64 c.2.2.1 ∧ in64 c.2.2.2.1 ∧ in64 c.2.2.2.2.1 ∧ in64 c.2.2.2.2.2
theorem fld_in {x : UInt8} {c : Code} (h : inC c) : in64 (fld x c) := by
 obtain ⟨_, h1, h2, h3, h4, h5⟩ := h;unfold fld;repeat' split
 all_goals assumption
def wordsL : List (List UInt8) := [[115, 101, 116], [109, 111, 118, 101], [97, 100, 100], [115, 117, 98], [109, 117, 108], [100, 105, 118], [109, 111, 100], [103, 101, 116], [104, 97, 115], [112, 117, 116], [100, 101, 108], [115, 117, 109], [99, 111, 117, 110, 116], [115, 107, 105, 112], [97, 98, 111, 114, 116], [111, 117, 116]]
def wordB (op : Int) : List UInt8 := if 0 ≤ op ∧ op < 16 then wordsL.getD op.toNat [] else []
theorem wordB_at {op : Int} {x : List UInt8} (h0 : 0 ≤ op) (hx : wordsL[op.toNat]? = some x) : wordB op = x := by
 have := (List.getElem?_eq_some_iff.1 hx).1;have e : wordsL.length = 16 := rfl;rw [wordB, if_pos ⟨h0, Z4⟩, List.getD_eq_getElem?_getD, hx];rfl
theorem wordB_no {op : Int} (h : ¬ (0 ≤ op ∧ op < 16)) : wordB op = [] := if_neg h
theorem words_ne : ∀ x ∈ wordsL, x ≠ [] ∧ x.length ≤ 5 := Zj
theorem wordB_len (op : Int) : (wordB op).length ≤ 5 := by
 by_cases h : 0 ≤ op ∧ op < 16
 ·have e : wordsL.length = 16 := rfl;obtain ⟨x, hx⟩ : ∃ x, wordsL[op.toNat]? = some x := ⟨_, List.getElem?_eq_getElem Z4⟩;rw [wordB_at h.1 hx];exact (words_ne x (List.mem_of_getElem? hx)).2
 ·rw [wordB_no h]; decide
theorem relation_fn : Tryz.cfg.fn 58 = some Tryz.f58 := Z3
theorem relation_sc (n : Int)  : SC Tryz.prog 135000004004000 58 [.int .i64 n] (St.empty 0) fun v s' => v = .string (bstr (relB n)) ∧ s'.n ≤ 400 := by
 have hS := Z2q Tryz.cfgOk 300;refine sc_ice0 (N := 400) (v2 := .string (bstr (relB n))) (Q := fun v s' => FS 0 s' v (.string (bstr (relB n))) ∧ s'.n ≤ 400) ?_ (fun _ _ h => h);refine sc_body Tryz.cfgOk relation_fn rfl ?_;refine Z28 ?_;refine kK Tryz.cfgOk hS ?_;refine Z28 (Z28 ?_);refine kK Tryz.cfgOk hS ?_;refine Z2s (Z28 ?_);refine Z27 Tryz.cfgOk hS ?_;refine aT (fun h1 => ?_) (fun h1 => ?_)
 ·have c2e : ((n : Int) == 0) = true := Eq.trans Z3 h1;clear h1;have c2 : (n : Int) = 0 := eq_of_beq c2e;clear c2e;refine aN ?_;refine kT ?_;refine Z28 ?_;refine kK Tryz.cfgOk hS ?_;refine Z2a ?_;exact ⟨[.string (bstr [60])], Z3, fs_to (Z2b rfl) (congrArg Value.string Zd), Zle⟩
 ·have c2e : ((n : Int) == 0) = false := Eq.trans Z3 h1;clear h1;have c2 : ¬ (n : Int) = 0 := ne_of_beq_false c2e;clear c2e;refine aN ?_;refine kF ?_;refine Z28 ?_;refine Z27 Tryz.cfgOk hS ?_;refine aT (fun h3 => ?_) (fun h3 => ?_)
  ·have c4e : ((n : Int) == 1) = true := Eq.trans Z3 h3;clear h3;have c4 : (n : Int) = 1 := eq_of_beq c4e;clear c4e;refine aN ?_;refine kT ?_;refine Z28 ?_;refine kK Tryz.cfgOk hS ?_;refine Z2a ?_;exact ⟨[.string (bstr [61])], Z3, fs_to (Z2b rfl) (congrArg Value.string Zd), Zle⟩
  ·have c4e : ((n : Int) == 1) = false := Eq.trans Z3 h3;clear h3;have c4 : ¬ (n : Int) = 1 := ne_of_beq_false c4e;clear c4e;refine aN ?_;refine kF ?_;refine Z28 ?_;refine Z27 Tryz.cfgOk hS ?_;refine aT (fun h5 => ?_) (fun h5 => ?_)
   ·have c6e : ((n : Int) == 2) = true := Eq.trans Z3 h5;clear h5;have c6 : (n : Int) = 2 := eq_of_beq c6e;clear c6e;refine aN ?_;refine kT ?_;refine Z28 ?_;refine kK Tryz.cfgOk hS ?_;refine Z2a ?_;exact ⟨[.string (bstr [62])], Z3, fs_to (Z2b rfl) (congrArg Value.string Zd), Zle⟩
   ·have c6e : ((n : Int) == 2) = false := Eq.trans Z3 h5;clear h5;have c6 : ¬ (n : Int) = 2 := ne_of_beq_false c6e;clear c6e;refine aN ?_;refine kF ?_;refine Z28 ?_;refine Z27 Tryz.cfgOk hS ?_;refine aT (fun h7 => ?_) (fun h7 => ?_)
    ·have c8e : ((n : Int) == 3) = true := Eq.trans Z3 h7;clear h7;have c8 : (n : Int) = 3 := eq_of_beq c8e;clear c8e;refine aN ?_;refine kT ?_;refine Z28 ?_;refine kK Tryz.cfgOk hS ?_;refine Z2a ?_;exact ⟨[.string (bstr [60, 62])], Z3, fs_to (Z2b rfl) (congrArg Value.string Zd), Zle⟩
    ·have c8e : ((n : Int) == 3) = false := Eq.trans Z3 h7;clear h7;have c8 : ¬ (n : Int) = 3 := ne_of_beq_false c8e;clear c8e;refine aN ?_;refine kF ?_;refine Z2c (Z28 ?_);refine kK Tryz.cfgOk hS ?_;refine Z2a ?_;exact ⟨[.string (bstr [63])], Z3, fs_to (Z2b rfl) (congrArg Value.string Zd), Zle⟩
noncomputable def con_relation : Con Tryz.prog 135000004004000 := Con.pure (α := Int) 58 (fun z9 => [.int .i64 z9]) (fun z9 => .string (bstr (relB z9))) (fun z9 => True) (by
 intro x y h
 simp only [injA] at h
 first | exact h | (simp only [Prod.ext_iff, h, and_self, and_true, true_and]; done) | simp_all [Prod.ext_iff]) (fun _ => rfl) (fun _ => rfl) 400 (by
 rintro x _
 exact relation_sc x )
theorem con_relation_at (n : Int)  (s : St) : con_relation.rel [.int .i64 n] s (.string (bstr (relB n))) s := con_pure n trivial s
theorem sign_fn : Tryz.cfg.fn 38 = some Tryz.f38 := Z3
theorem sign_sc (n : Int)  : SC Tryz.prog 135000004004000 38 [.int .i64 n] (St.empty 0) fun v s' => v = .string (bstr (relB n)) ∧ s'.n ≤ 400 := by
 have hS := Z2q Tryz.cfgOk 300;refine sc_ice0 (N := 400) (v2 := .string (bstr (relB n))) (Q := fun v s' => FS 0 s' v (.string (bstr (relB n))) ∧ s'.n ≤ 400) ?_ (fun _ _ h => h);refine sc_body Tryz.cfgOk sign_fn rfl ?_;refine Z28 ?_;refine kK Tryz.cfgOk hS ?_;refine Z28 (Z28 ?_);refine Z27 Tryz.cfgOk hS ?_;refine aK 1 ?_;refine aT (fun h1 => ?_) (fun h1 => ?_)
 ·have c2e : ((n : Int) == 0) = true := Eq.trans Z3 h1;clear h1;have c2 : (n : Int) = 0 := eq_of_beq c2e;clear c2e;refine Z2f ?_;refine kT ?_;refine Z28 ?_;refine kK Tryz.cfgOk hS ?_;refine Z2a ?_;exact ⟨[.string (bstr [60])], Z3, fs_to (Z2b rfl) (congrArg Value.string Zd), Zle⟩
 ·have c2e : ((n : Int) == 0) = false := Eq.trans Z3 h1;clear h1;have c2 : ¬ (n : Int) = 0 := ne_of_beq_false c2e;clear c2e;refine Z2f ?_;refine kF ?_;refine Z2c (Z28 (Z28 ?_));refine Z27 Tryz.cfgOk hS ?_;refine aK 1 ?_;refine aT (fun h3 => ?_) (fun h3 => ?_)
  ·have c4e : ((n : Int) == 1) = true := Eq.trans Z3 h3;clear h3;have c4 : (n : Int) = 1 := eq_of_beq c4e;clear c4e;refine Z2f ?_;refine kT ?_;refine Z28 ?_;refine kK Tryz.cfgOk hS ?_;refine Z2a ?_;exact ⟨[.string (bstr [61])], Z3, fs_to (Z2b rfl) (congrArg Value.string Zd), Zle⟩
  ·have c4e : ((n : Int) == 1) = false := Eq.trans Z3 h3;clear h3;have c4 : ¬ (n : Int) = 1 := ne_of_beq_false c4e;clear c4e;refine Z2f ?_;refine kF ?_;refine Z2c (Z28 (Z28 ?_));refine Z27 Tryz.cfgOk hS ?_;refine aK 1 ?_;refine aT (fun h5 => ?_) (fun h5 => ?_)
   ·have c6e : ((n : Int) == 2) = true := Eq.trans Z3 h5;clear h5;have c6 : (n : Int) = 2 := eq_of_beq c6e;clear c6e;refine Z2f ?_;refine kT ?_;refine Z28 ?_;refine kK Tryz.cfgOk hS ?_;refine Z2a ?_;exact ⟨[.string (bstr [62])], Z3, fs_to (Z2b rfl) (congrArg Value.string Zd), Zle⟩
   ·have c6e : ((n : Int) == 2) = false := Eq.trans Z3 h5;clear h5;have c6 : ¬ (n : Int) = 2 := ne_of_beq_false c6e;clear c6e;refine Z2f ?_;refine kF ?_;refine Z2c (Z28 (Z28 ?_));refine Z27 Tryz.cfgOk hS ?_;refine aK 1 ?_;refine aT (fun h7 => ?_) (fun h7 => ?_)
    ·have c8e : ((n : Int) == 3) = true := Eq.trans Z3 h7;clear h7;have c8 : (n : Int) = 3 := eq_of_beq c8e;clear c8e;refine Z2f ?_;refine kT ?_;refine Z28 ?_;refine kK Tryz.cfgOk hS ?_;refine Z2a ?_;exact ⟨[.string (bstr [60, 62])], Z3, fs_to (Z2b rfl) (congrArg Value.string Zd), Zle⟩
    ·have c8e : ((n : Int) == 3) = false := Eq.trans Z3 h7;clear h7;have c8 : ¬ (n : Int) = 3 := ne_of_beq_false c8e;clear c8e;refine Z2f ?_;refine kF ?_;refine Z2c (Z28 ?_);refine kK Tryz.cfgOk hS ?_;refine Z2a ?_;exact ⟨[.string (bstr [63])], Z3, fs_to (Z2b rfl) (congrArg Value.string Zd), Zle⟩
noncomputable def con_sign : Con Tryz.prog 135000004004000 := Con.pure (α := Int) 38 (fun z9 => [.int .i64 z9]) (fun z9 => .string (bstr (relB z9))) (fun z9 => True) (by
 intro x y h
 simp only [injA] at h
 first | exact h | (simp only [Prod.ext_iff, h, and_self, and_true, true_and]; done) | simp_all [Prod.ext_iff]) (fun _ => rfl) (fun _ => rfl) 400 (by
 rintro x _
 exact sign_sc x )
theorem con_sign_at (n : Int)  (s : St) : con_sign.rel [.int .i64 n] s (.string (bstr (relB n))) s := con_pure n trivial s
theorem itoa__sc (n : Int) (h0 : in64 n) : SC Tryz.prog 135000004004000 21 [.int .i64 n] (St.empty 0) fun v s' => v = .string (bstr (Lib.itoa n)) ∧ s'.n ≤ 400 :=
 (itoa_sc itoa_lays (f := 21) rfl Zj Z3 n h0.1 (Int.le_of_lt_add_one h0.2)).up fun _ _ h => ⟨h.1, by rw [h.2]; decide⟩
noncomputable def con_itoa_ : Con Tryz.prog 135000004004000 := Con.pure (α := Int) 21 (fun z9 => [.int .i64 z9]) (fun z9 => .string (bstr (Lib.itoa z9))) (fun z9 => (in64 z9)) (by
 intro x y h
 simp only [injA] at h
 first | exact h | (simp only [Prod.ext_iff, h, and_self, and_true, true_and]; done) | simp_all [Prod.ext_iff]) (fun _ => rfl) (fun _ => rfl) 400 (by
 rintro x p0
 exact itoa__sc x p0)
theorem con_itoa__at (n : Int) (h0 : in64 n) (s : St) : con_itoa_.rel [.int .i64 n] s (.string (bstr (Lib.itoa n))) s := con_pure n h0 s
theorem word_fn : Tryz.cfg.fn 44 = some Tryz.f44 := Z3
theorem word_sc (x : UInt8) (op : Int) (qa : Int) (qb : Int) (qc : Int) (qt : Int) (qn : Int) (h0 : inC (op, qa, qb, qc, qt, qn)) : SC Tryz.prog 135000004004000 44 [.agg #[.int .i64 op, .int .i64 qa, .int .i64 qb, .int .i64 qc, .int .i64 qt, .int .i64 qn], .int .u8 ((x.toNat : Nat) : Int)] (St.empty 0) fun v s' => v = .string (bstr (wordP x (fld x (op, qa, qb, qc, qt, qn)))) ∧ s'.n ≤ 400 := by
 obtain ⟨rc, hS, hC⟩ := rc_con (Z2q Tryz.cfgOk 300) [con_field, con_itoa_, con_relation] Z3;have hC30 := hC con_field (.head _);have hC21 := hC con_itoa_ (.tail _ (.head _));have hC58 := hC con_relation (.tail _ (.tail _ (.head _)));refine sc_ice0 (N := 400) (v2 := .string (bstr (wordP x (fld x (op, qa, qb, qc, qt, qn))))) (Q := fun v s' => FS 0 s' v (.string (bstr (wordP x (fld x (op, qa, qb, qc, qt, qn))))) ∧ s'.n ≤ 400) ?_ (fun _ _ h => h);refine sc_body Tryz.cfgOk word_fn rfl ?_;refine Z28 ?_;refine kK Tryz.cfgOk hS ?_;refine Z28 ?_;refine Z27 Tryz.cfgOk hS ?_;refine aK 1 ?_;refine aC 30 [.pointer (some ⟨0, 0, none⟩), .int .u8 ((x.toNat : Nat) : Int)] (.pointer (some ⟨0, (offL x), none⟩)) _ rfl (hC30 _ _ _ _ (con_field_at x (op, qa, qb, qc, qt, qn) 0  _ Z3 Z3 )) ?_;refine aK 1 ?_;refine aM (loadV Tryz.cfg ((St.empty 0).new (.cells [.int .i64 op, .int .i64 qa, .int .i64 qb, .int .i64 qc, .int .i64 qt, .int .i64 qn])) 3 (.pointer (some ⟨0, (offL x), none⟩))) (.int .i64 (fld x (op, qa, qb, qc, qt, qn))) (load_sym Z3 (cs := Z29 (op, qa, qb, qc, qt, qn)) Z3 (fld_at x (op, qa, qb, qc, qt, qn))) ?_;refine aN ?_;refine Z28 (Z28 ?_);refine kK Tryz.cfgOk hS ?_;refine Z2s (Z28 (Z28 ?_));refine Z27 Tryz.cfgOk hS ?_;refine aT (fun h1 => ?_) (fun h1 => ?_)
 ·have c2e : ((((x.toNat : Nat) : Int) : Int) == 97) = true := Eq.trans Z3 h1;clear h1;have c2 : (((x.toNat : Nat) : Int) : Int) = 97 := eq_of_beq c2e;clear c2e;refine aN ?_;refine kT ?_;refine Z2c ?_;refine kT ?_;refine Z28 ?_;refine Z27 Tryz.cfgOk hS ?_;refine aK 1 ?_;refine aC 21 [.int .i64 (fld x (op, qa, qb, qc, qt, qn))] (.string (bstr (Lib.itoa (fld x (op, qa, qb, qc, qt, qn))))) _ rfl (hC21 _ _ _ _ (con_itoa__at (fld x (op, qa, qb, qc, qt, qn)) Z0m _)) ?_;refine aM (strBin .add (bstr [114]) (bstr (Lib.itoa (fld x (op, qa, qb, qc, qt, qn))))) (.string (bstr ([114] ++ Lib.itoa (fld x (op, qa, qb, qc, qt, qn))))) (add_bstr Z0i) ?_;refine aN ?_;refine Z2a ?_;exact ⟨[.string (bstr ([114] ++ Lib.itoa (fld x (op, qa, qb, qc, qt, qn))))], Z3, fs_to (Z2b rfl) (congrArg Value.string Zp), Zle⟩
 ·have c2e : ((((x.toNat : Nat) : Int) : Int) == 97) = false := Eq.trans Z3 h1;clear h1;have c2 : ¬ (((x.toNat : Nat) : Int) : Int) = 97 := ne_of_beq_false c2e;clear c2e;refine aN ?_;refine kF ?_;refine Z28 ?_;refine Z27 Tryz.cfgOk hS ?_;refine aT (fun h3 => ?_) (fun h3 => ?_)
  ·have c4e : ((((x.toNat : Nat) : Int) : Int) == 98) = true := Eq.trans Z3 h3;clear h3;have c4 : (((x.toNat : Nat) : Int) : Int) = 98 := eq_of_beq c4e;clear c4e;refine aN ?_;refine kT ?_;refine Z2c ?_;refine kT ?_;refine Z28 ?_;refine Z27 Tryz.cfgOk hS ?_;refine aK 1 ?_;refine aC 21 [.int .i64 (fld x (op, qa, qb, qc, qt, qn))] (.string (bstr (Lib.itoa (fld x (op, qa, qb, qc, qt, qn))))) _ rfl (hC21 _ _ _ _ (con_itoa__at (fld x (op, qa, qb, qc, qt, qn)) Z0m _)) ?_;refine aM (strBin .add (bstr [114]) (bstr (Lib.itoa (fld x (op, qa, qb, qc, qt, qn))))) (.string (bstr ([114] ++ Lib.itoa (fld x (op, qa, qb, qc, qt, qn))))) (add_bstr Z0i) ?_;refine aN ?_;refine Z2a ?_;exact ⟨[.string (bstr ([114] ++ Lib.itoa (fld x (op, qa, qb, qc, qt, qn))))], Z3, fs_to (Z2b rfl) (congrArg Value.string Zp), Zle⟩
  ·have c4e : ((((x.toNat : Nat) : Int) : Int) == 98) = false := Eq.trans Z3 h3;clear h3;have c4 : ¬ (((x.toNat : Nat) : Int) : Int) = 98 := ne_of_beq_false c4e;clear c4e;refine aN ?_;refine kF ?_;refine Z27 Tryz.cfgOk hS ?_;refine aT (fun h5 => ?_) (fun h5 => ?_)
   ·have c6e : ((((x.toNat : Nat) : Int) : Int) == 99) = true := Eq.trans Z3 h5;clear h5;have c6 : (((x.toNat : Nat) : Int) : Int) = 99 := eq_of_beq c6e;clear c6e;refine aN ?_;refine kT ?_;refine Z28 ?_;refine Z27 Tryz.cfgOk hS ?_;refine aK 1 ?_;refine aC 21 [.int .i64 (fld x (op, qa, qb, qc, qt, qn))] (.string (bstr (Lib.itoa (fld x (op, qa, qb, qc, qt, qn))))) _ rfl (hC21 _ _ _ _ (con_itoa__at (fld x (op, qa, qb, qc, qt, qn)) Z0m _)) ?_;refine aM (strBin .add (bstr [114]) (bstr (Lib.itoa (fld x (op, qa, qb, qc, qt, qn))))) (.string (bstr ([114] ++ Lib.itoa (fld x (op, qa, qb, qc, qt, qn))))) (add_bstr Z0i) ?_;refine aN ?_;refine Z2a ?_;exact ⟨[.string (bstr ([114] ++ Lib.itoa (fld x (op, qa, qb, qc, qt, qn))))], Z3, fs_to (Z2b rfl) (congrArg Value.string Zp), Zle⟩
   ·have c6e : ((((x.toNat : Nat) : Int) : Int) == 99) = false := Eq.trans Z3 h5;clear h5;have c6 : ¬ (((x.toNat : Nat) : Int) : Int) = 99 := ne_of_beq_false c6e;clear c6e;refine aN ?_;refine kF ?_;refine Z28 ?_;refine Z27 Tryz.cfgOk hS ?_;refine aT (fun h7 => ?_) (fun h7 => ?_)
    ·have c8e : ((((x.toNat : Nat) : Int) : Int) == 116) = true := Eq.trans Z3 h7;clear h7;have c8 : (((x.toNat : Nat) : Int) : Int) = 116 := eq_of_beq c8e;clear c8e;refine aN ?_;refine kT ?_;refine Z28 ?_;refine Z27 Tryz.cfgOk hS ?_;refine aK 1 ?_;refine aC 21 [.int .i64 (fld x (op, qa, qb, qc, qt, qn))] (.string (bstr (Lib.itoa (fld x (op, qa, qb, qc, qt, qn))))) _ rfl (hC21 _ _ _ _ (con_itoa__at (fld x (op, qa, qb, qc, qt, qn)) Z0m _)) ?_;refine aM (strBin .add (bstr [116]) (bstr (Lib.itoa (fld x (op, qa, qb, qc, qt, qn))))) (.string (bstr ([116] ++ Lib.itoa (fld x (op, qa, qb, qc, qt, qn))))) (add_bstr Z0i) ?_;refine aN ?_;refine Z2a ?_;exact ⟨[.string (bstr ([116] ++ Lib.itoa (fld x (op, qa, qb, qc, qt, qn))))], Z3, fs_to (Z2b rfl) (congrArg Value.string Zp), Zle⟩
    ·have c8e : ((((x.toNat : Nat) : Int) : Int) == 116) = false := Eq.trans Z3 h7;clear h7;have c8 : ¬ (((x.toNat : Nat) : Int) : Int) = 116 := ne_of_beq_false c8e;clear c8e;refine aN ?_;refine kF ?_;refine Z28 ?_;refine Z27 Tryz.cfgOk hS ?_;refine aT (fun h9 => ?_) (fun h9 => ?_)
     ·have c10e : ((((x.toNat : Nat) : Int) : Int) == 106) = true := Eq.trans Z3 h9;clear h9;have c10 : (((x.toNat : Nat) : Int) : Int) = 106 := eq_of_beq c10e;clear c10e;refine aN ?_;refine kT ?_;refine Z28 ?_;refine Z27 Tryz.cfgOk hS ?_;refine aK 1 ?_;refine aC 58 [.int .i64 (fld x (op, qa, qb, qc, qt, qn))] (.string (bstr (relB (fld x (op, qa, qb, qc, qt, qn))))) _ rfl (hC58 _ _ _ _ (con_relation_at (fld x (op, qa, qb, qc, qt, qn))  _)) ?_;refine aN ?_;refine Z2a ?_;exact ⟨[.string (bstr (relB (fld x (op, qa, qb, qc, qt, qn))))], Z3, fs_to (Z2b rfl) (congrArg Value.string Zp), Zle⟩
     ·have c10e : ((((x.toNat : Nat) : Int) : Int) == 106) = false := Eq.trans Z3 h9;clear h9;have c10 : ¬ (((x.toNat : Nat) : Int) : Int) = 106 := ne_of_beq_false c10e;clear c10e;refine aN ?_;refine kF ?_;refine Z2c (Z28 ?_);refine Z27 Tryz.cfgOk hS ?_;refine aK 1 ?_;refine aC 21 [.int .i64 (fld x (op, qa, qb, qc, qt, qn))] (.string (bstr (Lib.itoa (fld x (op, qa, qb, qc, qt, qn))))) _ rfl (hC21 _ _ _ _ (con_itoa__at (fld x (op, qa, qb, qc, qt, qn)) Z0m _)) ?_;refine aN ?_;refine Z2a ?_;exact ⟨[.string (bstr (Lib.itoa (fld x (op, qa, qb, qc, qt, qn))))], Z3, fs_to (Z2b rfl) (congrArg Value.string Zp), Zle⟩
noncomputable def con_word : Con Tryz.prog 135000004004000 := Con.pure (α := UInt8 × Int × Int × Int × Int × Int × Int) 44 (fun z9 => [.agg #[.int .i64 z9.2.1, .int .i64 z9.2.2.1, .int .i64 z9.2.2.2.1, .int .i64 z9.2.2.2.2.1, .int .i64 z9.2.2.2.2.2.1, .int .i64 z9.2.2.2.2.2.2], .int .u8 ((z9.1.toNat : Nat) : Int)]) (fun z9 => .string (bstr (wordP z9.1 (fld z9.1 (z9.2.1, z9.2.2.1, z9.2.2.2.1, z9.2.2.2.2.1, z9.2.2.2.2.2.1, z9.2.2.2.2.2.2))))) (fun z9 => (inC (z9.2.1, z9.2.2.1, z9.2.2.2.1, z9.2.2.2.2.1, z9.2.2.2.2.2.1, z9.2.2.2.2.2.2))) (by
 rintro ⟨a0, a1, a2, a3, a4, a5, a6⟩ ⟨b0, b1, b2, b3, b4, b5, b6⟩ h
 simp only [injA] at h
 first | exact h | (simp only [Prod.ext_iff, h, and_self, and_true, true_and]; done) | simp_all [Prod.ext_iff]) (fun _ => rfl) (fun _ => rfl) 400 (by
 rintro ⟨a0, a1, a2, a3, a4, a5, a6⟩ p0
 exact word_sc a0 a1 a2 a3 a4 a5 a6 p0)
theorem con_word_at (x : UInt8) (op : Int) (qa : Int) (qb : Int) (qc : Int) (qt : Int) (qn : Int) (h0 : inC (op, qa, qb, qc, qt, qn)) (s : St) : con_word.rel [.agg #[.int .i64 op, .int .i64 qa, .int .i64 qb, .int .i64 qc, .int .i64 qt, .int .i64 qn], .int .u8 ((x.toNat : Nat) : Int)] s (.string (bstr (wordP x (fld x (op, qa, qb, qc, qt, qn))))) s := con_pure (x, op, qa, qb, qc, qt, qn) h0 s
end Go.Proofs.YtgplkbfjlidinabGreatDoor