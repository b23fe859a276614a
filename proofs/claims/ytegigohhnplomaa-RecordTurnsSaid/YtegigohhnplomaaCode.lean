/- Instructions: their shapes, their fields. -/
import Derived.Test.YtegigohhnplomaaBase
import Derived.Test.YtegigohhnplomaaKit
set_option linter.unusedVariables false
set_option linter.unusedSimpArgs false
set_option linter.unnecessarySimpa false
set_option maxHeartbeats 4000000
set_option maxRecDepth 100000
namespace Go.Proofs.Ytegigohhnplomaa
open Go.Ai
def shp (op : Int) : List UInt8 :=
 if op = 0 then [97, 110] else if op = 1 then [97, 98] else if op = 2 then [97, 98, 99] else if op = 3 then [97, 98, 99] else if op = 4 then [97, 98, 99] else if op = 5 then [97, 98, 99] else if op = 6 then [97, 98, 99]
 else if op = 7 then [97, 116, 98] else if op = 8 then [97, 116, 98] else if op = 9 then [116, 98, 97] else if op = 10 then [116, 98] else if op = 11 then [97, 116, 98, 99, 107] else if op = 12 then [97, 116, 98, 99, 107]
 else if op = 13 then [115, 98, 106, 99] else if op = 14 then [98, 106, 99] else if op = 15 then [97] else []
theorem shp_at {op k : Int} {l : List UInt8} (h : op = k) (e : shp k = l) : (⟨l.toArray⟩ : ByteArray) = bstr (shp op) := by subst h; rw [e]; rfl
theorem shp_none {op : Int} (h : ¬ (0 ≤ op ∧ op ≤ 15)) : shp op = [] := by
 unfold shp;rw [if_neg Z5, if_neg Z5, if_neg Z5, if_neg Z5, if_neg Z5, if_neg Z5, if_neg Z5, if_neg Z5, if_neg Z5, if_neg Z5, if_neg Z5, if_neg Z5, if_neg Z5, if_neg Z5, if_neg Z5, if_neg Z5]
theorem shp_ops {op : Int} (h : 0 ≤ op ∧ op ≤ 15) : op = 0 ∨ op = 1 ∨ op = 2 ∨ op = 3 ∨ op = 4 ∨ op = 5 ∨ op = 6 ∨ op = 7 ∨ op = 8 ∨ op = 9 ∨ op = 10 ∨ op = 11 ∨ op = 12 ∨ op = 13 ∨ op = 14 ∨ op = 15 := Z5
theorem shp_len (op : Int) : (shp op).length ≤ 5 := by
 by_cases h : 0 ≤ op ∧ op ≤ 15
 ·rcases shp_ops h with rfl | rfl | rfl | rfl | rfl | rfl | rfl | rfl | rfl | rfl | rfl | rfl | rfl | rfl | rfl | rfl <;> decide
 ·rw [shp_none h]; decide
def offL (x : UInt8) : Nat := if x.toNat = 97 ∨ x.toNat = 115 then 1 else if x.toNat = 98 then 2 else if x.toNat = 99 then 3 else if x.toNat = 116 then 4 else 5
def fld (x : UInt8) (c : Code) : Int := if x.toNat = 97 ∨ x.toNat = 115 then c.2.1 else if x.toNat = 98 then c.2.2.1 else if x.toNat = 99 then c.2.2.2.1 else if x.toNat = 116 then c.2.2.2.2.1 else c.2.2.2.2.2
def clr (x : UInt8) (c : Code) : Code := if x.toNat = 97 ∨ x.toNat = 115 then (c.1, 0, c.2.2) else if x.toNat = 98 then (c.1, c.2.1, 0, c.2.2.2) else if x.toNat = 99 then (c.1, c.2.1, c.2.2.1, 0, c.2.2.2.2) else if x.toNat = 116 then (c.1, c.2.1, c.2.2.1, c.2.2.2.1, 0, c.2.2.2.2.2) else (c.1, c.2.1, c.2.2.1, c.2.2.2.1, c.2.2.2.2.1, 0)
theorem offL_lt (x : UInt8) : offL x < 6 := by unfold offL; (repeat' split) <;> omega
theorem fld_at (x : UInt8) (c : Code) : (Z1w c)[offL x]? = some (.int .i64 (fld x c)) := by unfold offL fld; (repeat' split) <;> rfl
theorem clr_at (x : UInt8) (c : Code) : splice (Z1w c) (offL x) [.int .i64 0] = Z1w (clr x c) := by unfold offL clr; (repeat' split) <;> rfl
def soundP (x : UInt8) (n bh : Int) : Prop :=
 if x.toNat = 97 ∨ x.toNat = 98 ∨ x.toNat = 99 then 0 ≤ n ∧ n ≤ 7 else if x.toNat = 116 then 0 ≤ n ∧ n ≤ 3 else if x.toNat = 107 then 1 ≤ n ∧ n ≤ 64 else if x.toNat = 115 then 1 ≤ n ∧ n ≤ bh else if x.toNat = 106 then 0 ≤ n ∧ n ≤ 3 else True
def zer (l : List UInt8) (c : Code) : Code := l.foldl (fun r x => clr x r) c
theorem zer_succ {l : List UInt8} {c : Code} {i : Nat} {x : UInt8} (h : l[i]? = some x) : zer (l.take (i + 1)) c = clr x (zer (l.take i) c) := by
 rw [List.take_add_one, h];simp [zer]
theorem zer_op (l : List UInt8) : ∀ c : Code, (zer l c).1 = c.1 := by
  induction l with
  | nil => intro c; rfl
  | cons x l ih =>
    intro c;show (zer l (clr x c)).1 = c.1;rw [ih];unfold clr;repeat' split
    all_goals rfl
def goodC (c : Code) (bh : Int) : Prop := (0 ≤ c.1 ∧ c.1 ≤ 15) ∧ (∀ x ∈ shp c.1, soundP x (fld x c) bh) ∧ (zer (shp c.1) c).2 = (0, 0, 0, 0, 0)
theorem all_succ {l : List UInt8} {p : UInt8 → Prop} {i : Nat} {x : UInt8} (h : ∀ y ∈ l.take i, p y) (hx : l[i]? = some x) (hp : p x) : ∀ y ∈ l.take (i + 1), p y := by
 intro y hy;rw [List.take_add_one, hx] at hy;rcases List.mem_append.1 hy with hy | hy
 ·exact h y hy
 ·obtain rfl := List.mem_singleton.1 (by simpa using hy);exact hp
theorem within_fn : Try.cfg.fn 52 = some Try.f52 := Z1
theorem within_sc (n : Int) (lo : Int) (hi : Int)  : SC Try.prog 0 52 [.int .i64 n, .int .i64 lo, .int .i64 hi] (St.empty 0) fun v s' => v = .bool (decide (lo ≤ n ∧ n ≤ hi)) ∧ s'.n ≤ 400 := by
 have hS := Z24 Try.cfgOk 300;refine sc_ice0 (N := 400) (v2 := .bool (decide (lo ≤ n ∧ n ≤ hi))) (Q := fun v s' => FS 0 s' v (.bool (decide (lo ≤ n ∧ n ≤ hi))) ∧ s'.n ≤ 400) ?_ (fun _ _ h => h);refine Z2d Try.cfgOk within_fn rfl ?_;refine Z1u ?_;refine kK Try.cfgOk hS ?_;refine Z1u ?_;refine Z1t Try.cfgOk hS ?_;refine aK 2 ?_;refine aT (fun h1 => ?_) (fun h1 => ?_)
 ·have c2e : (decide ((n : Int) ≥ lo)) = true := Eq.trans Z1 h1;clear h1;have c2 : (n : Int) ≥ lo := of_decide_eq_true c2e;clear c2e;refine aK 3 ?_;refine aT (fun h3 => ?_) (fun h3 => ?_)
  ·have c4e : (decide ((n : Int) ≤ hi)) = true := Eq.trans Z1 h3;clear h3;have c4 : (n : Int) ≤ hi := of_decide_eq_true c4e;clear c4e;refine aN ?_;refine Z1z ?_;exact ⟨[.bool true], Z1, fs_to (Z23 rfl) (congrArg Value.bool Zj), Zle⟩
  ·have c4e : (decide ((n : Int) ≤ hi)) = false := Eq.trans Z1 h3;clear h3;have c4 : ¬ (n : Int) ≤ hi := of_decide_eq_false c4e;clear c4e;refine aN ?_;refine Z1z ?_;exact ⟨[.bool false], Z1, fs_to (Z23 rfl) (congrArg Value.bool Zj), Zle⟩
 ·have c2e : (decide ((n : Int) ≥ lo)) = false := Eq.trans Z1 h1;clear h1;have c2 : ¬ (n : Int) ≥ lo := of_decide_eq_false c2e;clear c2e;refine aN ?_;refine Z1z ?_;exact ⟨[.bool false], Z1, fs_to (Z23 rfl) (congrArg Value.bool Zj), Zle⟩
noncomputable def con_within : Con Try.prog 0 := Con.pure (α := Int × Int × Int) 52 (fun z9 => [.int .i64 z9.1, .int .i64 z9.2.1, .int .i64 z9.2.2]) (fun z9 => .bool (decide (z9.2.1 ≤ z9.1 ∧ z9.1 ≤ z9.2.2))) (fun z9 => True) (by
 rintro ⟨a0, a1, a2⟩ ⟨b0, b1, b2⟩ h
 simp only [injA] at h
 first | exact h | (simp only [Prod.ext_iff, h, and_self, and_true, true_and]; done) | simp_all [Prod.ext_iff]) (fun _ => rfl) (fun _ => rfl) 400 (by
 rintro ⟨a0, a1, a2⟩ _
 exact within_sc a0 a1 a2 )
theorem con_within_at (n : Int) (lo : Int) (hi : Int)  (s : St) : con_within.rel [.int .i64 n, .int .i64 lo, .int .i64 hi] s (.bool (decide (lo ≤ n ∧ n ≤ hi))) s := con_pure (n, lo, hi) trivial s
theorem shape_fn : Try.cfg.fn 62 = some Try.f62 := Z1
theorem shape_sc (op : Int)  : SC Try.prog 0 62 [.int .i64 op] (St.empty 0) fun v s' => v = .tuple #[.string (bstr (shp op)), .bool (decide (0 ≤ op ∧ op ≤ 15))] ∧ s'.n ≤ 400 := by
 have hS := Z24 Try.cfgOk 300;refine sc_ice0 (N := 400) (v2 := .tuple #[.string (bstr (shp op)), .bool (decide (0 ≤ op ∧ op ≤ 15))]) (Q := fun v s' => FS 0 s' v (.tuple #[.string (bstr (shp op)), .bool (decide (0 ≤ op ∧ op ≤ 15))]) ∧ s'.n ≤ 400) ?_ (fun _ _ h => h);refine Z2d Try.cfgOk shape_fn rfl ?_;refine Z1u ?_;refine kK Try.cfgOk hS ?_;refine Z1u (Z1u ?_);refine kK Try.cfgOk hS ?_;refine Z2f (Z1u ?_);refine Z1t Try.cfgOk hS ?_;refine aT (fun h1 => ?_) (fun h1 => ?_)
 ·have c2e : ((op : Int) == 0) = true := Eq.trans Z1 h1;clear h1;have c2 : (op : Int) = 0 := eq_of_beq c2e;clear c2e;refine aN ?_;refine kT ?_;refine Z1u ?_;refine kK Try.cfgOk hS ?_;refine Z1z ?_;exact ⟨[.string (⟨#[97, 110]⟩), .bool true], Z1, .tuple (.cons (fs_to (Z23 rfl) (congrArg Value.string Za)) (.cons (fs_to (Z23 rfl) (congrArg Value.bool Za)) (.nil))), Zle⟩
 ·have c2e : ((op : Int) == 0) = false := Eq.trans Z1 h1;clear h1;have c2 : ¬ (op : Int) = 0 := ne_of_beq_false c2e;clear c2e;refine aN ?_;refine kF ?_;refine Z1u ?_;refine Z1t Try.cfgOk hS ?_;refine aT (fun h3 => ?_) (fun h3 => ?_)
  ·have c4e : ((op : Int) == 1) = true := Eq.trans Z1 h3;clear h3;have c4 : (op : Int) = 1 := eq_of_beq c4e;clear c4e;refine aN ?_;refine kT ?_;refine Z1u ?_;refine kK Try.cfgOk hS ?_;refine Z1z ?_;exact ⟨[.string (⟨#[97, 98]⟩), .bool true], Z1, .tuple (.cons (fs_to (Z23 rfl) (congrArg Value.string Za)) (.cons (fs_to (Z23 rfl) (congrArg Value.bool Za)) (.nil))), Zle⟩
  ·have c4e : ((op : Int) == 1) = false := Eq.trans Z1 h3;clear h3;have c4 : ¬ (op : Int) = 1 := ne_of_beq_false c4e;clear c4e;refine aN ?_;refine kF ?_;refine Z1u (Z1u ?_);refine Z1t Try.cfgOk hS ?_;refine aT (fun h5 => ?_) (fun h5 => ?_)
   ·have c6e : ((op : Int) == 2) = true := Eq.trans Z1 h5;clear h5;have c6 : (op : Int) = 2 := eq_of_beq c6e;clear c6e;refine aN ?_;refine kT ?_;refine Z26 ?_;refine kT ?_;refine Z1u ?_;refine kK Try.cfgOk hS ?_;refine Z1z ?_;exact ⟨[.string (⟨#[97, 98, 99]⟩), .bool true], Z1, .tuple (.cons (fs_to (Z23 rfl) (congrArg Value.string Za)) (.cons (fs_to (Z23 rfl) (congrArg Value.bool Za)) (.nil))), Zle⟩
   ·have c6e : ((op : Int) == 2) = false := Eq.trans Z1 h5;clear h5;have c6 : ¬ (op : Int) = 2 := ne_of_beq_false c6e;clear c6e;refine aN ?_;refine kF ?_;refine Z1u ?_;refine Z1t Try.cfgOk hS ?_;refine aT (fun h7 => ?_) (fun h7 => ?_)
    ·have c8e : ((op : Int) == 3) = true := Eq.trans Z1 h7;clear h7;have c8 : (op : Int) = 3 := eq_of_beq c8e;clear c8e;refine aN ?_;refine kT ?_;refine Z26 ?_;refine kT ?_;refine Z1u ?_;refine kK Try.cfgOk hS ?_;refine Z1z ?_;exact ⟨[.string (⟨#[97, 98, 99]⟩), .bool true], Z1, .tuple (.cons (fs_to (Z23 rfl) (congrArg Value.string Za)) (.cons (fs_to (Z23 rfl) (congrArg Value.bool Za)) (.nil))), Zle⟩
    ·have c8e : ((op : Int) == 3) = false := Eq.trans Z1 h7;clear h7;have c8 : ¬ (op : Int) = 3 := ne_of_beq_false c8e;clear c8e;refine aN ?_;refine kF ?_;refine Z1u ?_;refine Z1t Try.cfgOk hS ?_;refine aT (fun h9 => ?_) (fun h9 => ?_)
     ·have c10e : ((op : Int) == 4) = true := Eq.trans Z1 h9;clear h9;have c10 : (op : Int) = 4 := eq_of_beq c10e;clear c10e;refine aN ?_;refine kT ?_;refine Z26 ?_;refine kT ?_;refine Z1u ?_;refine kK Try.cfgOk hS ?_;refine Z1z ?_;exact ⟨[.string (⟨#[97, 98, 99]⟩), .bool true], Z1, .tuple (.cons (fs_to (Z23 rfl) (congrArg Value.string Za)) (.cons (fs_to (Z23 rfl) (congrArg Value.bool Za)) (.nil))), Zle⟩
     ·have c10e : ((op : Int) == 4) = false := Eq.trans Z1 h9;clear h9;have c10 : ¬ (op : Int) = 4 := ne_of_beq_false c10e;clear c10e;refine aN ?_;refine kF ?_;refine Z1u ?_;refine Z1t Try.cfgOk hS ?_;refine aT (fun h11 => ?_) (fun h11 => ?_)
      ·have c12e : ((op : Int) == 5) = true := Eq.trans Z1 h11;clear h11;have c12 : (op : Int) = 5 := eq_of_beq c12e;clear c12e;refine aN ?_;refine kT ?_;refine Z26 ?_;refine kT ?_;refine Z1u ?_;refine kK Try.cfgOk hS ?_;refine Z1z ?_;exact ⟨[.string (⟨#[97, 98, 99]⟩), .bool true], Z1, .tuple (.cons (fs_to (Z23 rfl) (congrArg Value.string Za)) (.cons (fs_to (Z23 rfl) (congrArg Value.bool Za)) (.nil))), Zle⟩
      ·have c12e : ((op : Int) == 5) = false := Eq.trans Z1 h11;clear h11;have c12 : ¬ (op : Int) = 5 := ne_of_beq_false c12e;clear c12e;refine aN ?_;refine kF ?_;refine Z1t Try.cfgOk hS ?_;refine aT (fun h13 => ?_) (fun h13 => ?_)
       ·have c14e : ((op : Int) == 6) = true := Eq.trans Z1 h13;clear h13;have c14 : (op : Int) = 6 := eq_of_beq c14e;clear c14e;refine aN ?_;refine kT ?_;refine Z1u ?_;refine kK Try.cfgOk hS ?_;refine Z1z ?_;exact ⟨[.string (⟨#[97, 98, 99]⟩), .bool true], Z1, .tuple (.cons (fs_to (Z23 rfl) (congrArg Value.string Za)) (.cons (fs_to (Z23 rfl) (congrArg Value.bool Za)) (.nil))), Zle⟩
       ·have c14e : ((op : Int) == 6) = false := Eq.trans Z1 h13;clear h13;have c14 : ¬ (op : Int) = 6 := ne_of_beq_false c14e;clear c14e;refine aN ?_;refine kF ?_;refine Z1u (Z1u ?_);refine Z1t Try.cfgOk hS ?_;refine aT (fun h15 => ?_) (fun h15 => ?_)
        ·have c16e : ((op : Int) == 7) = true := Eq.trans Z1 h15;clear h15;have c16 : (op : Int) = 7 := eq_of_beq c16e;clear c16e;refine aN ?_;refine kT ?_;refine Z26 ?_;refine kT ?_;refine Z1u ?_;refine kK Try.cfgOk hS ?_;refine Z1z ?_;exact ⟨[.string (⟨#[97, 116, 98]⟩), .bool true], Z1, .tuple (.cons (fs_to (Z23 rfl) (congrArg Value.string Za)) (.cons (fs_to (Z23 rfl) (congrArg Value.bool Za)) (.nil))), Zle⟩
        ·have c16e : ((op : Int) == 7) = false := Eq.trans Z1 h15;clear h15;have c16 : ¬ (op : Int) = 7 := ne_of_beq_false c16e;clear c16e;refine aN ?_;refine kF ?_;refine Z1t Try.cfgOk hS ?_;refine aT (fun h17 => ?_) (fun h17 => ?_)
         ·have c18e : ((op : Int) == 8) = true := Eq.trans Z1 h17;clear h17;have c18 : (op : Int) = 8 := eq_of_beq c18e;clear c18e;refine aN ?_;refine kT ?_;refine Z1u ?_;refine kK Try.cfgOk hS ?_;refine Z1z ?_;exact ⟨[.string (⟨#[97, 116, 98]⟩), .bool true], Z1, .tuple (.cons (fs_to (Z23 rfl) (congrArg Value.string Za)) (.cons (fs_to (Z23 rfl) (congrArg Value.bool Za)) (.nil))), Zle⟩
         ·have c18e : ((op : Int) == 8) = false := Eq.trans Z1 h17;clear h17;have c18 : ¬ (op : Int) = 8 := ne_of_beq_false c18e;clear c18e;refine aN ?_;refine kF ?_;refine Z1u ?_;refine Z1t Try.cfgOk hS ?_;refine aT (fun h19 => ?_) (fun h19 => ?_)
          ·have c20e : ((op : Int) == 9) = true := Eq.trans Z1 h19;clear h19;have c20 : (op : Int) = 9 := eq_of_beq c20e;clear c20e;refine aN ?_;refine kT ?_;refine Z1u ?_;refine kK Try.cfgOk hS ?_;refine Z1z ?_;exact ⟨[.string (⟨#[116, 98, 97]⟩), .bool true], Z1, .tuple (.cons (fs_to (Z23 rfl) (congrArg Value.string Za)) (.cons (fs_to (Z23 rfl) (congrArg Value.bool Za)) (.nil))), Zle⟩
          ·have c20e : ((op : Int) == 9) = false := Eq.trans Z1 h19;clear h19;have c20 : ¬ (op : Int) = 9 := ne_of_beq_false c20e;clear c20e;refine aN ?_;refine kF ?_;refine Z1u ?_;refine Z1t Try.cfgOk hS ?_;refine aT (fun h21 => ?_) (fun h21 => ?_)
           ·have c22e : ((op : Int) == 10) = true := Eq.trans Z1 h21;clear h21;have c22 : (op : Int) = 10 := eq_of_beq c22e;clear c22e;refine aN ?_;refine kT ?_;refine Z1u ?_;refine kK Try.cfgOk hS ?_;refine Z1z ?_;exact ⟨[.string (⟨#[116, 98]⟩), .bool true], Z1, .tuple (.cons (fs_to (Z23 rfl) (congrArg Value.string Za)) (.cons (fs_to (Z23 rfl) (congrArg Value.bool Za)) (.nil))), Zle⟩
           ·have c22e : ((op : Int) == 10) = false := Eq.trans Z1 h21;clear h21;have c22 : ¬ (op : Int) = 10 := ne_of_beq_false c22e;clear c22e;refine aN ?_;refine kF ?_;refine Z1u (Z1u ?_);refine Z1t Try.cfgOk hS ?_;refine aT (fun h23 => ?_) (fun h23 => ?_)
            ·have c24e : ((op : Int) == 11) = true := Eq.trans Z1 h23;clear h23;have c24 : (op : Int) = 11 := eq_of_beq c24e;clear c24e;refine aN ?_;refine kT ?_;refine Z26 ?_;refine kT ?_;refine Z1u ?_;refine kK Try.cfgOk hS ?_;refine Z1z ?_;exact ⟨[.string (⟨#[97, 116, 98, 99, 107]⟩), .bool true], Z1, .tuple (.cons (fs_to (Z23 rfl) (congrArg Value.string Za)) (.cons (fs_to (Z23 rfl) (congrArg Value.bool Za)) (.nil))), Zle⟩
            ·have c24e : ((op : Int) == 11) = false := Eq.trans Z1 h23;clear h23;have c24 : ¬ (op : Int) = 11 := ne_of_beq_false c24e;clear c24e;refine aN ?_;refine kF ?_;refine Z1t Try.cfgOk hS ?_;refine aT (fun h25 => ?_) (fun h25 => ?_)
             ·have c26e : ((op : Int) == 12) = true := Eq.trans Z1 h25;clear h25;have c26 : (op : Int) = 12 := eq_of_beq c26e;clear c26e;refine aN ?_;refine kT ?_;refine Z1u ?_;refine kK Try.cfgOk hS ?_;refine Z1z ?_;exact ⟨[.string (⟨#[97, 116, 98, 99, 107]⟩), .bool true], Z1, .tuple (.cons (fs_to (Z23 rfl) (congrArg Value.string Za)) (.cons (fs_to (Z23 rfl) (congrArg Value.bool Za)) (.nil))), Zle⟩
             ·have c26e : ((op : Int) == 12) = false := Eq.trans Z1 h25;clear h25;have c26 : ¬ (op : Int) = 12 := ne_of_beq_false c26e;clear c26e;refine aN ?_;refine kF ?_;refine Z1u ?_;refine Z1t Try.cfgOk hS ?_;refine aT (fun h27 => ?_) (fun h27 => ?_)
              ·have c28e : ((op : Int) == 13) = true := Eq.trans Z1 h27;clear h27;have c28 : (op : Int) = 13 := eq_of_beq c28e;clear c28e;refine aN ?_;refine kT ?_;refine Z1u ?_;refine kK Try.cfgOk hS ?_;refine Z1z ?_;exact ⟨[.string (⟨#[115, 98, 106, 99]⟩), .bool true], Z1, .tuple (.cons (fs_to (Z23 rfl) (congrArg Value.string Za)) (.cons (fs_to (Z23 rfl) (congrArg Value.bool Za)) (.nil))), Zle⟩
              ·have c28e : ((op : Int) == 13) = false := Eq.trans Z1 h27;clear h27;have c28 : ¬ (op : Int) = 13 := ne_of_beq_false c28e;clear c28e;refine aN ?_;refine kF ?_;refine Z1u ?_;refine Z1t Try.cfgOk hS ?_;refine aT (fun h29 => ?_) (fun h29 => ?_)
               ·have c30e : ((op : Int) == 14) = true := Eq.trans Z1 h29;clear h29;have c30 : (op : Int) = 14 := eq_of_beq c30e;clear c30e;refine aN ?_;refine kT ?_;refine Z1u ?_;refine kK Try.cfgOk hS ?_;refine Z1z ?_;exact ⟨[.string (⟨#[98, 106, 99]⟩), .bool true], Z1, .tuple (.cons (fs_to (Z23 rfl) (congrArg Value.string Za)) (.cons (fs_to (Z23 rfl) (congrArg Value.bool Za)) (.nil))), Zle⟩
               ·have c30e : ((op : Int) == 14) = false := Eq.trans Z1 h29;clear h29;have c30 : ¬ (op : Int) = 14 := ne_of_beq_false c30e;clear c30e;refine aN ?_;refine kF ?_;refine Z1u ?_;refine Z1t Try.cfgOk hS ?_;refine aT (fun h31 => ?_) (fun h31 => ?_)
                ·have c32e : ((op : Int) == 15) = true := Eq.trans Z1 h31;clear h31;have c32 : (op : Int) = 15 := eq_of_beq c32e;clear c32e;refine aN ?_;refine kT ?_;refine Z1u ?_;refine kK Try.cfgOk hS ?_;refine Z1z ?_;exact ⟨[.string (⟨#[97]⟩), .bool true], Z1, .tuple (.cons (fs_to (Z23 rfl) (congrArg Value.string Za)) (.cons (fs_to (Z23 rfl) (congrArg Value.bool Za)) (.nil))), Zle⟩
                ·have c32e : ((op : Int) == 15) = false := Eq.trans Z1 h31;clear h31;have c32 : ¬ (op : Int) = 15 := ne_of_beq_false c32e;clear c32e;refine aN ?_;refine kF ?_;refine Z26 (Z1u ?_);refine kK Try.cfgOk hS ?_;refine Z1z ?_;exact ⟨[.string ByteArray.empty, .bool false], Z1, .tuple (.cons (fs_to (Z23 rfl) (congrArg Value.string Za)) (.cons (fs_to (Z23 rfl) (congrArg Value.bool Za)) (.nil))), Zle⟩
noncomputable def con_shape : Con Try.prog 0 := Con.pure (α := Int) 62 (fun z9 => [.int .i64 z9]) (fun z9 => .tuple #[.string (bstr (shp z9)), .bool (decide (0 ≤ z9 ∧ z9 ≤ 15))]) (fun z9 => True) (by
 intro x y h
 simp only [injA] at h
 first | exact h | (simp only [Prod.ext_iff, h, and_self, and_true, true_and]; done) | simp_all [Prod.ext_iff]) (fun _ => rfl) (fun _ => rfl) 400 (by
 rintro x _
 exact shape_sc x )
theorem con_shape_at (op : Int)  (s : St) : con_shape.rel [.int .i64 op] s (.tuple #[.string (bstr (shp op)), .bool (decide (0 ≤ op ∧ op ≤ 15))]) s := con_pure op trivial s
theorem field_fn : Try.cfg.fn 63 = some Try.f63 := Z1
theorem field_sc (x : UInt8) (r : Code)  : SC Try.prog 0 63 [.pointer (some ⟨0, 0, none⟩), .int .u8 ((x.toNat : Nat) : Int)] ((St.empty 0).new (.cells (Z1w r))) fun v s' => v = .pointer (some ⟨0, (offL x), none⟩) ∧ s'.n ≤ 400 ∧ ∀ a, a < 1 → s'.get a = some (objL [.cells (Z1w r)] a) := by
 have hS := Z24 Try.cfgOk 300;refine Z2d Try.cfgOk field_fn rfl ?_;refine Z1u ?_;refine kK Try.cfgOk hS ?_;refine Z1u (Z1u ?_);refine kK Try.cfgOk hS ?_;refine Z2f (Z1u (Z1u ?_));refine Z1t Try.cfgOk hS ?_;refine aT (fun h1 => ?_) (fun h1 => ?_)
 ·have c2e : ((((x.toNat : Nat) : Int) : Int) == 97) = true := Eq.trans Z1 h1;clear h1;have c2 : (((x.toNat : Nat) : Int) : Int) = 97 := eq_of_beq c2e;clear c2e;refine aN ?_;refine kT ?_;refine Z26 ?_;refine kT ?_;refine Z1u ?_;refine kK Try.cfgOk hS ?_;refine Z1z ?_;exact ⟨[.pointer (some ⟨0, 1, none⟩)], Z1, by refine congrArg (fun o => Value.pointer (some ⟨0, o, none⟩)) ?_; unfold offL; first | (rw [if_pos Z5]; done) | (rw [if_neg Z5, if_pos Z5]; done) | (rw [if_neg Z5, if_neg Z5, if_pos Z5]; done) | (rw [if_neg Z5, if_neg Z5, if_neg Z5, if_pos Z5]; done) | (rw [if_neg Z5, if_neg Z5, if_neg Z5, if_neg Z5]), Zle, all1 Z1⟩
 ·have c2e : ((((x.toNat : Nat) : Int) : Int) == 97) = false := Eq.trans Z1 h1;clear h1;have c2 : ¬ (((x.toNat : Nat) : Int) : Int) = 97 := ne_of_beq_false c2e;clear c2e;refine aN ?_;refine kF ?_;refine Z1t Try.cfgOk hS ?_;refine aT (fun h3 => ?_) (fun h3 => ?_)
  ·have c4e : ((((x.toNat : Nat) : Int) : Int) == 115) = true := Eq.trans Z1 h3;clear h3;have c4 : (((x.toNat : Nat) : Int) : Int) = 115 := eq_of_beq c4e;clear c4e;refine aN ?_;refine kT ?_;refine Z1u ?_;refine kK Try.cfgOk hS ?_;refine Z1z ?_;exact ⟨[.pointer (some ⟨0, 1, none⟩)], Z1, by refine congrArg (fun o => Value.pointer (some ⟨0, o, none⟩)) ?_; unfold offL; first | (rw [if_pos Z5]; done) | (rw [if_neg Z5, if_pos Z5]; done) | (rw [if_neg Z5, if_neg Z5, if_pos Z5]; done) | (rw [if_neg Z5, if_neg Z5, if_neg Z5, if_pos Z5]; done) | (rw [if_neg Z5, if_neg Z5, if_neg Z5, if_neg Z5]), Zle, all1 Z1⟩
  ·have c4e : ((((x.toNat : Nat) : Int) : Int) == 115) = false := Eq.trans Z1 h3;clear h3;have c4 : ¬ (((x.toNat : Nat) : Int) : Int) = 115 := ne_of_beq_false c4e;clear c4e;refine aN ?_;refine kF ?_;refine Z1u ?_;refine Z1t Try.cfgOk hS ?_;refine aT (fun h5 => ?_) (fun h5 => ?_)
   ·have c6e : ((((x.toNat : Nat) : Int) : Int) == 98) = true := Eq.trans Z1 h5;clear h5;have c6 : (((x.toNat : Nat) : Int) : Int) = 98 := eq_of_beq c6e;clear c6e;refine aN ?_;refine kT ?_;refine Z1u ?_;refine kK Try.cfgOk hS ?_;refine Z1z ?_;exact ⟨[.pointer (some ⟨0, 2, none⟩)], Z1, by refine congrArg (fun o => Value.pointer (some ⟨0, o, none⟩)) ?_; unfold offL; first | (rw [if_pos Z5]; done) | (rw [if_neg Z5, if_pos Z5]; done) | (rw [if_neg Z5, if_neg Z5, if_pos Z5]; done) | (rw [if_neg Z5, if_neg Z5, if_neg Z5, if_pos Z5]; done) | (rw [if_neg Z5, if_neg Z5, if_neg Z5, if_neg Z5]), Zle, all1 Z1⟩
   ·have c6e : ((((x.toNat : Nat) : Int) : Int) == 98) = false := Eq.trans Z1 h5;clear h5;have c6 : ¬ (((x.toNat : Nat) : Int) : Int) = 98 := ne_of_beq_false c6e;clear c6e;refine aN ?_;refine kF ?_;refine Z1u ?_;refine Z1t Try.cfgOk hS ?_;refine aT (fun h7 => ?_) (fun h7 => ?_)
    ·have c8e : ((((x.toNat : Nat) : Int) : Int) == 99) = true := Eq.trans Z1 h7;clear h7;have c8 : (((x.toNat : Nat) : Int) : Int) = 99 := eq_of_beq c8e;clear c8e;refine aN ?_;refine kT ?_;refine Z1u ?_;refine kK Try.cfgOk hS ?_;refine Z1z ?_;exact ⟨[.pointer (some ⟨0, 3, none⟩)], Z1, by refine congrArg (fun o => Value.pointer (some ⟨0, o, none⟩)) ?_; unfold offL; first | (rw [if_pos Z5]; done) | (rw [if_neg Z5, if_pos Z5]; done) | (rw [if_neg Z5, if_neg Z5, if_pos Z5]; done) | (rw [if_neg Z5, if_neg Z5, if_neg Z5, if_pos Z5]; done) | (rw [if_neg Z5, if_neg Z5, if_neg Z5, if_neg Z5]), Zle, all1 Z1⟩
    ·have c8e : ((((x.toNat : Nat) : Int) : Int) == 99) = false := Eq.trans Z1 h7;clear h7;have c8 : ¬ (((x.toNat : Nat) : Int) : Int) = 99 := ne_of_beq_false c8e;clear c8e;refine aN ?_;refine kF ?_;refine Z1u ?_;refine Z1t Try.cfgOk hS ?_;refine aT (fun h9 => ?_) (fun h9 => ?_)
     ·have c10e : ((((x.toNat : Nat) : Int) : Int) == 116) = true := Eq.trans Z1 h9;clear h9;have c10 : (((x.toNat : Nat) : Int) : Int) = 116 := eq_of_beq c10e;clear c10e;refine aN ?_;refine kT ?_;refine Z1u ?_;refine kK Try.cfgOk hS ?_;refine Z1z ?_;exact ⟨[.pointer (some ⟨0, 4, none⟩)], Z1, by refine congrArg (fun o => Value.pointer (some ⟨0, o, none⟩)) ?_; unfold offL; first | (rw [if_pos Z5]; done) | (rw [if_neg Z5, if_pos Z5]; done) | (rw [if_neg Z5, if_neg Z5, if_pos Z5]; done) | (rw [if_neg Z5, if_neg Z5, if_neg Z5, if_pos Z5]; done) | (rw [if_neg Z5, if_neg Z5, if_neg Z5, if_neg Z5]), Zle, all1 Z1⟩
     ·have c10e : ((((x.toNat : Nat) : Int) : Int) == 116) = false := Eq.trans Z1 h9;clear h9;have c10 : ¬ (((x.toNat : Nat) : Int) : Int) = 116 := ne_of_beq_false c10e;clear c10e;refine aN ?_;refine kF ?_;refine Z26 (Z1u ?_);refine kK Try.cfgOk hS ?_;refine Z1z ?_;exact ⟨[.pointer (some ⟨0, 5, none⟩)], Z1, by refine congrArg (fun o => Value.pointer (some ⟨0, o, none⟩)) ?_; unfold offL; first | (rw [if_pos Z5]; done) | (rw [if_neg Z5, if_pos Z5]; done) | (rw [if_neg Z5, if_neg Z5, if_pos Z5]; done) | (rw [if_neg Z5, if_neg Z5, if_neg Z5, if_pos Z5]; done) | (rw [if_neg Z5, if_neg Z5, if_neg Z5, if_neg Z5]), Zle, all1 Z1⟩
noncomputable def sm_field : Small Try.prog 0 63 (UInt8 × Code) where
 k := 1
 A := fun z9 ρ => [.pointer (some ⟨(ρ 0), 0, none⟩), .int .u8 ((z9.1.toNat : Nat) : Int)]
 M := fun z9 ρ => objL [.cells (Z1w z9.2)]
 M1 := fun z9 ρ => objL [.cells (Z1w z9.2)]
 V := fun z9 ρ => .pointer (some ⟨(ρ 0), (offL z9.1), none⟩)
 Pre := fun z9 => True
 ch := []
 N := 400
 s0 := fun z9 => ((St.empty 0).new (.cells (Z1w z9.2)))
 hch := by decide
 hsame := fun x ρ => all1 (fun _ => rfl)
 hG := rfl
 hn := fun x => rfl
 hwf := fun x => ((Z1x 0).new _)
 hget := fun x => all1 (by kernel_rfl)
 noloop := fun x ρ => all1 (fun h => h.elim)
 inA := fun x ρ R hR => .cons (.ptr (hR 0 _ (by decide))) (.cons (sub_clo rfl) .nil)
 inM := fun x ρ R hR => all1 (OSub.cells (subs_clo (ccells_clo _)))
 outM := fun x ρ R hR => all1 (OSub.cells (subs_clo (ccells_clo _)))
 outV := fun x ρ R hR => .ptr (hR 0 _ (by decide))
 dom := by
  intro x ρ a ha
  cases ha
 sc := by
  rintro ⟨a0, a1⟩ _
  exact field_sc a0 a1
 det := by
  rintro ⟨a0, a1⟩ ρ ⟨b0, b1⟩ σ s h hm hm'
  simp only [injA, injB, ccells_eq] at h
  have q0 : ρ 0 = σ 0 := by simp_all
  have e0 := (hm 0 (by decide)).symm.trans ((congrArg s.get q0).trans (hm' 0 (by decide)))
  simp only [objL, List.getD_cons_zero, List.getD_cons_succ, injA, injB, ccells_eq] at e0
  have q : ∀ a, a < 1 → ρ a = σ a := all1 q0
  clear hm hm'
  exact ⟨by first | rfl | (simp_all [Prod.ext_iff]; done) | exact e0, q⟩
 par := by
  intro x ρ σ h
  have h0 := h 0 (by decide)
  exact ⟨by first | rfl | simp only [h0], by first | exact fun _ _ => rfl | (intro a ha; simp only [h0])⟩
noncomputable def con_field : Con Try.prog 0 := sm_field.con
theorem con_field_at (x : UInt8) (r : Code) (i0 : Nat)  (s : St) (hn : nodupB [i0] = true) (m0 : s.get i0 = some (.cells (Z1w r))) : con_field.rel [.pointer (some ⟨i0, 0, none⟩), .int .u8 ((x.toNat : Nat) : Int)] s (.pointer (some ⟨i0, (offL x), none⟩)) s :=
 sm_field.at_ (x, r) [i0] s _ trivial rfl hn rfl (all1 m0) rfl rfl
theorem sound_fn : Try.cfg.fn 75 = some Try.f75 := Z1
theorem sound_sc (x : UInt8) (n : Int) (bh : Int)  : SC Try.prog 0 75 [.int .u8 ((x.toNat : Nat) : Int), .int .i64 n, .int .i64 bh] (St.empty 0) fun v s' => v = .bool (tf (soundP x n bh)) ∧ s'.n ≤ 400 := by
 obtain ⟨rc, hS, hC⟩ := rc_con (Z24 Try.cfgOk 300) [con_within] Z1;have hC52 := hC con_within (.head _);refine sc_ice0 (N := 400) (v2 := .bool (tf (soundP x n bh))) (Q := fun v s' => FS 0 s' v (.bool (tf (soundP x n bh))) ∧ s'.n ≤ 400) ?_ (fun _ _ h => h);refine Z2d Try.cfgOk sound_fn rfl ?_;refine Z1u ?_;refine kK Try.cfgOk hS ?_;refine Z1u (Z1u ?_);refine kK Try.cfgOk hS ?_;refine Z2f (Z1u (Z1u ?_));refine Z1t Try.cfgOk hS ?_;refine aT (fun h1 => ?_) (fun h1 => ?_)
 ·have c2e : ((((x.toNat : Nat) : Int) : Int) == 97) = true := Eq.trans Z1 h1;clear h1;have c2 : (((x.toNat : Nat) : Int) : Int) = 97 := eq_of_beq c2e;clear c2e;refine aN ?_;refine kT ?_;refine Z26 ?_;refine kT ?_;refine Z1u ?_;refine Z1t Try.cfgOk hS ?_;refine aK 1 ?_;refine aB 52 [.int .i64 n, .int .i64 0, .int .i64 7] (decide (0 ≤ n ∧ n ≤ 7)) _ rfl (hC52 _ _ _ _ (con_within_at n 0 7  _)) (fun h3 => ?_) (fun h3 => ?_)
  ·have c4 : 0 ≤ n ∧ n ≤ 7 := of_decide_eq_true h3;clear h3;refine aN ?_;refine Z1z ?_;exact ⟨[.bool true], Z1, fs_to (Z23 rfl) (congrArg Value.bool Zd), Zle⟩
  ·have c4 : ¬ (0 ≤ n ∧ n ≤ 7) := of_decide_eq_false h3;clear h3;refine aN ?_;refine Z1z ?_;exact ⟨[.bool false], Z1, fs_to (Z23 rfl) (congrArg Value.bool Zd), Zle⟩
 ·have c2e : ((((x.toNat : Nat) : Int) : Int) == 97) = false := Eq.trans Z1 h1;clear h1;have c2 : ¬ (((x.toNat : Nat) : Int) : Int) = 97 := ne_of_beq_false c2e;clear c2e;refine aN ?_;refine kF ?_;refine Z1u ?_;refine Z1t Try.cfgOk hS ?_;refine aT (fun h5 => ?_) (fun h5 => ?_)
  ·have c6e : ((((x.toNat : Nat) : Int) : Int) == 98) = true := Eq.trans Z1 h5;clear h5;have c6 : (((x.toNat : Nat) : Int) : Int) = 98 := eq_of_beq c6e;clear c6e;refine aN ?_;refine kT ?_;refine Z26 ?_;refine kT ?_;refine Z1u ?_;refine Z1t Try.cfgOk hS ?_;refine aK 1 ?_;refine aB 52 [.int .i64 n, .int .i64 0, .int .i64 7] (decide (0 ≤ n ∧ n ≤ 7)) _ rfl (hC52 _ _ _ _ (con_within_at n 0 7  _)) (fun h7 => ?_) (fun h7 => ?_)
   ·have c8 : 0 ≤ n ∧ n ≤ 7 := of_decide_eq_true h7;clear h7;refine aN ?_;refine Z1z ?_;exact ⟨[.bool true], Z1, fs_to (Z23 rfl) (congrArg Value.bool Zd), Zle⟩
   ·have c8 : ¬ (0 ≤ n ∧ n ≤ 7) := of_decide_eq_false h7;clear h7;refine aN ?_;refine Z1z ?_;exact ⟨[.bool false], Z1, fs_to (Z23 rfl) (congrArg Value.bool Zd), Zle⟩
  ·have c6e : ((((x.toNat : Nat) : Int) : Int) == 98) = false := Eq.trans Z1 h5;clear h5;have c6 : ¬ (((x.toNat : Nat) : Int) : Int) = 98 := ne_of_beq_false c6e;clear c6e;refine aN ?_;refine kF ?_;refine Z1t Try.cfgOk hS ?_;refine aT (fun h9 => ?_) (fun h9 => ?_)
   ·have c10e : ((((x.toNat : Nat) : Int) : Int) == 99) = true := Eq.trans Z1 h9;clear h9;have c10 : (((x.toNat : Nat) : Int) : Int) = 99 := eq_of_beq c10e;clear c10e;refine aN ?_;refine kT ?_;refine Z1u ?_;refine Z1t Try.cfgOk hS ?_;refine aK 1 ?_;refine aB 52 [.int .i64 n, .int .i64 0, .int .i64 7] (decide (0 ≤ n ∧ n ≤ 7)) _ rfl (hC52 _ _ _ _ (con_within_at n 0 7  _)) (fun h11 => ?_) (fun h11 => ?_)
    ·have c12 : 0 ≤ n ∧ n ≤ 7 := of_decide_eq_true h11;clear h11;refine aN ?_;refine Z1z ?_;exact ⟨[.bool true], Z1, fs_to (Z23 rfl) (congrArg Value.bool Zd), Zle⟩
    ·have c12 : ¬ (0 ≤ n ∧ n ≤ 7) := of_decide_eq_false h11;clear h11;refine aN ?_;refine Z1z ?_;exact ⟨[.bool false], Z1, fs_to (Z23 rfl) (congrArg Value.bool Zd), Zle⟩
   ·have c10e : ((((x.toNat : Nat) : Int) : Int) == 99) = false := Eq.trans Z1 h9;clear h9;have c10 : ¬ (((x.toNat : Nat) : Int) : Int) = 99 := ne_of_beq_false c10e;clear c10e;refine aN ?_;refine kF ?_;refine Z1u ?_;refine Z1t Try.cfgOk hS ?_;refine aT (fun h13 => ?_) (fun h13 => ?_)
    ·have c14e : ((((x.toNat : Nat) : Int) : Int) == 116) = true := Eq.trans Z1 h13;clear h13;have c14 : (((x.toNat : Nat) : Int) : Int) = 116 := eq_of_beq c14e;clear c14e;refine aN ?_;refine kT ?_;refine Z1u ?_;refine Z1t Try.cfgOk hS ?_;refine aK 1 ?_;refine aB 52 [.int .i64 n, .int .i64 0, .int .i64 3] (decide (0 ≤ n ∧ n ≤ 3)) _ rfl (hC52 _ _ _ _ (con_within_at n 0 3  _)) (fun h15 => ?_) (fun h15 => ?_)
     ·have c16 : 0 ≤ n ∧ n ≤ 3 := of_decide_eq_true h15;clear h15;refine aN ?_;refine Z1z ?_;exact ⟨[.bool true], Z1, fs_to (Z23 rfl) (congrArg Value.bool Zd), Zle⟩
     ·have c16 : ¬ (0 ≤ n ∧ n ≤ 3) := of_decide_eq_false h15;clear h15;refine aN ?_;refine Z1z ?_;exact ⟨[.bool false], Z1, fs_to (Z23 rfl) (congrArg Value.bool Zd), Zle⟩
    ·have c14e : ((((x.toNat : Nat) : Int) : Int) == 116) = false := Eq.trans Z1 h13;clear h13;have c14 : ¬ (((x.toNat : Nat) : Int) : Int) = 116 := ne_of_beq_false c14e;clear c14e;refine aN ?_;refine kF ?_;refine Z1u ?_;refine Z1t Try.cfgOk hS ?_;refine aT (fun h17 => ?_) (fun h17 => ?_)
     ·have c18e : ((((x.toNat : Nat) : Int) : Int) == 107) = true := Eq.trans Z1 h17;clear h17;have c18 : (((x.toNat : Nat) : Int) : Int) = 107 := eq_of_beq c18e;clear c18e;refine aN ?_;refine kT ?_;refine Z1u ?_;refine Z1t Try.cfgOk hS ?_;refine aK 1 ?_;refine aB 52 [.int .i64 n, .int .i64 1, .int .i64 64] (decide (1 ≤ n ∧ n ≤ 64)) _ rfl (hC52 _ _ _ _ (con_within_at n 1 64  _)) (fun h19 => ?_) (fun h19 => ?_)
      ·have c20 : 1 ≤ n ∧ n ≤ 64 := of_decide_eq_true h19;clear h19;refine aN ?_;refine Z1z ?_;exact ⟨[.bool true], Z1, fs_to (Z23 rfl) (congrArg Value.bool Zd), Zle⟩
      ·have c20 : ¬ (1 ≤ n ∧ n ≤ 64) := of_decide_eq_false h19;clear h19;refine aN ?_;refine Z1z ?_;exact ⟨[.bool false], Z1, fs_to (Z23 rfl) (congrArg Value.bool Zd), Zle⟩
     ·have c18e : ((((x.toNat : Nat) : Int) : Int) == 107) = false := Eq.trans Z1 h17;clear h17;have c18 : ¬ (((x.toNat : Nat) : Int) : Int) = 107 := ne_of_beq_false c18e;clear c18e;refine aN ?_;refine kF ?_;refine Z1u ?_;refine Z1t Try.cfgOk hS ?_;refine aT (fun h21 => ?_) (fun h21 => ?_)
      ·have c22e : ((((x.toNat : Nat) : Int) : Int) == 115) = true := Eq.trans Z1 h21;clear h21;have c22 : (((x.toNat : Nat) : Int) : Int) = 115 := eq_of_beq c22e;clear c22e;refine aN ?_;refine kT ?_;refine Z1u ?_;refine Z1t Try.cfgOk hS ?_;refine aK 2 ?_;refine aB 52 [.int .i64 n, .int .i64 1, .int .i64 bh] (decide (1 ≤ n ∧ n ≤ bh)) _ rfl (hC52 _ _ _ _ (con_within_at n 1 bh  _)) (fun h23 => ?_) (fun h23 => ?_)
       ·have c24 : 1 ≤ n ∧ n ≤ bh := of_decide_eq_true h23;clear h23;refine aN ?_;refine Z1z ?_;exact ⟨[.bool true], Z1, fs_to (Z23 rfl) (congrArg Value.bool Zd), Zle⟩
       ·have c24 : ¬ (1 ≤ n ∧ n ≤ bh) := of_decide_eq_false h23;clear h23;refine aN ?_;refine Z1z ?_;exact ⟨[.bool false], Z1, fs_to (Z23 rfl) (congrArg Value.bool Zd), Zle⟩
      ·have c22e : ((((x.toNat : Nat) : Int) : Int) == 115) = false := Eq.trans Z1 h21;clear h21;have c22 : ¬ (((x.toNat : Nat) : Int) : Int) = 115 := ne_of_beq_false c22e;clear c22e;refine aN ?_;refine kF ?_;refine Z1u ?_;refine Z1t Try.cfgOk hS ?_;refine aT (fun h25 => ?_) (fun h25 => ?_)
       ·have c26e : ((((x.toNat : Nat) : Int) : Int) == 106) = true := Eq.trans Z1 h25;clear h25;have c26 : (((x.toNat : Nat) : Int) : Int) = 106 := eq_of_beq c26e;clear c26e;refine aN ?_;refine kT ?_;refine Z1u ?_;refine Z1t Try.cfgOk hS ?_;refine aK 1 ?_;refine aB 52 [.int .i64 n, .int .i64 0, .int .i64 3] (decide (0 ≤ n ∧ n ≤ 3)) _ rfl (hC52 _ _ _ _ (con_within_at n 0 3  _)) (fun h27 => ?_) (fun h27 => ?_)
        ·have c28 : 0 ≤ n ∧ n ≤ 3 := of_decide_eq_true h27;clear h27;refine aN ?_;refine Z1z ?_;exact ⟨[.bool true], Z1, fs_to (Z23 rfl) (congrArg Value.bool Zd), Zle⟩
        ·have c28 : ¬ (0 ≤ n ∧ n ≤ 3) := of_decide_eq_false h27;clear h27;refine aN ?_;refine Z1z ?_;exact ⟨[.bool false], Z1, fs_to (Z23 rfl) (congrArg Value.bool Zd), Zle⟩
       ·have c26e : ((((x.toNat : Nat) : Int) : Int) == 106) = false := Eq.trans Z1 h25;clear h25;have c26 : ¬ (((x.toNat : Nat) : Int) : Int) = 106 := ne_of_beq_false c26e;clear c26e;refine aN ?_;refine kF ?_;refine Z26 (Z1u ?_);refine kK Try.cfgOk hS ?_;refine Z1z ?_;exact ⟨[.bool true], Z1, fs_to (Z23 rfl) (congrArg Value.bool Zd), Zle⟩
noncomputable def con_sound : Con Try.prog 0 := Con.pure (α := UInt8 × Int × Int) 75 (fun z9 => [.int .u8 ((z9.1.toNat : Nat) : Int), .int .i64 z9.2.1, .int .i64 z9.2.2]) (fun z9 => .bool (tf (soundP z9.1 z9.2.1 z9.2.2))) (fun z9 => True) (by
 rintro ⟨a0, a1, a2⟩ ⟨b0, b1, b2⟩ h
 simp only [injA] at h
 first | exact h | (simp only [Prod.ext_iff, h, and_self, and_true, true_and]; done) | simp_all [Prod.ext_iff]) (fun _ => rfl) (fun _ => rfl) 400 (by
 rintro ⟨a0, a1, a2⟩ _
 exact sound_sc a0 a1 a2 )
theorem con_sound_at (x : UInt8) (n : Int) (bh : Int)  (s : St) : con_sound.rel [.int .u8 ((x.toNat : Nat) : Int), .int .i64 n, .int .i64 bh] s (.bool (tf (soundP x n bh))) s := con_pure (x, n, bh) trivial s
theorem good_bad {c : Code} {bh : Int} {i : Nat} (h : ∃ x, (shp c.1)[i]? = some x ∧ ¬ soundP x (fld x c) bh) : ¬ goodC c bh := fun q => by
 obtain ⟨x, h1, h2⟩ := h;exact h2 (q.2.1 x (List.mem_of_getElem? h1))
theorem good_yes {c rest : Code} {bh : Int} {i : Nat} (h0 : 0 ≤ c.1 ∧ c.1 ≤ 15) (h1 : ∀ y ∈ (shp c.1).take i, soundP y (fld y c) bh) (h2 : rest = zer ((shp c.1).take i) c) (h3 : ¬ i < (shp c.1).length) : goodC c bh ↔ (rest.1 = c.1 ∧ rest.2.1 = 0 ∧ rest.2.2.1 = 0 ∧ rest.2.2.2.1 = 0 ∧ rest.2.2.2.2.1 = 0 ∧ rest.2.2.2.2.2 = 0) := by
 rw [List.take_of_length_le Z5] at h1 h2;unfold goodC;rw [← h2];have e := h2 ▸ zer_op (shp c.1) c;constructor
 ·intro q;have := q.2.2;simp only [Prod.ext_iff] at this;exact ⟨e, this⟩
 ·intro q;exact ⟨h0, h1, Prod.ext q.2.1 (Prod.ext q.2.2.1 (Prod.ext q.2.2.2.1 (Prod.ext q.2.2.2.2.1 q.2.2.2.2.2)))⟩
theorem shape_t {op : Int} (h : 0 ≤ op ∧ op ≤ 15) : (.tuple #[.string (bstr (shp op)), .bool (decide (0 ≤ op ∧ op ≤ 15))] : Value) = .tuple #[.string (bstr (shp op)), .bool true] := by rw [decide_eq_true h]
theorem shape_f {op : Int} (h : ¬ (0 ≤ op ∧ op ≤ 15)) : (.tuple #[.string (bstr (shp op)), .bool (decide (0 ≤ op ∧ op ≤ 15))] : Value) = .tuple #[.string (bstr (shp op)), .bool false] := by rw [decide_eq_false h]
theorem pgood_fn : Try.cfg.fn 54 = some Try.f54 := Z1
theorem pgood_sc (op : Int) (qa : Int) (qb : Int) (qc : Int) (qt : Int) (qn : Int) (bh : Int)  : SC Try.prog 0 54 [.agg #[.int .i64 op, .int .i64 qa, .int .i64 qb, .int .i64 qc, .int .i64 qt, .int .i64 qn], .int .i64 bh] (St.empty 0) fun v s' => v = .bool (tf (goodC (op, qa, qb, qc, qt, qn) bh)) ∧ s'.n ≤ 400 := by
 obtain ⟨rc, hS, hC⟩ := rc_con (Z24 Try.cfgOk 300) [con_shape, con_field, con_sound] Z1;have hC62 := hC con_shape (.head _);have hC63 := hC con_field (.tail _ (.head _));have hC75 := hC con_sound (.tail _ (.tail _ (.head _)));refine sc_ice0 (N := 400) (v2 := .bool (tf (goodC (op, qa, qb, qc, qt, qn) bh))) (Q := fun v s' => FS 0 s' v (.bool (tf (goodC (op, qa, qb, qc, qt, qn) bh))) ∧ s'.n ≤ 400) ?_ (fun _ _ h => h);refine Z2d Try.cfgOk pgood_fn rfl ?_;refine Z1u ?_;refine kK Try.cfgOk hS ?_;refine Z1u ?_;refine Z1t Try.cfgOk hS ?_;refine aK 2 ?_;by_cases q1 : 0 ≤ op ∧ op ≤ 15
 ·
  refine aC 62 [.int .i64 op] (.tuple #[.string (bstr (shp op)), .bool true]) _ rfl (rc_eq (hC62 _ _ _ _ (con_shape_at op  _)) (shape_t q1)) ?_;refine aN ?_;refine Z1u (Z1u ?_);refine kK Try.cfgOk hS ?_;refine kF ?_;refine Z26 (Z1u ?_);refine kK Try.cfgOk hS ?_;refine Z1u (Z1u ?_);refine kK Try.cfgOk hS ?_;refine Z2f ?_;refine sk_live 46 ((fun a : Nat × Code => [(1, .int .i64 bh), (2, .pointer (some ⟨0, 0, none⟩)), (5, .string (bstr (shp op))), (7, .pointer (some ⟨1, 0, none⟩)), (19, .int .i64 (((shp op).length : Nat) : Int)), (20, .int .i64 ((a.1 : Nat) : Int))]) (0, (op, qa, qb, qc, qt, qn))) Z1 ⟨Z1, Z1, Z1, Z1, Z1, Z1, trivial⟩ fun m2 => ?_
  refine sk_st ((fun a : Nat × Code => (((St.empty 0).new (.cells [.int .i64 op, .int .i64 qa, .int .i64 qb, .int .i64 qc, .int .i64 qt, .int .i64 qn])).new (.cells (Z1w a.2)))) (0, (op, qa, qb, qc, qt, qn))) Z1 ?_;refine (sk_while (k := 2) (N := 400) (live := (fun a : Nat × Code => [(1, .int .i64 bh), (2, .pointer (some ⟨0, 0, none⟩)), (5, .string (bstr (shp op))), (7, .pointer (some ⟨1, 0, none⟩)), (19, .int .i64 (((shp op).length : Nat) : Int)), (20, .int .i64 ((a.1 : Nat) : Int))])) (M := (fun a : Nat × Code => (((St.empty 0).new (.cells [.int .i64 op, .int .i64 qa, .int .i64 qb, .int .i64 qc, .int .i64 qt, .int .i64 qn])).new (.cells (Z1w a.2))))) (fun a : Nat × Code => (a.1 ≤ (shp op).length) ∧ (∀ y ∈ (shp op).take a.1, soundP y (fld y (op, qa, qb, qc, qt, qn)) bh) ∧ (a.2 = zer ((shp op).take a.1) (op, qa, qb, qc, qt, qn)) ∧ ((shp op).length ≤ 5)) (fun a : Nat × Code => (shp op).length - a.1) (fun (a : Nat × Code) (o : Out) (lv : List (Nat × Value)) (M : St) => (o = .exit 0 ∧ (¬ a.1 < (shp op).length) ∧ lv = [(1, .int .i64 bh), (2, .pointer (some ⟨0, 0, none⟩)), (5, .string (bstr (shp op))), (7, .pointer (some ⟨1, 0, none⟩)), (19, .int .i64 (((shp op).length : Nat) : Int)), (20, .int .i64 ((a.1 : Nat) : Int))] ∧ M = (((St.empty 0).new (.cells [.int .i64 op, .int .i64 qa, .int .i64 qb, .int .i64 qc, .int .i64 qt, .int .i64 qn])).new (.cells (Z1w a.2)))) ∨ (o = .ret ∧ (∃ x, (shp op)[a.1]? = some x ∧ ¬ soundP x (fld x (op, qa, qb, qc, qt, qn)) bh) ∧ lv = [(4, .bool false)] ∧ M = (((St.empty 0).new (.cells [.int .i64 op, .int .i64 qa, .int .i64 qb, .int .i64 qc, .int .i64 qt, .int .i64 qn])).new (.cells (Z1w a.2))))) (Nat.zero_le _) (fun a ha => ?_) (fun a ha => ?_) (fun a m ha => ?_) (fun a m ha => ?_) (0, (op, qa, qb, qc, qt, qn)) m2 ?_).up ?_
  ·exact ⟨Z1, (((Z1x 0).new _).new _), (selfs (all_cons (o := .cells [.int .i64 op, .int .i64 qa, .int .i64 qb, .int .i64 qc, .int .i64 qt, .int .i64 qn]) Z1 (OSub.cells (.cons (sub_clo rfl) (.cons (sub_clo rfl) (.cons (sub_clo rfl) (.cons (sub_clo rfl) (.cons (sub_clo rfl) (.cons (sub_clo rfl) .nil))))))) (all_cons (o := .cells (Z1w a.2)) Z1 (OSub.cells (subs_clo (ccells_clo _))) (Z25))))⟩
  ·exact ⟨sub_clo rfl, .ptr ⟨Ze, rfl⟩, sub_clo rfl, .ptr ⟨Ze, rfl⟩, sub_clo rfl, sub_clo rfl, trivial⟩
  ·exact ⟨Z1, Z1, Z1, Z1, Z1, Z1, trivial⟩
  ·obtain ⟨i, rest⟩ := a;obtain ⟨i0, i1, i2, i3⟩ := ha;dsimp only at i0 i1 i2 i3;refine Z1u ?_;refine Z1t Try.cfgOk hS ?_;refine aT (fun h3 => ?_) (fun h3 => ?_)
   ·have c4e : (decide ((((i : Nat) : Int) : Int) < (((shp op).length : Nat) : Int))) = true := Eq.trans Z1 h3;clear h3;have c4 : (((i : Nat) : Int) : Int) < (((shp op).length : Nat) : Int) := of_decide_eq_true c4e;clear c4e;refine Z29 ?_;refine Z1u ?_;refine kT ?_;refine Z26 (Z1u (Z2f (Z1u ?_)));refine kK Try.cfgOk hS ?_;refine Z1u (Z1u ?_);have hx5l : i < (shp op).length := by omega
    refine Exists.elim (get_ex hx5l) fun x5 hx5 => ?_
    clear hx5l;refine sk_drawL Try.cfgOk hS ?_;refine dK 2 ?_;refine dM (indexV Try.cfg 9 (.string (bstr (shp op))) (.int .i64 ((i : Nat) : Int))) (.int .u8 ((x5.toNat : Nat) : Int)) (index_bstr Z1 hx5) ?_;refine dK 2 ?_;refine dM (indexV Try.cfg 9 (.string (bstr (shp op))) (.int .i64 ((i : Nat) : Int))) (.int .u8 ((x5.toNat : Nat) : Int)) (index_bstr Z1 hx5) ?_;refine dC 63 [.pointer (some ⟨0, 0, none⟩), .int .u8 ((x5.toNat : Nat) : Int)] (.pointer (some ⟨0, (offL x5), none⟩)) _ rfl (hC63 _ _ _ _ (con_field_at x5 (op, qa, qb, qc, qt, qn) 0  _ Z1 Z1 )) ?_;refine dK 1 ?_;refine dM (loadV Try.cfg (((St.empty 0).new (.cells [.int .i64 op, .int .i64 qa, .int .i64 qb, .int .i64 qc, .int .i64 qt, .int .i64 qn])).new (.cells (Z1w rest))) 3 (.pointer (some ⟨0, (offL x5), none⟩))) (.int .i64 (fld x5 (op, qa, qb, qc, qt, qn))) (load_sym Z1 (cs := Z1w (op, qa, qb, qc, qt, qn)) Z1 (fld_at x5 (op, qa, qb, qc, qt, qn))) ?_;refine dK 1 ?_;refine dB 75 [.int .u8 ((x5.toNat : Nat) : Int), .int .i64 (fld x5 (op, qa, qb, qc, qt, qn)), .int .i64 bh] (tf (soundP x5 (fld x5 (op, qa, qb, qc, qt, qn)) bh)) _ rfl (hC75 _ _ _ _ (con_sound_at x5 (fld x5 (op, qa, qb, qc, qt, qn)) bh  _)) (fun h6 => ?_) (fun h6 => ?_)
    ·have c7 : soundP x5 (fld x5 (op, qa, qb, qc, qt, qn)) bh := tf_t h6;clear h6;refine dK 1 ?_;refine ald_nil ?_;refine kF ?_;refine Z26 ?_;refine Z1t Try.cfgOk hS ?_;refine aK 2 ?_;refine aM (indexV Try.cfg 9 (.string (bstr (shp op))) (.int .i64 ((i : Nat) : Int))) (.int .u8 ((x5.toNat : Nat) : Int)) (index_bstr Z1 hx5) ?_;refine aC 63 [.pointer (some ⟨1, 0, none⟩), .int .u8 ((x5.toNat : Nat) : Int)] (.pointer (some ⟨1, (offL x5), none⟩)) _ rfl (hC63 _ _ _ _ (con_field_at x5 rest 1  _ Z1 Z1 )) ?_;refine aK 1 ?_;refine al_opF (v := undef) (s1 := (((St.empty 0).new (.cells [.int .i64 op, .int .i64 qa, .int .i64 qb, .int .i64 qc, .int .i64 qt, .int .i64 qn])).new (.cells (Z1w rest))).set 1 (.cells (Z1w (clr x5 rest)))) Z1 Z1 (Eq.trans (b := (storeV Try.cfg (((St.empty 0).new (.cells [.int .i64 op, .int .i64 qa, .int .i64 qb, .int .i64 qc, .int .i64 qt, .int .i64 qn])).new (.cells (Z1w rest))) 3 (.pointer (some ⟨1, (offL x5), none⟩)) (.int .i64 0)).map fun s8 => (undef, s8)) Z1 (congrArg (Option.map fun s8 => (undef, s8)) (store_sym Z1 (cs := Z1w rest) (cs2 := Z1w (clr x5 rest)) rfl rfl Z1 (offL_lt x5) (clr_at x5 rest)))) ?_;refine Z29 ?_;refine Z1t Try.cfgOk hS ?_;refine aE (v := .int .i64 (IntKind.wrap .i64 (((i : Nat) : Int) + 1))) (.int .i64 ((i + 1 : Nat) : Int)) (congrArg (Value.int .i64) (wrap_to Z5 Z5)) ?_;refine aN ?_;refine .inl ⟨(i + 1, (clr x5 rest)), rfl, ⟨?_, ?_, ?_, ?_⟩, ?_, ⟨Z1, ⟨Z1, Z1, Z1, Z1, Z1, Z1, trivial⟩, ⟨sub_clo rfl, .ptr ⟨Ze, rfl⟩, sub_clo rfl, .ptr ⟨Ze, rfl⟩, sub_clo rfl, sub_clo rfl, trivial⟩, Zle, ⟨Z1, (((Z1x 0).new _).new _), (selfs (all_cons (o := .cells [.int .i64 op, .int .i64 qa, .int .i64 qb, .int .i64 qc, .int .i64 qt, .int .i64 qn]) Z1 (OSub.cells (.cons (sub_clo rfl) (.cons (sub_clo rfl) (.cons (sub_clo rfl) (.cons (sub_clo rfl) (.cons (sub_clo rfl) (.cons (sub_clo rfl) .nil))))))) (all_cons (o := .cells (Z1w (clr x5 rest))) Z1 (OSub.cells (subs_clo (ccells_clo _))) (Z25))))⟩, Z2b Z1⟩⟩
     ·(try dsimp only); omega
     ·(try dsimp only); exact all_succ i1 Z2 Z2
     ·(try dsimp only); rw [i2, zer_succ Z2]
     ·(try dsimp only); assumption
     ·omega
    ·have c7 : ¬ (soundP x5 (fld x5 (op, qa, qb, qc, qt, qn)) bh) := tf_f h6;clear h6;refine dK 1 ?_;refine ald_nil ?_;refine kT ?_;refine Z1u ?_;refine kK Try.cfgOk hS ?_;refine Z1z ?_;refine .inr ⟨_, _, (fun h => Zw), .inr ⟨rfl, ?_, rfl, rfl⟩, ⟨Z1, ⟨Z1, trivial⟩, ⟨sub_clo rfl, trivial⟩, Zle, ⟨Z1, (((Z1x 0).new _).new _), (selfs (all_cons (o := .cells [.int .i64 op, .int .i64 qa, .int .i64 qb, .int .i64 qc, .int .i64 qt, .int .i64 qn]) Z1 (OSub.cells (.cons (sub_clo rfl) (.cons (sub_clo rfl) (.cons (sub_clo rfl) (.cons (sub_clo rfl) (.cons (sub_clo rfl) (.cons (sub_clo rfl) .nil))))))) (all_cons (o := .cells (Z1w rest)) Z1 (OSub.cells (subs_clo (ccells_clo _))) (Z25))))⟩, Z2b Z1⟩⟩
     ·exact ⟨_, Z2, Z2⟩
   ·have c4e : (decide ((((i : Nat) : Int) : Int) < (((shp op).length : Nat) : Int))) = false := Eq.trans Z1 h3;clear h3;have c4 : ¬ (((i : Nat) : Int) : Int) < (((shp op).length : Nat) : Int) := of_decide_eq_false c4e;clear c4e;refine Z29 ?_;refine Z1u ?_;refine kF ?_;refine sk_exit ?_;dsimp only;refine .inr ⟨_, _, (fun h => Zw), .inl ⟨rfl, ?_, rfl, rfl⟩, ⟨Z1, ⟨Z1, Z1, Z1, Z1, Z1, Z1, trivial⟩, ⟨sub_clo rfl, .ptr ⟨Ze, rfl⟩, sub_clo rfl, .ptr ⟨Ze, rfl⟩, sub_clo rfl, sub_clo rfl, trivial⟩, Zle, ⟨Z1, (((Z1x 0).new _).new _), (selfs (all_cons (o := .cells [.int .i64 op, .int .i64 qa, .int .i64 qb, .int .i64 qc, .int .i64 qt, .int .i64 qn]) Z1 (OSub.cells (.cons (sub_clo rfl) (.cons (sub_clo rfl) (.cons (sub_clo rfl) (.cons (sub_clo rfl) (.cons (sub_clo rfl) (.cons (sub_clo rfl) .nil))))))) (all_cons (o := .cells (Z1w rest)) Z1 (OSub.cells (subs_clo (ccells_clo _))) (Z25))))⟩, Z2b Z1⟩⟩
    ·omega
  ·exact ⟨Zy, by ((try dsimp only); first | done | (intro y hy; cases hy)), Z0e, by ((try dsimp only); first | done | (exact shp_len op))⟩
  rintro o e1 s1 ⟨a, lv1, M1, m2, ha, (⟨rfl, hx, rfl, rfl⟩ | ⟨rfl, hx, rfl, rfl⟩), rfl, rfl⟩
  ·
   obtain ⟨i, rest⟩ := a;obtain ⟨i0, i1, i2, i3⟩ := ha;dsimp only at hx i0 i1 i2 i3;dsimp only;try rw [if_pos rfl]
   refine Z1u ?_;refine Z1t Try.cfgOk hS ?_;refine aK 4 ?_;refine aT (fun h8 => ?_) (fun h8 => ?_)
   ·have c9e : (((rest.1 == op) && ((rest.2.1 == 0) && ((rest.2.2.1 == 0) && ((rest.2.2.2.1 == 0) && ((rest.2.2.2.2.1 == 0) && ((rest.2.2.2.2.2 == 0) && true))))))) = true := Eq.trans Z1 h8;clear h8;have c9 : rest.1 = op ∧ rest.2.1 = 0 ∧ rest.2.2.1 = 0 ∧ rest.2.2.2.1 = 0 ∧ rest.2.2.2.2.1 = 0 ∧ rest.2.2.2.2.2 = 0 := ⟨eq_of_beq (and_l c9e), eq_of_beq (and_l (and_r c9e)), eq_of_beq (and_l (and_r (and_r c9e))), eq_of_beq (and_l (and_r (and_r (and_r c9e)))), eq_of_beq (and_l (and_r (and_r (and_r (and_r c9e))))), eq_of_beq (and_l (and_r (and_r (and_r (and_r (and_r c9e))))))⟩;clear c9e;refine aN ?_;refine Z1z ?_;exact ⟨[.bool true], Z1, fs_to (Z23 rfl) (congrArg Value.bool Zk), Zle⟩
   ·have c9e : (((rest.1 == op) && ((rest.2.1 == 0) && ((rest.2.2.1 == 0) && ((rest.2.2.2.1 == 0) && ((rest.2.2.2.2.1 == 0) && ((rest.2.2.2.2.2 == 0) && true))))))) = false := Eq.trans Z1 h8;clear h8;have c9 : ¬ (rest.1 = op ∧ rest.2.1 = 0 ∧ rest.2.2.1 = 0 ∧ rest.2.2.2.1 = 0 ∧ rest.2.2.2.2.1 = 0 ∧ rest.2.2.2.2.2 = 0) := fun q => Bool.noConfusion ((c9e).symm.trans (and_i (beq_iff_eq.2 q.1) (and_i (beq_iff_eq.2 q.2.1) (and_i (beq_iff_eq.2 q.2.2.1) (and_i (beq_iff_eq.2 q.2.2.2.1) (and_i (beq_iff_eq.2 q.2.2.2.2.1) (and_i (beq_iff_eq.2 q.2.2.2.2.2) (rfl))))))))
    clear c9e;refine aN ?_;refine Z1z ?_;exact ⟨[.bool false], Z1, fs_to (Z23 rfl) (congrArg Value.bool Zk), Zle⟩
  ·
   obtain ⟨i, rest⟩ := a;obtain ⟨i0, i1, i2, i3⟩ := ha;dsimp only at hx i0 i1 i2 i3;dsimp only;exact ⟨[.bool false], Z1, fs_to (Z23 rfl) (congrArg Value.bool Zk), Zle⟩
 ·
  refine aC 62 [.int .i64 op] (.tuple #[.string (bstr (shp op)), .bool false]) _ rfl (rc_eq (hC62 _ _ _ _ (con_shape_at op  _)) (shape_f q1)) ?_;refine aN ?_;refine Z1u (Z1u ?_);refine kK Try.cfgOk hS ?_;refine kT ?_;refine Z1u ?_;refine kK Try.cfgOk hS ?_;refine Z1z ?_;exact ⟨[.bool false], Z1, fs_to (Z23 rfl) (congrArg Value.bool Zk), Zle⟩
noncomputable def con_pgood : Con Try.prog 0 := Con.pure (α := Int × Int × Int × Int × Int × Int × Int) 54 (fun z9 => [.agg #[.int .i64 z9.1, .int .i64 z9.2.1, .int .i64 z9.2.2.1, .int .i64 z9.2.2.2.1, .int .i64 z9.2.2.2.2.1, .int .i64 z9.2.2.2.2.2.1], .int .i64 z9.2.2.2.2.2.2]) (fun z9 => .bool (tf (goodC (z9.1, z9.2.1, z9.2.2.1, z9.2.2.2.1, z9.2.2.2.2.1, z9.2.2.2.2.2.1) z9.2.2.2.2.2.2))) (fun z9 => True) (by
 rintro ⟨a0, a1, a2, a3, a4, a5, a6⟩ ⟨b0, b1, b2, b3, b4, b5, b6⟩ h
 simp only [injA] at h
 first | exact h | (simp only [Prod.ext_iff, h, and_self, and_true, true_and]; done) | simp_all [Prod.ext_iff]) (fun _ => rfl) (fun _ => rfl) 400 (by
 rintro ⟨a0, a1, a2, a3, a4, a5, a6⟩ _
 exact pgood_sc a0 a1 a2 a3 a4 a5 a6 )
theorem con_pgood_at (op : Int) (qa : Int) (qb : Int) (qc : Int) (qt : Int) (qn : Int) (bh : Int)  (s : St) : con_pgood.rel [.agg #[.int .i64 op, .int .i64 qa, .int .i64 qb, .int .i64 qc, .int .i64 qt, .int .i64 qn], .int .i64 bh] s (.bool (tf (goodC (op, qa, qb, qc, qt, qn) bh))) s := con_pure (op, qa, qb, qc, qt, qn, bh) trivial s
end Go.Proofs.Ytegigohhnplomaa