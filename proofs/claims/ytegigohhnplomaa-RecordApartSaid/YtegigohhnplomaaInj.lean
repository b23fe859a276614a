/- Unlike good records have unlike bytes. -/
import Derived.Test.YtegigohhnplomaaEncode
import Derived.Test.YtegigohhnplomaaAiCon
set_option linter.unusedVariables false
set_option linter.unusedSimpArgs false
set_option linter.unnecessarySimpa false
namespace Go.Proofs.Ytegigohhnplomaa
open Go.Ai
theorem u64_inj {x y : Int} (hx : in64 x) (hy : in64 y) (h : u64 x = u64 y) : x = y := by unfold u64 in64 at *; omega
theorem fold_inj {x y : Int} (hx : in64 x) (hy : in64 y) (h : fold x = fold y) : x = y := by rw [← unf_fold hx, ← unf_fold hy, h]
theorem uvx {x y : Nat} {r s : List UInt8} (h : uv x ++ r = uv y ++ s) : x = y ∧ r = s := uv_inj (x + 1) (Nat.lt_succ_self x) h
theorem catB_inj {α : Type} {f : α → List UInt8} : ∀ (l m : List α) {r s : List UInt8}, (∀ x ∈ l, ∀ y ∈ m, ∀ r s, f x ++ r = f y ++ s → x = y ∧ r = s) → l.length = m.length → catB f l ++ r = catB f m ++ s → l = m ∧ r = s
  | [], [], r, s, _, _, h => ⟨rfl, h⟩
  | [], _ :: _, _, _, _, h, _ => by cases h
  | _ :: _, [], _, _, _, h, _ => by cases h
  | x :: l, y :: m, r, s, hf, hl, h => by
    have e : ∀ (z : α) (n : List α) (t : List UInt8), catB f (z :: n) ++ t = f z ++ (catB f n ++ t) := fun z n t => by simp [catB]
    rw [e, e] at h
    obtain ⟨h1, h2⟩ := hf x (List.mem_cons_self ..) y (List.mem_cons_self ..) _ _ h
    obtain ⟨h3, h4⟩ := catB_inj l m (fun a ha b hb => hf a (List.mem_cons_of_mem _ ha) b (List.mem_cons_of_mem _ hb)) (Nat.succ.inj hl) h2
    exact ⟨by rw [h1, h3], h4⟩
def fo (k : Nat) (c : Code) : Int := if k = 1 then c.2.1 else if k = 2 then c.2.2.1 else if k = 3 then c.2.2.2.1 else if k = 4 then c.2.2.2.2.1 else c.2.2.2.2.2
theorem fld_fo (x : UInt8) (c : Code) : fld x c = fo (offL x) c := by unfold fld offL fo; (repeat' split) <;> first | rfl | omega
theorem fo_clr {x : UInt8} {k : Nat} {c : Code} (h : ¬ offL x = k) (hk : 1 ≤ k ∧ k ≤ 5) : fo k (clr x c) = fo k c := by
  unfold offL at h
  unfold clr
  by_cases c1 : x.toNat = 97 ∨ x.toNat = 115
  · rw [if_pos c1] at h ⊢; unfold fo; (repeat' split) <;> first | rfl | omega
  rw [if_neg c1] at h ⊢
  by_cases c2 : x.toNat = 98
  · rw [if_pos c2] at h ⊢; unfold fo; (repeat' split) <;> first | rfl | omega
  rw [if_neg c2] at h ⊢
  by_cases c3 : x.toNat = 99
  · rw [if_pos c3] at h ⊢; unfold fo; (repeat' split) <;> first | rfl | omega
  rw [if_neg c3] at h ⊢
  by_cases c4 : x.toNat = 116
  · rw [if_pos c4] at h ⊢; unfold fo; (repeat' split) <;> first | rfl | omega
  rw [if_neg c4] at h ⊢
  unfold fo; (repeat' split) <;> first | rfl | omega
theorem fo_zer {k : Nat} (hk : 1 ≤ k ∧ k ≤ 5) : ∀ (l : List UInt8) (c : Code), (∀ z ∈ l, ¬ offL z = k) → fo k (zer l c) = fo k c
  | [], _, _ => rfl
  | x :: l, c, h => (fo_zer hk l (clr x c) fun z hz => h z (List.mem_cons_of_mem _ hz)).trans (fo_clr (h x (List.mem_cons_self ..)) hk)
theorem code_eq {l : List UInt8} {x y : Code} (h1 : x.1 = y.1) (hf : ∀ z ∈ l, fld z x = fld z y) (hx : (zer l x).2 = (0, 0, 0, 0, 0)) (hy : (zer l y).2 = (0, 0, 0, 0, 0)) : x = y := by
  have z0 : ∀ {k : Nat} {c : Code}, c.2 = (0, 0, 0, 0, 0) → fo k c = 0 := fun {k c} h => by
    obtain ⟨c1, c2⟩ := c
    obtain rfl : c2 = _ := h
    unfold fo
    (repeat' split) <;> rfl
  have key : ∀ k, 1 ≤ k ∧ k ≤ 5 → fo k x = fo k y := fun k hk => by
    by_cases hz : ∃ z ∈ l, offL z = k
    · obtain ⟨z, h2, rfl⟩ := hz
      rw [← fld_fo, ← fld_fo]
      exact hf z h2
    · have hn : ∀ z ∈ l, ¬ offL z = k := fun z h2 h3 => hz ⟨z, h2, h3⟩
      rw [← fo_zer hk l x hn, ← fo_zer hk l y hn, z0 hx, z0 hy]
  exact Prod.ext h1 (Prod.ext (key 1 (by decide)) (Prod.ext (key 2 (by decide)) (Prod.ext (key 3 (by decide)) (Prod.ext (key 4 (by decide)) (key 5 (by decide))))))
theorem encF_inj {x y : Code} (hx : inC x) (hy : inC y) : ∀ (l : List UInt8) {r s : List UInt8}, catB (fun z => encF z x) l ++ r = catB (fun z => encF z y) l ++ s → (∀ z ∈ l, fld z x = fld z y) ∧ r = s
  | [], r, s, h => ⟨fun z hz => by (cases hz), h⟩
  | z :: l, r, s, h => by
    have e : ∀ (c : Code) (t : List UInt8), catB (fun z => encF z c) (z :: l) ++ t = encF z c ++ (catB (fun z => encF z c) l ++ t) := fun c t => by simp [catB]
    rw [e, e] at h
    have h1 : fld z x = fld z y ∧ catB (fun z => encF z x) l ++ r = catB (fun z => encF z y) l ++ s := by
      unfold encF at h
      by_cases hz : z.toNat = 110
      · rw [if_pos hz, if_pos hz] at h
        obtain ⟨q1, q2⟩ := uvx h
        exact ⟨fold_inj (fld_in hx z) (fld_in hy z) q1, q2⟩
      · rw [if_neg hz, if_neg hz] at h
        obtain ⟨q1, q2⟩ := uvx h
        exact ⟨u64_inj (fld_in hx z) (fld_in hy z) q1, q2⟩
    obtain ⟨h3, h4⟩ := encF_inj hx hy l h1.2
    refine ⟨fun w hw => ?_, h4⟩
    rcases List.mem_cons.1 hw with rfl | hw
    · exact h1.1
    · exact h3 w hw
theorem encC_inj {x y : Code} {bx by_ : Int} {r s : List UInt8} (hx : inC x) (hy : inC y) (gx : goodC x bx) (gy : goodC y by_) (h : encC x ++ r = encC y ++ s) : x = y ∧ r = s := by
  unfold encC at h
  rw [List.cons_append, List.cons_append] at h
  obtain ⟨h1, h2⟩ := List.cons.inj h
  have e : x.1 = y.1 := by
    have q1 := gx.1
    have q2 := gy.1
    have q3 := congrArg UInt8.toNat h1
    rw [UInt8.toNat_ofNat', UInt8.toNat_ofNat'] at q3
    omega
  rw [← e] at h2
  obtain ⟨h3, h4⟩ := encF_inj hx hy _ h2
  have g2 := gy.2.2
  rw [← e] at g2
  exact ⟨code_eq e h3 gx.2.2 g2, h4⟩
theorem check_good {fu : Int} {co : List Code} (h : checkP fu co) {x : Code} (hx : x ∈ co) : ∃ b, goodC x b := by
  obtain ⟨i, hi, e⟩ := List.mem_iff_getElem.1 hx
  have hx : co[i]? = some x := by rw [List.getElem?_eq_getElem hi, e]
  exact ⟨_, Classical.not_not.1 fun q => h.2 i hi ⟨x, hx, q⟩⟩
theorem prog_inj {fu fv : Int} {co cp : List Code} (h1 : checkP fu co) (h2 : checkP fv cp) (i1 : ∀ c ∈ co, inC c) (i2 : ∀ c ∈ cp, inC c) (h : progB fu co = progB fv cp) : fu = fv ∧ co = cp := by
  unfold progB at h
  obtain ⟨q1, q2⟩ := uvx h
  obtain ⟨q3, q4⟩ := uvx q2
  have r1 := h1.1.1
  have r2 := h2.1.1
  have e : fu = fv := by unfold u64 at q1; omega
  have q5 := catB_inj (f := encC) co cp (r := []) (s := []) (fun x hx y hy r s q => by
    obtain ⟨b1, g1⟩ := check_good h1 hx
    obtain ⟨b2, g2⟩ := check_good h2 hy
    exact encC_inj (i1 x hx) (i2 y hy) g1 g2 q) q3 (by rw [List.append_nil, List.append_nil, q4])
  exact ⟨e, q5.1⟩
theorem keysB_inj {l m : List Key} {r s : List UInt8} (hl : ∀ k ∈ l, in64 k.1 ∧ in64 k.2) (hm : ∀ k ∈ m, in64 k.1 ∧ in64 k.2) (h : keysB l ++ r = keysB m ++ s) : l = m ∧ r = s := by
  unfold keysB at h
  rw [List.append_assoc, List.append_assoc] at h
  obtain ⟨q1, q2⟩ := uvx h
  refine catB_inj l m (fun x hx y hy r s q => ?_) q1 q2
  unfold kb at q
  rw [List.append_assoc, List.append_assoc] at q
  obtain ⟨p1, p2⟩ := uvx q
  obtain ⟨p3, p4⟩ := uvx p2
  exact ⟨Prod.ext (u64_inj (hl x hx).1 (hm y hy).1 p1) (fold_inj (hl x hx).2 (hm y hy).2 p3), p4⟩
theorem spansB_inj {l m : List Span} {r s : List UInt8} (hl : ∀ k ∈ l, in64 k.1 ∧ in64 k.2.1 ∧ in64 k.2.2) (hm : ∀ k ∈ m, in64 k.1 ∧ in64 k.2.1 ∧ in64 k.2.2) (h : spansB l ++ r = spansB m ++ s) : l = m ∧ r = s := by
  unfold spansB at h
  rw [List.append_assoc, List.append_assoc] at h
  obtain ⟨q1, q2⟩ := uvx h
  refine catB_inj l m (fun x hx y hy r s q => ?_) q1 q2
  unfold sb at q
  rw [List.append_assoc, List.append_assoc, List.append_assoc, List.append_assoc] at q
  obtain ⟨p1, p2⟩ := uvx q
  obtain ⟨p3, p4⟩ := uvx p2
  obtain ⟨p5, p6⟩ := uvx p4
  exact ⟨Prod.ext (u64_inj (hl x hx).1 (hm y hy).1 p1) (Prod.ext (fold_inj (hl x hx).2.1 (hm y hy).2.1 p3) (fold_inj (hl x hx).2.2 (hm y hy).2.2 p5)), p6⟩
theorem risW_dead {l : List Wr} (h : risW l) {x : Wr} (hx : x ∈ l) (hd : x.2.2.2 = true) : x.2.2.1 = 0 := by
  obtain ⟨i, hi, e⟩ := List.mem_iff_getElem.1 hx
  have hx : l[i]? = some x := by rw [List.getElem?_eq_getElem hi, e]
  exact Classical.not_not.1 fun q => h ⟨i, hi, badW_y2 hx hd q⟩
theorem flag_inj {a b : Bool} {r s : List UInt8} (h : [bif a then (1 : UInt8) else 0] ++ r = [bif b then 1 else 0] ++ s) : a = b ∧ r = s := by
  obtain ⟨h1, h2⟩ := List.cons.inj h
  refine ⟨?_, h2⟩
  cases a <;> cases b <;> first | rfl | (simp at h1)
theorem writes_inj {l m : List Wr} (gl : risW l) (gm : risW m) (hl : ∀ w ∈ l, inW w) (hm : ∀ w ∈ m, inW w) (hn : l.length = m.length) (h : catB wrB l = catB wrB m) : l = m := by
  refine (catB_inj l m (r := []) (s := []) (fun x hx y hy r s q => ?_) hn (by rw [h])).1
  unfold wrB at q
  simp only [List.append_assoc] at q
  obtain ⟨p1, p2⟩ := uvx q
  obtain ⟨p3, p4⟩ := uvx p2
  obtain ⟨p5, p6⟩ := flag_inj p4
  have e1 := u64_inj (hl x hx).1 (hm y hy).1 p1
  have e2 := fold_inj (hl x hx).2.1 (hm y hy).2.1 p3
  cases hd : x.2.2.2
  · have hd2 := p5.symm.trans hd
    rw [hd, hd2] at p6
    obtain ⟨p7, p8⟩ := uvx p6
    exact ⟨Prod.ext e1 (Prod.ext e2 (Prod.ext (fold_inj (hl x hx).2.2 (hm y hy).2.2 p7) p5)), p8⟩
  · have hd2 := p5.symm.trans hd
    rw [hd, hd2] at p6
    exact ⟨Prod.ext e1 (Prod.ext e2 (Prod.ext ((risW_dead gl hx hd).trans (risW_dead gm hy hd2).symm) p5)), p6⟩
def inK (l : List Key) : Prop := l.length ≤ 4000 ∧ ∀ k ∈ l, in64 k.1 ∧ in64 k.2
def inS (l : List Span) : Prop := l.length ≤ 4000 ∧ ∀ k ∈ l, in64 k.1 ∧ in64 k.2.1 ∧ in64 k.2.2
theorem inK.ok {l : List Key} (h : inK l) : okK l := ⟨h.1, fun k hk => (h.2 k hk).2⟩
theorem inS.ok {l : List Span} (h : inS l) : okS l := ⟨h.1, fun k hk => (h.2 k hk).2⟩
theorem len_inj {p q r s : List UInt8} (h : (uv p.length ++ p) ++ r = (uv q.length ++ q) ++ s) : p = q ∧ r = s := by
  rw [List.append_assoc, List.append_assoc] at h
  obtain ⟨h1, h2⟩ := uvx h
  exact List.append_inj h2 h1
theorem enc_inj {sq : Int} {vl : Bool} {fu : Int} {co : List Code} {rs : List Key} {ss : List Span} {ws : List Key} {wr : List Wr} {zq : Int} {zl : Bool} {zu : Int} {zo : List Code} {zr : List Key} {zs : List Span} {zw : List Key} {ze : List Wr} (ga : goodR_ sq vl fu co rs ss ws wr) (gb : goodR_ zq zl zu zo zr zs zw ze) (a1 : inK rs) (a2 : inS ss) (a3 : inK ws) (a4 : ∀ c ∈ co, inC c) (a5 : ∀ w ∈ wr, inW w) (b1 : inK zr) (b2 : inS zs) (b3 : inK zw) (b4 : ∀ c ∈ zo, inC c) (b5 : ∀ w ∈ ze, inW w)
    (h : encB sq vl fu co rs ss ws wr = encB zq zl zu zo zr zs zw ze) : sq = zq ∧ vl = zl ∧ ((fu : Int) = zu ∧ co = zo) ∧ (rs = zr ∧ ss = zs ∧ ws = zw) ∧ wr = ze := by
  unfold encB at h
  have h1 := (List.append_inj' h rfl).1
  unfold bodyB at h1
  obtain ⟨p1, p2⟩ := uvx h1
  have e1 : sq = zq := by
    have q1 := ga.1
    have q2 := gb.1
    unfold u64 at p1
    omega
  obtain ⟨e2, p3⟩ := flag_inj p2
  refine ⟨e1, e2, ?_⟩
  cases hv : vl
  · have hv2 := e2.symm.trans hv
    have ga := (good_c hv).1 ga
    have gb := (good_c hv2).1 gb
    rw [hv, hv2] at p3
    simp only [cond_false] at p3
    obtain ⟨p4, p5⟩ := len_inj p3
    have p6 := (len_inj (p := putP rs ss ws) (q := putP zr zs zw) (r := []) (s := []) (by rw [List.append_nil, List.append_nil]; exact p5)).1
    obtain ⟨e3, e4⟩ := prog_inj ga.2.2.1 gb.2.2.1 a4 b4 p4
    unfold putP at p6
    rw [tf_true ga.2.2.2, tf_true gb.2.2.2, if_pos rfl, if_pos rfl] at p6
    unfold footB at p6
    obtain ⟨e5, p7⟩ := keysB_inj a1.2 b1.2 p6
    obtain ⟨e6, p8⟩ := spansB_inj a2.2 b2.2 p7
    have e7 := (keysB_inj (r := []) (s := []) a3.2 b3.2 (by rw [p8])).1
    exact ⟨⟨e3, e4⟩, ⟨e5, e6, e7⟩, by rw [List.eq_nil_of_length_eq_zero ga.2.1, List.eq_nil_of_length_eq_zero gb.2.1]⟩
  · have hv2 := e2.symm.trans hv
    have ga := (good_v hv).1 ga
    have gb := (good_v hv2).1 gb
    rw [hv, hv2] at p3
    simp only [cond_true] at p3
    obtain ⟨p4, p5⟩ := uvx p3
    have n0 : ∀ {α : Type} {l : List α}, l.length = 0 → l = [] := fun h => List.eq_nil_of_length_eq_zero h
    have qa := ga.2.1
    have qb := gb.2.1
    exact ⟨⟨by omega, by rw [n0 qa.2.1, n0 qb.2.1]⟩, ⟨by rw [n0 (l := rs) (by omega), n0 (l := zr) (by omega)], by rw [n0 (l := ss) (by omega), n0 (l := zs) (by omega)], by rw [n0 (l := ws) (by omega), n0 (l := zw) (by omega)]⟩, writes_inj ga.2.2 gb.2.2 a5 b5 p4 p5⟩
end Go.Proofs.Ytegigohhnplomaa