/- The interpreter: what holds of it. -/
import Derived.Test.YtgplkbfjlidinabGreatDoorAiCon
import Derived.Shelf.Strconv.Itoa3
import Derived.Shelf.Strings.OnBuilder
import Derived.Shelf.Strings.Split
import Derived.Test.YtgplkbfjlidinabGreatDoorKit
set_option linter.unusedVariables false
set_option linter.unusedSimpArgs false
set_option linter.unnecessarySimpa false
set_option maxHeartbeats 1000000
/-
  A table among the variables, and what the kit knows of strconv.Itoa, taken over.
-/
namespace Go.Ai
open Go.Sort Go.Shelf Go.Proofs
theorem vr_int {β : Bij} {k : IntKind} {n : Int} {x : Value} (h : VR β (.int k n) x) : x = .int k n := Z1l
def powName : String := "internal/strconv.uint64pow10"
section
variable {P : Program} {K : Code → Prop} {β : Bij} {own : Nat → Option Nat} {s : St} {w : World} {G : Nat}
theorem tabIs_of {g : Nat → Option AObj} (hs : SR K β own g w) (hG : Glob β G) (h : 1000 ≤ G) (hn : P.globalNamed powName = some (gPow G)) : Lib.TabIs P w powName .u64 Lib.pow10Tab := by
 obtain ⟨h1, h2⟩ := hG.tab h;obtain ⟨_, _, c, ty, fr, h3, h4⟩ := hs.ice.fx _ _ h1;unfold Lib.TabIs World.var?;rw [hn];show (match w.heap[gPow G]? with | some (.cells cs _ _) => some cs | _ => none) = _;rw [h3];show some c = some _;refine congrArg some (Array.toList_inj.1 (List.ext_getElem? fun j => ?_));show c.toList[j]? = powTab[j]?;have hlen : c.toList.length = powTab.length := by rw [Array.length_toList, h4]
 by_cases hj : j < powTab.length
 ·obtain ⟨y, hy⟩ : ∃ y, powTab[j]? = some y := ⟨_, List.getElem?_eq_getElem hj⟩;obtain ⟨_, _, _, _, x, h5, h6⟩ := hs.ice.at_ _ _ _ (h2 j y hy);have hv : ∃ z, y = .int .u64 z := by
   have := List.mem_of_getElem? hy;unfold powTab at this;rw [List.mem_map] at this;obtain ⟨i, _, hi⟩ := this;exact ⟨_, hi.symm⟩
  obtain ⟨z, rfl⟩ := hv;obtain rfl := vr_int h6;unfold World.cell? at h5;rw [h3] at h5;simp only [Option.isSome_none, Bool.false_eq_true, if_false] at h5;rw [Array.getElem?_toList, h5, hy]
 ·rw [List.getElem?_eq_none (by rw [hlen]; omega), List.getElem?_eq_none Z4]
structure VarsOk (P : Program) (w : World) (G : Nat) : Prop where
 big : 1000 ≤ G
 tab : P.globalNamed powName = some (gPow G)
 pow : Lib.TabIs P w powName .u64 Lib.pow10Tab
 err : ∀ b, b + 1 = gE1 G ∨ b + 1 = gE2 G → ∃ p, w.cell? ⟨b, 0, none⟩ = some (.iface (gT G) p) ∧ refy p = true
 mx : ∀ b, b + 1 = gMx G → ∃ m, w.cell? ⟨b, 0, none⟩ = some (.int .i64 m)
def layE (w : World) (G b j : Nat) (v : Value) : Prop := j = 0 ∧ (b + 1 = gE1 G ∨ b + 1 = gE2 G) ∧ v = .iface (gT G) (.chan (some 0)) ∧ ∃ p, w.cell? ⟨b, 0, none⟩ = some (.iface (gT G) p) ∧ refy p = true
def layG (P : Program) (w : World) (G : Nat) : Bij := { layB P w with ice := fun b j v => layI P w b j v ∨ layE w G b j v }
theorem lay_leG : (layB P w).le (layG P w G) := ⟨fun _ _ h => h, fun _ _ _ h => h, fun _ h => h, fun _ _ _ h => .inl h, fun _ _ h => h⟩
theorem dom_layG (w : World) (i : Nat) : ¬ (layG P w G).dom i := by
 rintro (⟨b, h⟩ | ⟨hi, L, h⟩ | h) <;> cases h
theorem sr_layG (g : Nat → Option AObj) (w : World) : SR K (layG P w G) own00 g w where
 obj i b h := Z02
 arr i hi L h := Z02
 loc i hi hi' L L' h := Z02
 blk i hi L h := Z02
 one i h := by obtain ⟨b, h⟩ := h; cases h
 small b i h := Z02
 vir i _ h := Z02
 ice := ⟨fun b j v h => by
  rcases h with h | ⟨rfl, _, rfl, p, h1, h2⟩
  ·obtain ⟨a1, a2, a3, a4, x, a5, a6⟩ := (sr_lay (K := K) (P := P) g w).ice.at_ b j v h;exact ⟨a1, a2, a3, a4, x, a5, a6.mono lay_leG⟩
  ·exact ⟨rfl, (cell_none h1).2.2, rfl, rfl, _, h1, .iface (.junk 0 h2 fun i hi => by rw [dec_zero] at hi; cases hi)⟩, fun b n h => (sr_lay (K := K) (P := P) g w).ice.fx b n h⟩
theorem glob_lay (h : VarsOk P w G) : Glob (layG P w G) G where
 one i hi := by
  have hb := h.big;have : gl G = 0 := by
   unfold gl;have : Nat.blt G 1000 = false := by
    cases hb : Nat.blt G 1000 with
    | false => rfl
    | true => have := Nat.le_of_ble_eq_true hb; omega
   rw [this]; rfl
  omega
 tab _ := by
  have h1 := h.pow;unfold Lib.TabIs World.var? at h1;rw [h.tab] at h1;have hh : ∃ ty fr, w.heap[gPow G]? = some (.cells powTab.toArray ty fr) := by
   revert h1
   show (match w.heap[gPow G]? with | some (.cells cs _ _) => some cs | _ => none) = some powTab.toArray → _;intro h;split at h
   ·rename_i hq;cases h;exact ⟨_, _, hq⟩
   ·cases h
  obtain ⟨ty, fr, hh⟩ := hh;refine ⟨⟨_, ty, fr, hh, Z0u⟩, fun j v hv => .inl (.inl ⟨?_, ?_⟩)⟩
  ·have := List.mem_of_getElem? hv;unfold powTab at this;rw [List.mem_map] at this;obtain ⟨i, _, rfl⟩ := this;rfl
  ·unfold World.cell?;rw [hh];simpa using hv
 err _ b hb := .inr ⟨rfl, hb, rfl, h.err b hb⟩
 mx _ b hb := let ⟨m, q⟩ := h.mx b hb; ⟨m, .inl (.inl ⟨rfl, q⟩)⟩
theorem err_of {g : Nat → Option AObj} (hs : SR K β own g w) (hG : Glob β G) (h : 1000 ≤ G) {b : Nat} (hb : b + 1 = gE1 G ∨ b + 1 = gE2 G) : ∃ p, w.cell? ⟨b, 0, none⟩ = some (.iface (gT G) p) := by
 obtain ⟨_, _, _, _, x, h1, h2⟩ := hs.ice.at_ _ _ _ (hG.err h b hb);cases h2 with
 | iface h2 => exact ⟨_, h1⟩
theorem mx_of {g : Nat → Option AObj} (hs : SR K β own g w) (hG : Glob β G) (h : 1000 ≤ G) {b : Nat} (hb : b + 1 = gMx G) : ∃ m, w.cell? ⟨b, 0, none⟩ = some (.int .i64 m) := by
 obtain ⟨m, q⟩ := hG.mx h b hb;obtain ⟨_, _, _, _, x, h1, h2⟩ := hs.ice.at_ _ _ _ q;obtain rfl := vr_int h2;exact ⟨m, h1⟩
theorem tab_below0 {w w' : World} {n : String} {k : IntKind} {l : List Int} (h : Lib.TabIs P w n k l) (hb : RowKit.Below w.heap.size w w') : Lib.TabIs P w' n k l := by
  unfold Lib.TabIs World.var? at h ⊢;cases hg : P.globalNamed n with
  | none => rw [hg] at h; cases h
  | some g =>
    rw [hg] at h;rw [← h];show (match w'.heap[g]? with | some (.cells cs _ _) => some cs | _ => none) = (match w.heap[g]? with | some (.cells cs _ _) => some cs | _ => none);rcases Nat.lt_or_ge g w.heap.size with hlt | hge
    · rw [hb.block g hlt]
    · exfalso
      have : (match w.heap[g]? with | some (.cells cs _ _) => some cs | _ => none) = some ((l.map (Value.int k)).toArray) := h;rw [Array.getElem?_eq_none hge] at this;cases this
theorem cell_below {w w' : World} {b o : Nat} {v : Value} (h : w.cell? ⟨b, o, none⟩ = some v) (hb : RowKit.Below w.heap.size w w') : w'.cell? ⟨b, o, none⟩ = some v := by
 rw [hb.cell (p := ⟨b, o, none⟩) (cell_none h).2.2];exact h
theorem VarsOk.below {w w' : World} (h : VarsOk P w G) (hb : RowKit.Below w.heap.size w w') : VarsOk P w' G where
 big := h.big
 tab := h.tab
 pow := tab_below0 h.pow hb
 err b q := let ⟨p, q1, q2⟩ := h.err b q; ⟨p, cell_below q1 hb, q2⟩
 mx b q := let ⟨m, q1⟩ := h.mx b q; ⟨m, cell_below q1 hb⟩
theorem varsOk_of {g : Nat → Option AObj} (hs : SR K β own g w) (hG : Glob β G) (h : 1000 ≤ G) (hn : P.globalNamed powName = some (gPow G)) : VarsOk P w G where
  big := h
  tab := hn
  pow := tabIs_of hs hG h hn
  err b hb := by
    obtain ⟨_, _, _, _, x, h1, h2⟩ := hs.ice.at_ _ _ _ (hG.err h b hb);cases h2 with
    | iface h2 =>
      refine ⟨_, h1, ?_⟩;cases h2 with
      | junk _ h3 _ => exact h3
  mx b hb := mx_of hs hG h hb
theorem grown_ext2 (hs : SR K β own s.get w) (n : Nat) (os : Array Obj) : Ext β own s w β own s (Sort.grow (w.drewN n) os) ∧ SR K β own s.get (Sort.grow (w.drewN n) os) := by
 have hsz : (Sort.grow (w.drewN n) os).heap.size = w.heap.size + os.size := by simp [Sort.grow, World.drewN]
 refine change hs (fun _ => False) (fun j h => h.elim) (Nat.le_refl _) (Bij.le_refl _) (fun _ _ => rfl) (fun _ _ => rfl) (fun _ _ => rfl) Z4
  (fun b hb _ => ⟨rfl, ?_⟩) (fun _ h => h.elim) (fun _ h => h.elim) (fun _ h => h.elim) (fun _ h => h.elim) (fun _ h => h.elim) (fun b i hb => by have := hs.small b i hb; omega) rfl rfl rfl (e4 := DrLe.of (Nat.le_add_right _ _))
 show (w.heap ++ os)[b]? = _;rw [Array.getElem?_append_left hb]
theorem below_ext (hs : SR K β own s.get w) {w' : World} (hb : RowKit.Below w.heap.size w w') : Ext β own s w β own s w' ∧ SR K β own s.get w' :=
 change hs (fun _ => False) (fun j h => h.elim) (Nat.le_refl _) (Bij.le_refl _) (fun _ _ => rfl) (fun _ _ => rfl) (fun _ _ => rfl) hb.size
  (fun b hlt _ => ⟨rfl, hb.block b hlt⟩) (fun _ h => h.elim) (fun _ h => h.elim) (fun _ h => h.elim) (fun _ h => h.elim) (fun _ h => h.elim) (fun b i hq => by have := hs.small b i hq; have := hb.size; omega) hb.os hb.tape hb.output (e4 := fun h => Z02)
def Z2h (x : List UInt8) : List Value := [.string (bstr x)]
theorem tcells_len (x : List UInt8) : (Z2h x).length = 1 := rfl
theorem tcells_clo (x : List UInt8) : clo.cloL (Z2h x) = true := rfl
theorem tcells_one (x : List UInt8) : (Z2h x).all one = true := rfl
theorem bstr_inj {a b : List UInt8} (h : bstr a = bstr b) : a = b := by
 have := congrArg (fun z => z.data.toList) h;simpa [bstr] using this
theorem tcells_iff {a b : List (List UInt8)} : inlL Z2h 1 a = inlL Z2h 1 b ↔ a = b :=
 ⟨inlL_inj tcells_len fun x y h => by simp only [Z2h, List.cons.injEq, Value.string.injEq, and_true] at h; exact bstr_inj h, fun h => by rw [h]⟩
theorem tcells_row {a b : List (List UInt8)} : rowL Z2h a = rowL Z2h b ↔ a = b := row_iff Zj tcells_len tcells_iff
theorem flatT_at {l : List (List UInt8)} {j : Nat} {x : List UInt8} (h : l[j]? = some x) : (flatL Z2h l)[j]? = some (.string (bstr x)) := by
 have := flatL_sub (f := Z2h) (l := l) (i := j) (o := 0) (w := 1) (x := x) (sz := 1) tcells_len h Zj;have e := congrArg (fun z => z[0]?) this;simpa [List.getElem?_take, List.getElem?_drop, Z2h] using e
theorem itoa_sc {ρ : Ren} (L : LaysM.n171 P ρ) {f : FuncId} (hf : ρ.f 171 = f) (hG : 1000 ≤ G) (hn : P.globalNamed powName = some (gPow G)) (n : Int) (h0 : -9223372036854775808 ≤ n) (h1 : n ≤ 9223372036854775807) :
  SC P G f [.int .i64 n] (St.empty 0) fun v s' => v = .string (bstr (Lib.itoa n)) ∧ s' = St.empty 0 := by
 intro hw β own w args' hs hGl hf' ha cs;subst hf;have en : ∀ args w, (callFunc (ρ.f 171) args).run P w = .ok (.enter (ρ.f 171) args) w := enters_of L.f171 Z3 rfl;obtain ⟨args'⟩ := args';simp only at ha;obtain ⟨a0, r, rfl, h2, ha⟩ := ha.cons_inv;obtain rfl := ha.nil_inv;obtain rfl := vr_int h2;obtain ⟨e, w', fr, ⟨rfl, k, os, rfl⟩, q1, q2, q3⟩ := Any.strconv_Itoa L n h0 h1 w (tabIs_of hs hGl hG hn) cs;obtain ⟨e1, e2⟩ := grown_ext2 hs k os;exact ⟨_, _, β, own, _, _, ⟨rfl, rfl⟩, hw, .refl _, e1, e2, .string _, en _ _, fr, q1, q2, q3⟩
theorem join_sc {ρ : Ren} (L : Lays.n156 P ρ) (X : Builder.Extra P ρ) {f : FuncId} (hf : ρ.f 156 = f) (xs : List (List UInt8)) (sep : List UInt8) (hN : xs.length ≤ 140737488355328) (hlen : (Lib.join xs sep).length ≤ 140737488355328) :
    SC P G f [slL 0 1 xs.length, .string (bstr sep)] ((St.empty 0).new (rowL Z2h xs)) fun v s' => v = .string (bstr (Lib.join xs sep)) ∧ s' = (St.empty 0).new (rowL Z2h xs) := by
  intro hw β own w args' hs hGl hf' ha cs;subst hf;have en : ∀ args w, (callFunc (ρ.f 156) args).run P w = .ok (.enter (ρ.f 156) args) w := enters_of L.f156 Z3 rfl;have hget : ((St.empty 0).new (rowL Z2h xs)).get 0 = some (.arr (flatL Z2h xs) 0 false) := by rw [St.get_new]; rfl
  obtain ⟨args'⟩ := args';simp only at ha;obtain ⟨a0, r, rfl, h0, ha⟩ := ha.cons_inv;obtain ⟨a1, r, rfl, h1, ha⟩ := ha.cons_inv;obtain rfl := ha.nil_inv;obtain rfl : a1 = .string (bstr sep) := by cases h1; rfl
  have hmap : (xs.map bstr).map (·.data.toList) = xs := by
    rw [List.map_map];exact (List.map_congr_left fun x _ => by simp [bstr]).trans (List.map_id _)
  have hsep : (bstr sep).data.toList = sep := by simp [bstr]
  by_cases hnil : xs.length = 0
  · obtain rfl : xs = [] := List.length_eq_zero_iff.1 hnil
    obtain ⟨p, cap, rfl⟩ : ∃ p cap, a0 = .slice p 0 cap := by
      cases h0 <;> exact ⟨_, _, rfl⟩
    obtain ⟨e, w', fr, ⟨rfl, rfl⟩, q1, q2, q3⟩ := Any.strings_Join_none L X p cap (bstr sep) w cs;exact ⟨_, _, β, own, _, _, ⟨rfl, rfl⟩, hw, .refl _, .refl .., hs, .string _, en _ _, fr, q1, q2, q3⟩
  · obtain ⟨L0, c, cap, hL, h2, hlo, hc2, rfl⟩ : ∃ (L0 : ArrLoc) (c : Addr) (cap : Nat), β.arr 0 (xs.length * 1) = some L0 ∧ c = ⟨L0.block, L0.base + (0 - L0.lo), none⟩ ∧ L0.lo ≤ 0 ∧ xs.length ≤ cap ∧ a0 = .slice (some c) xs.length cap := by
      unfold slL at h0;generalize hn : xs.length = n at h0
      cases h0 with
      | sliceArr h h1 h2 hz hs' hc' _ =>
        rcases hc' with ⟨e, g1, _⟩ | ⟨e, _⟩
        · exact ⟨_, _, _, h, e, h1, g1, rfl⟩
        · omega
      | sliceVir h hz => omega
    subst h2;obtain ⟨_, gv⟩ := hs.arr _ _ _ hL _ _ _ hget;obtain ⟨⟨g1, g2, cc, t, fr0, e0, hfr, hcs, g4⟩, gs, go⟩ := gv (Nat.zero_le _);have hcell : ∀ (j : Nat) x, (xs.map bstr)[j]? = some x → w.cell? ⟨L0.block, L0.base + (0 - L0.lo) + j, none⟩ = some (.string x) := fun j x hx => by
      rw [List.getElem?_map, Option.map_eq_some_iff] at hx;obtain ⟨y, hy, rfl⟩ := hx;have hj : j < xs.length := (List.getElem?_eq_some_iff.1 hy).1;obtain ⟨v, v', q1, q2, q3⟩ := g4 j Z4 Z4;rw [flatT_at hy] at q1;obtain rfl := Option.some.inj q1;obtain rfl : v' = .string (bstr y) := by cases q3; rfl
      unfold World.cell?;rw [e0];simp only [Option.isSome_none, Bool.false_eq_true, if_false];rw [← q2]; congr 1; omega
    have hj := Any.strings_Join L X L0.block (L0.base + (0 - L0.lo)) cap (xs.map bstr) (bstr sep) w hcell gs (by simpa using hN) (by simpa using hc2) (by rw [hmap, hsep]; exact hlen);rw [List.length_map, hmap, hsep] at hj;obtain ⟨e, w', fr, ⟨rfl, hb⟩, q1, q2, q3⟩ := hj cs;obtain ⟨e1, e2⟩ := below_ext hs hb;exact ⟨_, _, β, own, _, _, ⟨rfl, rfl⟩, hw, .refl _, e1, e2, .string _, en _ _, fr, q1, q2, q3⟩
end
theorem bstr_append (a b : List UInt8) : bstr a ++ bstr b = bstr (a ++ b) := by
 apply ByteArray.ext;simp [bstr, ByteArray.data_append]
theorem add_bstr {a b : List UInt8} (h : a.length + b.length ≤ 4611686018427387904) : strBin .add (bstr a) (bstr b) = some (.string (bstr (a ++ b))) := by
 show (if (bstr a).size + (bstr b).size ≤ 4611686018427387904 then some (Value.string (bstr a ++ bstr b)) else none) = _;rw [bstr_size, bstr_size, if_pos h, bstr_append]
theorem dec_len : ∀ (k : Nat) {u : Nat}, u < 10 ^ (k + 1) → (Lib.decDigits u).length ≤ k + 1
  | 0, u, h => by
    rw [Lib.decDigits, dif_pos Z15];simp
  | k + 1, u, h => by
    rw [Lib.decDigits];split
    · simp
    · have := dec_len k (u := u / 10) (by rw [Nat.div_lt_iff_lt_mul Zj]; rw [Nat.pow_succ] at h; exact h)
      simp only [List.length_append, List.length_cons, List.length_nil];omega
theorem itoa_len {n : Int} (h : in64 n) : (Lib.itoa n).length ≤ 21 := by
 unfold in64 at h;unfold Lib.itoa;have e : (10 : Nat) ^ (19 + 1) = 100000000000000000000 := Zj
 split
 ·have := dec_len 19 (u := n.natAbs) (by rw [e]; omega);simp only [List.length_cons];omega
 ·have := dec_len 19 (u := n.toNat) (by rw [e]; omega);omega
end Go.Ai
/-
  strings.Split at a separator of one byte: the kit's contract, taken over: a new row of texts.
-/
namespace Go.Ai
open Go.Sort Go.Shelf Go.Proofs Go.RowKit
section
variable {P : Program} {ρ : Ren} {G : Nat}
theorem split_one (L : Lays.n146 P ρ) (hi9 : (P.info? (ρ.t 9)).map (fun i => (i.zero, i.size, i.bytes)) = some (some (.string ByteArray.empty), 1, 16)) (s : ByteArray) (b : UInt8) (w : World) (hs : s.size < 4294967281) :
  Calls P (ρ.f 146) #[.string s, .string ⟨#[b]⟩] w fun e w' =>
   e = .returned (.slice (some ⟨w.heap.size, 0, none⟩) (Lib.countB s ⟨#[b]⟩ + 1) (Lib.countB s ⟨#[b]⟩ + 1)) ∧ w' = w.alloc (.cells ((Lib.splitB ⟨#[b]⟩ 0 (Lib.countB s ⟨#[b]⟩) s).map Value.string).toArray (ρ.t 9)) := by
 have h1 : 1 ≤ ByteArray.size ⟨#[b]⟩ := Nat.le_refl _;have hle := Lib.countB_le ⟨#[b]⟩ h1 s.size s (Nat.le_refl _);have hlen := Lib.splitB_all ⟨#[b]⟩ h1 0 _ s rfl;have hI : ∀ (x : ByteArray) (c : Array Value), x.size ≤ s.size → Calls P (ρ.f 143) #[.string x, .string ⟨#[b]⟩] (w.alloc (.cells c (ρ.t 9))) fun e w' => e = .returned (.int .i64 (Lib.indexB x ⟨#[b]⟩)) ∧ w' = w.alloc (.cells c (ρ.t 9)) := fun x c _ => by
  refine (Any.strings_Index_one { L with } x b _).mono fun e w' ⟨he, hw⟩ => ⟨?_, hw⟩
  rw [he];show _ = Ending.returned (Value.int .i64 (Lib.index x.data.toList [b]));rw [Lib.index_one]
 have hC : Calls P (ρ.f 138) #[.string s, .string ⟨#[b]⟩] w fun e w' => e = .returned (.int .i64 (Lib.countB s ⟨#[b]⟩)) ∧ w' = w := by
  refine (Any.strings_Count_one { L with } s b w).mono fun e w' ⟨he, hw⟩ => ⟨?_, hw⟩
  rw [he];show _ = Ending.returned (Value.int .i64 ((Lib.count s.data.toList [b] : Nat) : Int));rw [Lib.count_one];rfl
 have c := Any.strings_genSplit_core { L with } hi9 s ⟨#[b]⟩ 0 (-1) (Lib.countB s ⟨#[b]⟩ + 1) w hs h1 (Nat.zero_le _) hI hC Zj Zj (by rw [if_pos Zj]; omega);rw [Nat.add_sub_cancel, hlen] at c;have e2 : Lib.cellsOf (Lib.splitB ⟨#[b]⟩ 0 (Lib.countB s ⟨#[b]⟩) s) (Lib.countB s ⟨#[b]⟩ + 1) = ((Lib.splitB ⟨#[b]⟩ 0 (Lib.countB s ⟨#[b]⟩) s).map Value.string).toArray := by rw [← hlen]; exact Lib.cellsOf_full _
 rw [e2] at c;have t3 := L.t3; have t9 := L.t9; have t31 := L.t31;have a3 := L.a3; have a9 := L.a9; have a31 := L.a31;have z3 := L.z3; have v3 := L.v3; have z9 := L.z9; have v9 := L.v9; have z31 := L.z31; have v31 := L.v31;have e221 : ∀ args w, (callFunc (ρ.f 221) args).run P w = .ok (.enter (ρ.f 221) args) w := enters_of L.f221 Z3 rfl
 go_enter L.f146, Body.n146_ntmps ρ
 go_wp2_with (go_at_fn (ρ.f 221); refine c.mono ?_; rintro e w' ⟨rfl, hw⟩; rw [hw])
 go_ret
 exact ⟨rfl, rfl⟩
def Z2e (b : UInt8) (s : List UInt8) : List (List UInt8) := Lib.split s [b]
theorem splitL_eq (b : UInt8) (s : List UInt8) : (Lib.splitB ⟨#[b]⟩ 0 (Lib.countB (bstr s) ⟨#[b]⟩) (bstr s)).map (·.data.toList) = Z2e b s := by
 rw [Lib.splitB_data];simp only [bstr];rfl
theorem splitL_len (b : UInt8) (s : List UInt8) : (Z2e b s).length = Lib.countB (bstr s) ⟨#[b]⟩ + 1 := by
 rw [← splitL_eq, List.length_map];exact Lib.splitB_all ⟨#[b]⟩ (Nat.le_refl _) 0 _ _ rfl
theorem split_sc (L : Lays.n146 P ρ) (hi9 : (P.info? (ρ.t 9)).map (fun i => (i.zero, i.size, i.bytes)) = some (some (.string ByteArray.empty), 1, 16)) {f : FuncId} (hf : ρ.f 146 = f) (b : UInt8) (xs : List UInt8) (hs : xs.length < 4294967281) (hG : gl G = 0) :
  SC P G f [.string (bstr xs), .string (bstr [b])] (St.empty 0) fun v s' => v = slL 0 1 (Z2e b xs).length ∧ s' = (St.empty 0).new (rowL Z2h (Z2e b xs)) := by
 intro hw β own w args' hr hGl hsh ha cs;subst hf;have en : ∀ args w, (callFunc (ρ.f 146) args).run P w = .ok (.enter (ρ.f 146) args) w := enters_of L.f146 Z3 rfl;obtain ⟨args'⟩ := args';simp only at ha;obtain ⟨a0, r, rfl, h0, ha⟩ := ha.cons_inv;obtain ⟨a1, r, rfl, h1, ha⟩ := ha.cons_inv;obtain rfl := ha.nil_inv;obtain rfl : a0 = .string (bstr xs) := by cases h0; rfl
 obtain rfl : a1 = .string (bstr [b]) := by cases h1; rfl
 obtain ⟨e, w', fr, ⟨rfl, rfl⟩, q1, q2, q3⟩ := split_one L hi9 (bstr xs) b w hs cs;have hmap := splitL_eq b xs;have hlen := splitL_len b xs;have hl0 : (Lib.splitB ⟨#[b]⟩ 0 (Lib.countB (bstr xs) ⟨#[b]⟩) (bstr xs)).length = (Z2e b xs).length := by rw [← hmap, List.length_map]
 have hfl : (flatL Z2h (Z2e b xs)).length = (Z2e b xs).length := by rw [flatL_len tcells_len]; omega
 have hfree : Free β (St.empty 0) ((St.empty 0).new (rowL Z2h (Z2e b xs))) := hsh.free;obtain ⟨n1, n2⟩ := new_arr (s' := (St.empty 0).new (rowL Z2h (Z2e b xs))) hr hfree (flatL Z2h (Z2e b xs)) ((Lib.splitB ⟨#[b]⟩ 0 (Lib.countB (bstr xs) ⟨#[b]⟩) (bstr xs)).map Value.string).toArray (ρ.t 9) (0, 0) Z0x (by first | exact .inl rfl | exact .inr rfl | (unfold Loose; simp)) (by simp [hfl, hl0]) (fun j v hv => by
  have hj : j < (Z2e b xs).length := by have := (List.getElem?_eq_some_iff.1 hv).1; omega
  obtain ⟨y, hy⟩ : ∃ y, (Z2e b xs)[j]? = some y := ⟨_, List.getElem?_eq_getElem hj⟩;rw [flatT_at hy] at hv;obtain rfl := Option.some.inj hv;rw [← hmap, List.getElem?_map, Option.map_eq_some_iff] at hy;obtain ⟨z, hz, rfl⟩ := hy;refine ⟨.string z, ?_, ?_⟩
  ·simp [hz]
  ·have : bstr z.data.toList = z := by simp [bstr]
   rw [this];exact .string _)
 refine ⟨_, _, _, _, _, _, ⟨rfl, rfl⟩, hw.new _, ⟨Z0x, fun l hl => ?_⟩, n1, n2, ?_, en _ _, fr, q1, q2, q3⟩
 ·have : (St.empty 0).get l = none := hw l (Nat.zero_le _);rw [this] at hl;exact hl.elim
 ·rw [← hlen];unfold slL;refine .sliceArr (L := ⟨w.heap.size, 0, 0, ((Lib.splitB ⟨#[b]⟩ 0 (Lib.countB (bstr xs) ⟨#[b]⟩) (bstr xs)).map Value.string).toArray.size⟩) ?_ (Nat.zero_le _) Z4 Zj (Nat.zero_le _) (.inl ⟨rfl, Nat.le_refl _, ?_⟩) (fun _ => Z4)
  ·simp [Bij.setArr, St.empty, hfl]
  ·simp [hl0]
end
end Go.Ai