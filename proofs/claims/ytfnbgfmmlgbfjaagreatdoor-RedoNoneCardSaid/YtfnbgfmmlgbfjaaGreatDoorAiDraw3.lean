/-
  Each operation of a drawn region, whenever it comes; the whole region.
-/
import Derived.Test.YtfnbgfmmlgbfjaaGreatDoorAiDraw2
namespace Go.Ai

def tab (g : Nat → Option AObj) : Nat → T AObj
  | 0 => .e
  | n + 1 => match g n with
    | some x => (tab g n).set n x
    | none => tab g n
theorem get_tab (g : Nat → Option AObj) : ∀ (n j : Nat), (tab g n).get j = if j < n then g j else none
  | 0, j => rfl
  | n + 1, j => by
    unfold tab
    split
    · rename_i x hx
      rw [T.get_set, get_tab g n j]
      by_cases h : j = n
      · subst h; rw [if_pos rfl, if_pos (by omega), hx]
      · rw [if_neg h]
        by_cases h2 : j < n
        · rw [if_pos h2, if_pos (by omega)]
        · rw [if_neg h2, if_neg (by omega)]
    · rename_i hx
      rw [get_tab g n j]
      by_cases h : j = n
      · subst h; rw [if_neg (by omega), if_pos (by omega), hx]
      · by_cases h2 : j < n
        · rw [if_pos h2, if_pos (by omega)]
        · rw [if_neg h2, if_neg (by omega)]

section
variable {P : Program} {X : DX} {G : Nat}
variable {K : Code → Prop} {β0 : Bij} {own0 : Nat → Option Nat} {w0 : World} {D : Nat → Prop} {ver : Nat} {β : Bij} {own : Nat → Option Nat} {g : Nat → Option AObj} {w : World} {t : Array Value}
variable {i : Nat} {o : Oper}

theorem step_ext (hX : X.Good G) (I : DI X K β0 own0 w0 D ver β own g w t) (N : Next1 X D i o) {q q' : St} (hq : q.n = (X.S i).n) (hq' : q'.n = (X.S (i + 1)).n) {β' : Bij} {own' : Nat → Option Nat} {w' : World} (e : Ext β own q w β' own' q' w') (h' : SR K β' own' q'.get w')
    {v v' : Value} (hE : X.E (i + 1) = (X.E i).dst o.dst v) (hv : VR β' v v') (ver' : Nat) (verm : ver' ≤ X.m) (verE : ∀ k, X.eff k → ((D k ∨ k = i) ↔ k < ver')) (verP : ver' = 0 ∨ ∃ k, ver' = k + 1 ∧ X.eff k)
    (gI : ∀ id, β'.dom id → ∀ p, ver' ≤ p → p ≤ X.m → id < (X.S p).n → (∀ r, ver' ≤ r → r < p → X.eff r → (X.S r).n ≤ id) → (if id < q'.n then q'.get id else g id) = (X.S p).get id)
    (gJ : ∀ id, ¬ β'.dom id → ∀ p r, p ≤ r → r ≤ ver' → id < (X.S p).n → (X.S r).get id = (X.S p).get id) :
    DI X K β0 own0 w0 (fun j => D j ∨ j = i) ver' β' own' (fun id => if id < q'.n then q'.get id else g id) w' (dstAt t o.dst v') where
  sr := sr_join I.sr e h'
  le := Bij.le_trans I.le e.le
  down := by
    rintro j p (hj | rfl) hp ed hm hb
    · exact .inl (I.down j p hj hp ed hm hb)
    · rw [N.op] at hp
      obtain rfl := Option.some.inj hp
      exact .inl (N.edges ed hm hb)
  verm := verm
  verE := verE
  verP := verP
  tsz := by rw [size_dst]; exact I.tsz
  env := env_step hX I N hE e.le hv
  gI := gI
  gJ := gJ
  free := fun x hid => by
    rcases e.new x hid with h | ⟨h1, h2⟩
    · exact (I.free x h).imp id fun ⟨j, h1, h2, h3⟩ => ⟨j, h1, .inl h2, h3⟩
    · exact .inr ⟨i, op_lt N.op, .inr rfl, by omega, by omega⟩
  size := Nat.le_trans I.size e.size
  cframe := fun b hb ho => by
    obtain ⟨r1, r2⟩ := I.cframe b hb ho
    obtain ⟨r3, r4⟩ := e.cframe b (Nat.lt_of_lt_of_le hb I.size) fun x hx => by
      rw [r1] at hx
      have h1 := ho x hx
      have h2 := dx_n hX (show i + 1 ≤ X.m from op_lt N.op) (Nat.le_refl _)
      omega
    exact ⟨r3.trans r1, r4.trans r2⟩
  os := e.os.trans I.os
  tape := e.tape.trans I.tape
  output := e.output.trans I.output
  keep := fun x hx => by
    have h2 := dx_n hX (show i + 1 ≤ X.m from op_lt N.op) (Nat.le_refl _)
    obtain ⟨r1, r2⟩ := e.keep x (by omega)
    obtain ⟨r3, r4⟩ := I.keep x hx
    exact ⟨r1.trans r3, r2.trans r4⟩

def StepD (P : Program) (X : DX) (K : Code → Prop) (β0 : Bij) (own0 : Nat → Option Nat) (w0 : World) (D : Nat → Prop) (i : Nat) (w : World) (t : Array Value) : Prop :=
  ∃ ver' β' own' g' w' t', DI X K β0 own0 w0 (fun j => D j ∨ j = i) ver' β' own' g' w' t' ∧
    ∀ b ds k cs rest, Steps P (lone (fgo b t ds (.inRegion X.ops (i :: rest) :: k)) cs w) (lone (fgo b t' ds (.inRegion X.ops rest :: k)) cs w')

theorem same_val {C : Cfg} {o : Op} {e : Env} {s : St} {v : Value} (hc : opClass C o = 2) (h : sameAgain C o e s v = true) : evalOp C e.eval s o = some (v, s) := by
  unfold sameAgain at h
  split at h
  · rename_i v' s' hv
    have := veq_eq _ _ h
    subst this
    rw [eval_look hc hv] at hv
    exact hv
  · cases h

/-- where a look at memory may be repeated -/
theorem look_at (hX : X.Good G) (I : DI X K β0 own0 w0 D ver β own g w t) (N : Next1 X D i o) (hc : opClass X.C o.op = 2) {v : Value} (hw : Region.wanted o (yieldedV X.ops (X.E i)) = true) (hv : evalOp X.C (X.E i).eval (X.S i) o.op = some (v, X.S (i + 1)))
    (hk : opClass X.C o.op = 2 → ∀ k, k < i → X.eff k → Bit X.ops i k ∨ sameAgain X.C o.op (X.E i) (X.S k) v = true) :
    ∃ p, p ≤ X.m ∧ SR K β own (X.S p).get w ∧ evalOp X.C (X.E i).eval (X.S p) o.op = some (v, X.S p) := by
  have him := op_lt N.op
  by_cases hA : ∃ k, k < i ∧ X.eff k ∧ ¬ D k
  · -- the first effect that is missing
    obtain ⟨k, hki, hke, hkd, hmin⟩ : ∃ k, k < i ∧ X.eff k ∧ ¬ D k ∧ ∀ q, q < k → X.eff q → D q := by
      obtain ⟨k0, h0⟩ := hA
      induction k0 using Nat.strongRecOn with
      | _ k0 ih =>
        by_cases hq : ∃ q, q < k0 ∧ X.eff q ∧ ¬ D q
        · obtain ⟨q, hq1, hq2, hq3⟩ := hq
          exact ih q hq1 ⟨by omega, hq2, hq3⟩
        · refine ⟨k0, h0.1, h0.2.1, h0.2.2, fun q h1 h2 => ?_⟩
          by_cases hd : D q
          · exact hd
          · exact absurd ⟨q, h1, h2, hd⟩ hq
    have hver : ver ≤ k := by
      by_cases h : k < ver
      · exact absurd ((I.verE k hke).2 h) hkd
      · omega
    refine ⟨k, by omega, sr_at hX I (by omega) hver fun q h1 h2 h3 => ?_, ?_⟩
    · have := (I.verE q h3).1 (hmin q h2 h3)
      omega
    · rcases hk hc k hki hke with hb | hs
      · exact absurd (bit_i I N hb) hkd
      · exact same_val hc hs
  · have hall : ∀ k, k < i → X.eff k → D k := fun k h1 h2 => by
      by_cases hd : D k
      · exact hd
      · exact absurd ⟨k, h1, h2, hd⟩ hA
    by_cases hvi : ver ≤ i
    · refine ⟨i, by omega, sr_at hX I (by omega) hvi fun q h1 h2 h3 => ?_, ?_⟩
      · have := (I.verE q h3).1 (hall q h2 h3)
        omega
      · rw [eval_look hc hv] at hv
        exact hv
    · rcases I.verP with h0 | ⟨k, hk1, hk2⟩
      · omega
      · have hik : i < k := by
          have : k ≠ i := by
            rintro rfl
            exact eff_not N.op (fun _ => by omega) hk2
          omega
        have hdk : D k := (I.verE k hk2).2 (by omega)
        refine ⟨ver, I.verm, sr_at hX I I.verm (Nat.le_refl _) fun q h1 h2 => by omega, ?_⟩
        obtain ⟨ok, hok, hwk, hck⟩ := hk2
        rw [hk1]
        cases did hX hok with
        | skip hw' _ _ => exact absurd hwk hw'
        | low _ _ hc' _ _ _ => exact absurd hc' hck
        | high _ vk _ hvk _ _ hk2' =>
          rcases hk2' i o v _ hik N.op hw hc hv with hb | hs
          · exact absurd hdk (bit_to I N hb)
          · exact same_val hc hs

theorem step_draw (H : CfgOk P X.C (okK G)) (hc : CallSim P (okK G) G X.rc) (hr : RoundSim P (okK G) G X.rc) (hX : X.Good G) (hf : Free β0 X.s0 (X.S X.m)) (hG : Glob β0 G)
    (I : DI X (okK G) β0 own0 w0 D ver β own g w t) (N : Next1 X D i o) : StepD P X (okK G) β0 own0 w0 D i w t := by
  have him : i < X.m := op_lt N.op
  have hwt := wanted_at hX I N
  have hρ := rho_at hX I N hG
  obtain ⟨hok, hnd⟩ := okD_all hX N.op
  have way : ∀ {v' : Value} {w' : World}, Region.wanted o (yieldedV X.ops (X.E i)) = true → OpWay P o t w v' w' → ∀ b ds k cs rest, Steps P (lone (fgo b t ds (.inRegion X.ops (i :: rest) :: k)) cs w) (lone (fgo b (dstAt t o.dst v') ds (.inRegion X.ops rest :: k)) cs w') :=
    fun hw h b ds k cs rest => h b ds k cs X.ops i rest N.op (hwt ▸ hw)
  cases did hX N.op with
  | skip hw hE hS =>
    refine ⟨ver, β, own, g, w, _, step_still hX I N (eff_not N.op fun h => absurd h hw) hE (.undef β), fun b ds k cs rest => .one (st_opSkip N.op ?_)⟩
    rw [← hwt]; simpa using hw
  | low hw v hcl hv hE hk =>
    have hne : ¬ X.eff i := eff_not N.op fun _ => hcl
    have hcase : opClass X.C o.op = 0 ∨ opClass X.C o.op = 1 ∨ opClass X.C o.op = 2 := by omega
    rcases hcase with h0 | h1 | h2
    · have hs : SR (okK G) β own (St.empty 0).get w := I.sr.weak fun _ _ => .inr rfl
      obtain ⟨_, v', hrun, hvr⟩ := evalOp_pure H hs hρ hok (.inl h0) (eval_blind h0 hv (St.empty 0))
      exact ⟨ver, β, own, g, w, _, step_still hX I N hne hE hvr, way hw (.of_run hnd (.inl hrun))⟩
    · -- something new
      obtain ⟨ob, hS, hfresh⟩ := eval_fresh h1 hv
      let q : St := ⟨tab g (X.S i).n, (X.S i).n⟩
      have hqg : ∀ j, q.get j = if j < (X.S i).n then g j else none := get_tab g _
      have hqw : q.WF := fun j hj => by rw [hqg, if_neg (by show ¬ j < _; have : (X.S i).n ≤ j := hj; omega)]
      have hs : SR (okK G) β own q.get w := I.sr.weak fun j _ => by
        rw [hqg]
        split
        · exact .inl rfl
        · exact .inr rfl
      have hfr := free_at hX I N hf
      have hSn : (X.S (i + 1)).n = (X.S i).n + 1 := by rw [hS]; rfl
      have hfq : Free β q (q.new ob) := fun x hx => by
        have := hfr x hx
        rw [hSn] at this
        exact this
      obtain ⟨⟨β', own', w', v', hrun, e, h', hvr⟩, _⟩ := evalOp_sim H hs hqw hfq hρ hok (hfresh q rfl)
      have hq'n : (q.new ob).n = (X.S (i + 1)).n := by rw [hSn]; rfl
      have hq'g : ∀ id, (if id < (q.new ob).n then (q.new ob).get id else g id) = if id = (X.S i).n then some ob else g id := by
        intro id
        have hn : (q.new ob).n = (X.S i).n + 1 := rfl
        have hqn : q.n = (X.S i).n := rfl
        rw [hn, St.get_new, hqn, hqg]
        by_cases h : id = (X.S i).n
        · rw [if_pos (by omega), if_pos h, if_pos h]
        · rw [if_neg h, if_neg h]
          by_cases h2 : id < (X.S i).n
          · rw [if_pos (by omega), if_pos h2]
          · rw [if_neg (by omega)]
      refine ⟨ver, β', own', _, w', _, step_ext (q := q) (q' := q.new ob) hX I N rfl hq'n e h' hE hvr ver I.verm (fun k hke => ?_) I.verP (fun id hid p hp1 hp2 hp3 hp4 => ?_) (fun id hid p r hp1 hp2 hp3 => I.gJ id (fun h => hid (Bij.dom_le e.le h)) p r hp1 hp2 hp3), way hw (.of_run hnd hrun)⟩
      · have hki : k ≠ i := by rintro rfl; exact hne hke
        exact ⟨fun h => (I.verE k hke).1 (h.resolve_right hki), fun h => .inl ((I.verE k hke).2 h)⟩
      · rw [hq'g]
        by_cases hidn : id = (X.S i).n
        · rw [if_pos hidn]
          have hip : i + 1 ≤ p := by
            by_cases h : p ≤ i
            · have := dx_n hX h (by omega); omega
            · omega
          have hob : (X.S (i + 1)).get id = some ob := by rw [hS, St.get_new, if_pos hidn]
          have hid1 : id < (X.S (i + 1)).n := by omega
          have hnoe : ∀ r, i + 1 ≤ r → ver ≤ r → r < p → ¬ X.eff r := fun r h1 h2 h3 h4 => by
            have := hp4 r h2 h3 h4
            have := dx_n hX h1 (by omega)
            omega
          by_cases hvi : ver ≤ i + 1
          · rw [dx_same hX hip hp2 hid1 fun r h1 h2 => hnoe r h1 (by omega) h2, hob]
          · have hnd' : ¬ β.dom id := fun h => by
              have := hfr id h
              omega
            have hj := I.gJ id hnd' (i + 1) ver (by omega) (Nat.le_refl _) hid1
            rw [dx_same hX hp1 hp2 (Nat.lt_of_lt_of_le hid1 (dx_n hX (by omega) I.verm)) fun r h1 h2 => hnoe r (by omega) h1 h2, hj, hob]
        · rw [if_neg hidn]
          have hdom : β.dom id := by
            rcases e.new id hid with h | ⟨h1, h2⟩
            · exact h
            · have hn : (q.new ob).n = (X.S i).n + 1 := rfl
              have hqn : q.n = (X.S i).n := rfl
              omega
          exact I.gI id hdom p hp1 hp2 hp3 hp4
    · obtain ⟨p, hp, hs, hev⟩ := look_at hX I N h2 hw hv hk
      obtain ⟨_, v', hrun, hvr⟩ := evalOp_pure H hs hρ hok (.inr h2) hev
      exact ⟨ver, β, own, g, w, _, step_still hX I N hne hE hvr, way hw (.of_run hnd (.inl hrun))⟩
  | high hw v hcl hv hE hk1 hk2 =>
    have heff : X.eff i := ⟨o, N.op, hw, hcl⟩
    have hveri : ver ≤ i := by
      by_cases h : i < ver
      · exact absurd ((I.verE i heff).2 h) N.not
      · omega
    have hnoe : ∀ q, ver ≤ q → q < i → ¬ X.eff q := fun q h1 h2 h3 => by
      have := (I.verE q h3).1 (bit_i I N (hk1 q h2 h3))
      omega
    have hs := sr_at hX I (Nat.le_of_lt him) hveri hnoe
    have hfr := free_at hX I N hf
    have hall : (oneOp X.C X.rc (X.E i) (X.S i) o.op).All fun x => Free β (X.S i) x.2 := by rw [hv]; exact hfr
    obtain ⟨v1, s1, β', own', w', v', hh, e, h', hvr, hway⟩ := oneOp_sim H hc hr hs (dx_wf hX i (by omega)) (hG.mono I.le) hρ hok hnd hall
    rw [hv] at hh
    cases hh
    refine ⟨i + 1, β', own', _, w', _, step_ext hX I N rfl rfl e h' hE hvr (i + 1) him (fun k hke => ?_) (.inr ⟨i, rfl, heff⟩) (fun id hid p hp1 hp2 hp3 hp4 => ?_) (fun id hid p r hp1 hp2 hp3 => ?_), way hw hway⟩
    · constructor
      · rintro (h | rfl)
        · have := (I.verE k hke).1 h; omega
        · omega
      · intro h
        rcases lt_succ_cases h with h | h
        · exact .inl (bit_i I N (hk1 k h hke))
        · exact .inr h
    · by_cases hidn : id < (X.S (i + 1)).n
      · rw [if_pos hidn]
        refine (dx_same hX hp1 hp2 hidn fun r h1 h2 h3 => ?_).symm
        have := hp4 r h1 h2 h3
        have := dx_n hX h1 (by omega)
        omega
      · rw [if_neg hidn]
        have hdom : β.dom id := by
          rcases e.new id hid with h | ⟨h1, h2⟩
          · exact h
          · exact absurd h2 hidn
        refine I.gI id hdom p (by omega) hp2 hp3 fun q h1 h2 h3 => ?_
        by_cases hq : i + 1 ≤ q
        · exact hp4 q hq h2 h3
        · have := dx_n hX (show q ≤ i + 1 by omega) him
          omega
    · have hnd' : ¬ β.dom id := fun h => hid (Bij.dom_le e.le h)
      have upto : ∀ p r, p ≤ r → r ≤ i → id < (X.S p).n → (X.S r).get id = (X.S p).get id := by
        intro p r h1 h2 h3
        by_cases hr1 : r ≤ ver
        · exact I.gJ id hnd' p r h1 hr1 h3
        · by_cases hp : p ≤ ver
          · have hvn : id < (X.S ver).n := Nat.lt_of_lt_of_le h3 (dx_n hX hp I.verm)
            rw [dx_same hX (show ver ≤ r by omega) (by omega) hvn fun x hx1 hx2 => hnoe x hx1 (by omega)]
            exact I.gJ id hnd' p ver hp (Nat.le_refl _) h3
          · exact dx_same hX h1 (by omega) h3 fun x hx1 hx2 => hnoe x (by omega) (by omega)
      by_cases hri : r ≤ i
      · exact upto p r hp1 hri hp3
      · have hr' : r = i + 1 := by omega
        subst hr'
        by_cases hpi : p = i + 1
        · subst hpi; rfl
        · have hpi' : p ≤ i := by omega
          rw [← upto p i hpi' (Nat.le_refl _) hp3]
          exact e.aframe id (Nat.lt_of_lt_of_le hp3 (dx_n hX hpi' (by omega))) hnd'

theorem draw_all (H : CfgOk P X.C (okK G)) (hc : CallSim P (okK G) G X.rc) (hr : RoundSim P (okK G) G X.rc) (hX : X.Good G) (hf : Free β0 X.s0 (X.S X.m)) (hG : Glob β0 G) :
    ∀ (fuel tt : Nat) (listed : Array Bool) (D : Nat → Prop) (ver : Nat) (β : Bij) (own : Nat → Option Nat) (g : Nat → Option AObj) (w : World) (t : Array Value),
    listed.size = X.ops.size → Ai.left X.ops.size listed = fuel → (∀ j, D j ↔ j < X.ops.size ∧ listed.getD j false = true) → DI X (okK G) β0 own0 w0 D ver β own g w t →
    ∃ D' ver' β' own' g' w' t', (∀ j, j < X.m → D' j) ∧ DI X (okK G) β0 own0 w0 D' ver' β' own' g' w' t' ∧
      ∀ b ds k cs, Steps P (lone (fgo b t ds (.inRegion X.ops (Region.linearise.go .any X.ops fuel tt listed []) :: k)) cs w) (lone (fgo b t' ds (.inRegion X.ops [] :: k)) cs w')
  | 0, tt, listed, D, ver, β, own, g, w, t, hsz, hl, hD, I => by
    refine ⟨D, ver, β, own, g, w, t, fun j hj => (hD j).2 ⟨hj, ?_⟩, I, fun b ds k cs => ?_⟩
    · have := left_zero hl hj
      have hj' : j < listed.size := by rw [hsz]; exact hj
      simpa [Array.getD, hj'] using this
    · simp only [Region.linearise.go, List.reverse_nil]
      exact .refl _ _
  | fuel + 1, tt, listed, D, ver, β, own, g, w, t, hsz, hl, hD, I => by
    have hne := ready_some hX.drawOk hsz hl
    have hgo : Region.linearise.go .any X.ops (fuel + 1) tt listed [] = match (Region.ready .any X.ops listed)[tt % (Region.ready .any X.ops listed).length]? with
      | some i => Region.linearise.go .any X.ops fuel (tt / (Region.ready .any X.ops listed).length) (listed.setIfInBounds i true) [i]
      | none => [].reverse := rfl
    obtain ⟨i, hi⟩ : ∃ i, (Region.ready .any X.ops listed)[tt % (Region.ready .any X.ops listed).length]? = some i := by
      have hpos : 0 < (Region.ready .any X.ops listed).length := List.length_pos_iff.2 hne
      exact ⟨_, List.getElem?_eq_getElem (Nat.mod_lt _ hpos)⟩
    obtain ⟨o, ho, him, hu, hed⟩ := ready_mem hsz (List.mem_of_getElem? hi)
    have hig : listed.getD i false = false := by
      have : i < listed.size := by omega
      simpa [Array.getD, this] using hu
    have hnD : ¬ D i := fun h => by
      have := ((hD i).1 h).2
      rw [this] at hig
      cases hig
    have hedD : ∀ e ∈ o.after, Region.binds .any e = true → D e.on := fun e he hb => by
      have hlt := drawOk_edge hX.drawOk ho e he hb
      exact (hD _).2 ⟨by omega, hed e he hb⟩
    have N : Next1 X D i o := ⟨ho, hnD, hedD⟩
    obtain ⟨ver1, β1, own1, g1, w1, t1, I1, hst⟩ := step_draw H hc hr hX hf hG I N
    have hl1 : Ai.left X.ops.size (listed.setIfInBounds i true) = fuel := by
      have := left_set hsz him hu
      omega
    have hD1 : ∀ j, (D j ∨ j = i) ↔ j < X.ops.size ∧ (listed.setIfInBounds i true).getD j false = true := fun j => by
      have hget : j < listed.size → (listed.setIfInBounds i true).getD j false = if i = j then true else listed.getD j false := fun hj => by
        simp [Array.getD, hj, Array.getElem_setIfInBounds]
      constructor
      · rintro (h | rfl)
        · obtain ⟨h1, h2⟩ := (hD j).1 h
          refine ⟨h1, ?_⟩
          rw [hget (by omega), h2]; simp
        · refine ⟨him, ?_⟩
          rw [hget (by omega), if_pos rfl]
      · rintro ⟨h1, h2⟩
        rw [hget (by omega)] at h2
        by_cases h : i = j
        · exact .inr h.symm
        · rw [if_neg h] at h2
          exact .inl ((hD j).2 ⟨h1, h2⟩)
    obtain ⟨D', ver', β', own', g', w', t', q1, q2, q3⟩ := draw_all H hc hr hX hf hG fuel (tt / (Region.ready .any X.ops listed).length) (listed.setIfInBounds i true) _ ver1 β1 own1 g1 w1 t1 (by simpa using hsz) hl1 hD1 I1
    refine ⟨D', ver', β', own', g', w', t', q1, q2, fun b ds k cs => ?_⟩
    rw [hgo, hi]
    dsimp only
    rw [linearise_go_acc, List.reverse_singleton, List.singleton_append]
    exact (hst b ds k cs _).trans (q3 b ds k cs)

end

theorem draw_sim {P : Program} {C : Cfg} {G : Nat} (H : CfgOk P C (okK G)) : DrawSim P C (okK G) G := by
  intro rc hrg hc hr b ops hdr hops β own s w e t tt hs hw hG he hf
  let X : DX := ⟨C, rc, ops, e, s⟩
  obtain ⟨hfact, hret, hfree⟩ := draw_facts (C := C) (rc := rc) (ops := ops) (e0 := e) (s0 := s) (Q := fun x => Free β s x.2) ops.toList 0 ⟨[], []⟩ rfl (Nat.zero_le _) ⟨fun k hk => absurd hk (by omega), fun k _ _ _ hk => absurd hk (by omega)⟩ hf
  have hX : X.Good G := ⟨hdr, hops, hrg, hw, fun j hj => hfact j (Nat.zero_le _) hj⟩
  have hf' : Free β X.s0 (X.S X.m) := hfree
  have I0 : DI X (okK G) β own w (fun _ => False) 0 β own s.get w t := {
    sr := hs
    le := Bij.le_refl β
    down := fun _ _ h => h.elim
    verm := Nat.zero_le _
    verE := fun k _ => ⟨fun h => h.elim, fun h => by omega⟩
    verP := .inl rfl
    tsz := he.size
    env := fun d p hp hwr => by
      have hn : (X.E p).get d = (X.E 0).get d := dx_env_get hX (Nat.zero_le p) hp fun j o _ h2 ho hd => ((hwr j o ho hd).2 h2).elim
      rw [hn]
      exact he.get d
    gI := fun id hid p _ hp hidp hq => by
      have hid0 : id < s.n := by
        rcases hf' id hid with h | h
        · exact h
        · have := dx_n hX hp (Nat.le_refl _); omega
      exact (dx_same hX (Nat.zero_le p) hp hid0 fun r _ h2 h3 => by
        have := hq r (Nat.zero_le _) h2 h3
        have : (X.S 0).n ≤ (X.S r).n := dx_n hX (Nat.zero_le r) (by omega)
        have h0 : (X.S 0).n = s.n := rfl
        omega).symm
    gJ := fun id _ p r h1 h2 _ => by
      have hr0 : r = 0 := by omega
      subst hr0
      have hp0 : p = 0 := by omega
      subst hp0
      rfl
    free := fun id h => .inl h
    size := Nat.le_refl _
    cframe := fun _ _ _ => ⟨rfl, rfl⟩
    os := rfl
    tape := rfl
    output := rfl
    keep := fun _ _ => ⟨rfl, rfl⟩ }
  have hl0 : Ai.left ops.size (Array.replicate ops.size false) = ops.size := by
    unfold Ai.left
    rw [List.filter_eq_self.2]
    · simp
    · intro a ha
      have ha' : a < ops.size := by simpa using ha
      simp [Array.getD, ha']
  obtain ⟨D', ver', β', own', g', w', t', q1, q2, q3⟩ := draw_all H hc hr hX hf' hG ops.size tt (Array.replicate ops.size false) (fun _ => False) 0 β own s.get w t (by simp [X]) hl0 (fun j => by
      constructor
      · exact fun h => h.elim
      · rintro ⟨h1, h2⟩
        have h1' : j < ops.size := h1
        simp [Array.getD, h1'] at h2) I0
  have hnoe : ∀ r, ver' ≤ r → r < X.m → ¬ X.eff r := fun r h1 h2 h3 => by
    have := (q2.verE r h3).1 (q1 r h2)
    omega
  refine ⟨(X.E X.m), (X.S X.m), β', own', w', t', ?_, dx_wf hX _ (Nat.le_refl _), ?_, sr_at hX q2 (Nat.le_refl _) q2.verm hnoe, ?_, fun ds k cs => q3 b ds k cs⟩
  · have : execDraw C rc ops (Region.before ops) 0 ops.toList ⟨[], []⟩ e s = .ret (X.E X.m, X.S X.m) := hret
    rw [this]
    exact .ret _
  · exact {
      le := q2.le
      new := fun id hid => (q2.free id hid).imp (fun h => h) fun ⟨j, h1, _, h2, h3⟩ => ⟨Nat.le_trans (dx_n hX (Nat.zero_le j) (by omega)) h2, Nat.lt_of_lt_of_le h3 (dx_n hX h1 (Nat.le_refl _))⟩
      nle := dx_n hX (Nat.zero_le _) (Nat.le_refl _)
      aframe := fun id hid hd => by
        have hd' : ¬ β'.dom id := fun h => by
          rcases q2.free id h with h | ⟨j, h1, _, h2, _⟩
          · exact hd h
          · have : (X.S 0).n ≤ (X.S j).n := dx_n hX (Nat.zero_le j) (by omega)
            have h0 : (X.S 0).n = s.n := rfl
            omega
        have h1 := q2.gJ id hd' 0 ver' (Nat.zero_le _) (Nat.le_refl _) hid
        rw [dx_same hX q2.verm (Nat.le_refl _) (Nat.lt_of_lt_of_le hid (dx_n hX (Nat.zero_le ver') q2.verm)) hnoe, h1]
        rfl
      size := q2.size
      cframe := q2.cframe
      os := q2.os
      tape := q2.tape
      output := q2.output
      keep := q2.keep }
  · refine ⟨by rw [q2.tsz]; exact (dx_env_n hX X.m (Nat.le_refl _)).symm, fun j _ => ?_⟩
    exact q2.env j X.m (Nat.le_refl _) fun k o ho _ => ⟨fun _ => op_lt ho, fun h => q1 k h⟩

end Go.Ai
