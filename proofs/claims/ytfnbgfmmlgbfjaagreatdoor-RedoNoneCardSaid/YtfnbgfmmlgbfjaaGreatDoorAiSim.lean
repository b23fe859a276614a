/-
  The interpreter's run stands for the machine's: code, calls, rounds.
-/
import Derived.Test.YtfnbgfmmlgbfjaaGreatDoorAiOrd
namespace Go.Ai

section
variable {P : Program} {C : Cfg} {β : Bij} {own : Nat → Option Nat} {s : St} {w : World} {G : Nat}

def markOf (b : Nat) : Deferred := { target := .collected b, args := #[] }
/-- the marks of ranges over functions among a frame's deferred calls -/
def Marks (n0 : Nat) (ds : List Deferred) (own : Nat → Option Nat) (w : World) : Prop :=
  ∃ bs : List Nat, ds = bs.map markOf ∧ bs.Nodup ∧ ∀ b ∈ bs, n0 ≤ b ∧ own b = none ∧ w.heap[b]? = some (.deferred (some []))

theorem Marks.nil (n0 : Nat) (own : Nat → Option Nat) (w : World) : Marks n0 [] own w := ⟨[], rfl, .nil, fun _ h => by cases h⟩
theorem heap_lt {w : World} {b : Nat} {O : Obj} (h : w.heap[b]? = some O) : b < w.heap.size := by
  by_cases hb : b < w.heap.size
  · exact hb
  · rw [Array.getElem?_eq_none (by omega)] at h; cases h
theorem Marks.ext {n0 : Nat} {ds : List Deferred} {β' : Bij} {own' : Nat → Option Nat} {s' : St} {w' : World} (h : Marks n0 ds own w) (e : Ext β own s w β' own' s' w') : Marks n0 ds own' w' := by
  obtain ⟨bs, h1, h2, h3⟩ := h
  refine ⟨bs, h1, h2, fun b hb => ?_⟩
  obtain ⟨g1, g2, g3⟩ := h3 b hb
  obtain ⟨e1, e2⟩ := e.cframe b (heap_lt g3) fun i hi => by rw [g2] at hi; cases hi
  exact ⟨g1, e1.trans g2, e2.trans g3⟩

def InRound (b : Frame) (β : Bij) (s : St) : Prop := b.roundOf = none ∨ ∃ l l0, b.roundOf = some l0 ∧ β.obj l = some l0 ∧ isLoop (s.get l)
theorem InRound.mono {b : Frame} {β' : Bij} {s' : St} (h : InRound b β s) (hl : β.le β') (hg : Grow s s') : InRound b β' s' := by
  rcases h with h | ⟨l, l0, h1, h2, h3⟩
  · exact .inl h
  · exact .inr ⟨l, l0, h1, hl.1 _ _ h2, hg.loop _ h3⟩

/-- where code begins: a loop's inside -/
def start : Code → List Item → List Item
  | .loop c, k => .code c :: .inLoop c :: k
  | c, k => .code c :: k
theorem to_start (b : Frame) (t : Array Value) (ds : List Deferred) (cs : List Frame) (w : World) (c : Code) (k : List Item) : Steps P (lone (fgo b t ds (.code c :: k)) cs w) (lone (fgo b t ds (start c k)) cs w) := by
  cases c with
  | loop c => exact .one st_loop
  | _ => exact .refl _ _

def Goes (P : Program) (b : Frame) (st : List Item → List Item) (t : Array Value) (ds : List Deferred) (w : World) (o : Out) (t' : Array Value) (ds' : List Deferred) (w' : World) : Prop :=
  match o with
  | .normal => ∀ k cs, Steps P (lone (fgo b t ds (st k)) cs w) (lone (fgo b t' ds' k) cs w')
  | .exit id => ∀ k cs, ∃ k1, exitTo id k1 = exitTo id k ∧ Steps P (lone (fgo b t ds (st k)) cs w) (lone (fgo b t' ds' (.code (.exit id) :: k1)) cs w')
  | .ret => ∀ k cs, ∃ k1, Steps P (lone (fgo b t ds (st k)) cs w) (lone (fgo b t' ds' (.code .ret :: k1)) cs w')

def CodeRes (P : Program) (K : Code → Prop) (β : Bij) (own : Nat → Option Nat) (s : St) (w : World) (m : M (Out × Env × St)) (b : Frame) (n0 : Nat) (st : List Item → List Item) (t : Array Value) (ds : List Deferred) : Prop :=
  ∃ o e' s' β' own' w' t' ds', m.Has (o, e', s') ∧ s'.WF ∧ Ext β own s w β' own' s' w' ∧ SR K β' own' s'.get w' ∧ ER β' e' t' ∧ Marks n0 ds' own' w' ∧ Goes P b st t ds w o t' ds' w'

theorem Goes.before {b : Frame} {st st' : List Item → List Item} {t t' : Array Value} {ds ds' : List Deferred} {w w' : World} {o : Out} (h : Goes P b st t ds w o t' ds' w')
    (hb : ∀ k cs, Steps P (lone (fgo b t ds (st' k)) cs w) (lone (fgo b t ds (st k)) cs w)) : Goes P b st' t ds w o t' ds' w' := by
  cases o with
  | normal => exact fun k cs => (hb k cs).trans (h k cs)
  | exit id => exact fun k cs => let ⟨k1, h1, h2⟩ := h k cs; ⟨k1, h1, (hb k cs).trans h2⟩
  | ret => exact fun k cs => let ⟨k1, h2⟩ := h k cs; ⟨k1, (hb k cs).trans h2⟩

theorem CodeRes.before {m : M (Out × Env × St)} {K : Code → Prop} {b : Frame} {n0 : Nat} {st st' : List Item → List Item} {t : Array Value} {ds : List Deferred} (h : CodeRes P K β own s w m b n0 st t ds)
    (hb : ∀ k cs, Steps P (lone (fgo b t ds (st' k)) cs w) (lone (fgo b t ds (st k)) cs w)) : CodeRes P K β own s w m b n0 st' t ds := by
  obtain ⟨o, e', s', β', own', w', t', ds', h1, h2, h3, h4, h5, h6, h7⟩ := h
  exact ⟨o, e', s', β', own', w', t', ds', h1, h2, h3, h4, h5, h6, h7.before hb⟩

def CodeSim (P : Program) (K : Code → Prop) (G : Nat) (rc : Rec) : Prop :=
  ∀ (β : Bij) (own : Nat → Option Nat) (s : St) (w : World) (fid : FuncId) (c : Code) (e : Env) (b : Frame) (t : Array Value) (ds : List Deferred) (n0 : Nat),
    SR K β own s.get w → s.WF → Glob β G → ER β e t → okc G c = true → b.fn = fid → InRound b β s → Marks n0 ds own w → n0 ≤ w.heap.size → (rc (.code fid c e) s).All (fun x => Free β s x.2) →
    CodeRes P K β own s w ((rc (.code fid c e) s).bind outOf) b n0 (start c) t ds

/-- something is laid beside -/
theorem alloc_ext {K : Code → Prop} (hs : SR K β own s.get w) (O : Obj) : Ext β own s w β own s (w.alloc O) ∧ SR K β own s.get (w.alloc O) := by
  have hsz : (w.alloc O).heap.size = w.heap.size + 1 := by simp
  refine change hs (fun _ => False) (fun j h => h.elim) (Nat.le_refl _) (Bij.le_refl _) (fun _ _ => rfl) (fun _ _ => rfl) (fun _ _ => rfl) (by omega)
    (fun b hb _ => ⟨rfl, heap_alloc_old w O b hb⟩) (fun _ h => h.elim) (fun _ h => h.elim) (fun _ h => h.elim) (fun _ h => h.elim) (fun _ h => h.elim) (fun b i hb => by have := hs.small b i hb; omega) rfl rfl rfl

theorem run_alloc (O : Obj) : (newObj O).run P w = .ok w.heap.size (w.alloc O) := rfl

/-- a loop object is written anew -/
theorem set_loop {K : Code → Prop} (hs : SR K β own s.get w) (hw : s.WF) {l l' : Nat} {lp lp1 : ALoop} {lp' lp1' : Loop} (hl : β.obj l = some l') (hg : s.get l = some (.loop lp)) (hh : w.heap[l']? = some (.loop lp')) (hr : LoopR β K lp1 lp1') :
    ∃ w', (setObj l' (.loop lp1')).run P w = .ok () w' ∧ Ext β own s w β own (s.set l (.loop lp1)) w' ∧ SR K β own (s.set l (.loop lp1)).get w' := by
  obtain ⟨q1, q2, q3⟩ := setMap w (O' := .loop lp1') hh
  refine ⟨{ w with heap := w.heap.setIfInBounds l' (.loop lp1') }, run_setObj hh (by simp) _, ?_⟩
  exact set_obj hs hw hl hg (O := .loop lp1') q1 ⟨lp1', rfl, hr⟩ q3 q2 rfl rfl rfl

theorem loopEnd_eq {l : Nat} {e : Env} {v : Value} {s3 : St} {lp : ALoop} (hg : s3.get l = some (.loop lp)) (hb : lp.state ≠ .busy) {o : Out} (hp : lp.pending = jumpOf o) :
    loopEnd l e (.val v, s3) = .ret (o, e, s3.set l (.loop { lp with state := .exhausted })) := by
  obtain ⟨st, pd, fn, tm, ps, x, y⟩ := lp
  simp only at hp hb
  subst hp
  unfold loopEnd
  dsimp only
  rw [hg]
  cases o <;> cases st <;> first | rfl | exact absurd rfl hb

theorem execC_sim (H : CfgOk P C (okK G)) (HD : DrawSim P C (okK G) G) {rc : Rec} (hrg : RecGrow rc) (hc : CallSim P (okK G) G rc) (hr : RoundSim P (okK G) G rc) (hcode : CodeSim P (okK G) G rc) (fid : FuncId) (b : Frame) (hb : b.fn = fid) (n0 : Nat) :
    ∀ (c : Code) (β : Bij) (own : Nat → Option Nat) (s : St) (w : World) (e : Env) (t : Array Value) (ds : List Deferred),
    SR (okK G) β own s.get w → s.WF → Glob β G → ER β e t → okc G c = true → InRound b β s → Marks n0 ds own w → n0 ≤ w.heap.size → (execC C rc fid c e s).All (fun x => Free β s x.2.2) →
    CodeRes P (okK G) β own s w (execC C rc fid c e s) b n0 (start c) t ds := by
  intro c
  induction c with
  | skip =>
    intro β own s w e t ds hs hw hG he hok hir hm hn hf
    exact ⟨.normal, e, s, β, own, w, t, ds, .ret _, hw, .refl .., hs, he, hm, fun k cs => .one st_skip⟩
  | label l =>
    intro β own s w e t ds hs hw hG he hok hir hm hn hf
    exact ⟨.normal, e, s, β, own, w, t, ds, .ret _, hw, .refl .., hs, he, hm, fun k cs => .one st_label⟩
  | goto l =>
    intro β own s w e t ds hs hw hG he hok hir hm hn hf
    exact hf.elim
  | refuse l =>
    intro β own s w e t ds hs hw hG he hok hir hm hn hf
    exact hf.elim
  | exit id =>
    intro β own s w e t ds hs hw hG he hok hir hm hn hf
    exact ⟨.exit id, e, s, β, own, w, t, ds, .ret _, hw, .refl .., hs, he, hm, fun k cs => ⟨k, rfl, .refl _ _⟩⟩
  | ret =>
    intro β own s w e t ds hs hw hG he hok hir hm hn hf
    exact ⟨.ret, e, s, β, own, w, t, ds, .ret _, hw, .refl .., hs, he, hm, fun k cs => ⟨k, .refl _ _⟩⟩
  | region id ops d =>
    intro β own s w e t ds hs hw hG he hok hir hm hn hf
    simp only [okc, Bool.and_eq_true, Bool.or_eq_true, Bool.not_eq_true'] at hok
    unfold execC at hf ⊢
    rw [M.all_bind] at hf
    cases d with
    | true =>
      simp only [cond_true] at hf ⊢
      have hdr : drawOk ops = true := by simpa using hok.2
      obtain ⟨d1, d2⟩ := drew_ext hs
      have hf' : (execDraw C rc ops (Region.before ops) 0 ops.toList ⟨[], []⟩ e s).All fun x => Free β s x.2 := hf
      obtain ⟨e2, s2, β2, own2, w2, t2, q1, qw, q2, q3, q4, q5⟩ := HD rc hrg hc hr b ops hdr hok.1 β own s w.drew e t (w.tape w.drawn (.order b.fn id)) d2 hw hG he hf'
      refine ⟨.normal, e2, s2, β2, own2, w2, t2, ds, q1.bind (.ret _), qw, d1.trans q2, q3, q4, hm.ext (d1.trans q2), fun k cs => ?_⟩
      refine .head st_draw ?_
      have hsch : Region.schedule (P.follows .mixedOrders) ops (w.tape w.drawn (.order b.fn id)) = Region.linearise .any ops (w.tape w.drawn (.order b.fn id)) := by simp [Region.schedule, H.mixed]
      rw [hsch]
      exact (q5 ds k cs).trans (.one st_regionEnd)
    | false =>
      simp only [cond_false] at hf ⊢
      have hf' : (execOps C rc ops ops.toList e s).All fun x => Free β s x.2 := hf
      obtain ⟨e2, s2, β2, own2, w2, t2, q1, qw, q2, q3, q4, q5⟩ := execOps_sim H hrg hc hr b (ops := ops) ops.toList (List.range ops.size) β own s w e t (range_ops ops) (by simpa using hok.1) hs hw hG he hf'
      exact ⟨.normal, e2, s2, β2, own2, w2, t2, ds, q1.bind (.ret _), qw, q2, q3, q4, hm.ext q2, fun k cs => .head st_region ((q5 ds k cs).trans (.one st_regionEnd))⟩
  | seq x y ihx ihy =>
    intro β own s w e t ds hs hw hG he hok hir hm hn hf
    simp only [okc, Bool.and_eq_true] at hok
    unfold execC at hf ⊢
    have hf1 : (execC C rc fid x e s).All fun a => Free β s a.2.2 := free_bind hf fun a ha z hz => by
      obtain ⟨o, e1, s1⟩ := a
      have g1 := grow_execC hrg x e s hw _ ha
      cases o with
      | normal => exact (grow_execC hrg y e1 s1 g1.2 z hz).1.n
      | exit id => cases hz; exact Nat.le_refl _
      | ret => cases hz; exact Nat.le_refl _
    obtain ⟨o, e1, s1, β1, own1, w1, t1, ds1, h1, hw1, h2, h3, h4, h5, h6⟩ := (ihx β own s w e t ds hs hw hG he hok.1 hir hm hn hf1).before (st' := fun k => .code x :: k) (fun k cs => to_start ..)
    have g1 := grow_execC hrg x e s hw _ h1
    rw [M.all_bind] at hf
    have hf2 := hf.has h1
    cases o with
    | normal =>
      have hf2' : (execC C rc fid y e1 s1).All (fun a => Free β1 s1 a.2.2) := free_next (sa := fun a : Out × Env × St => a.2.2) h2 hf2
      obtain ⟨o, e2, s2, β2, own2, w2, t2, ds2, q1, qw, q2, q3, q4, q5, q6⟩ := (ihy β1 own1 s1 w1 e1 t1 ds1 h3 hw1 (hG.mono h2.le) h4 hok.2 (hir.mono h2.le g1.1) h5 (Nat.le_trans hn h2.size) hf2').before (st' := fun k => .code y :: k) (fun k cs => to_start ..)
      refine ⟨o, e2, s2, β2, own2, w2, t2, ds2, h1.bind q1, qw, h2.trans q2, q3, q4, q5, ?_⟩
      have first : ∀ k cs, Steps P (lone (fgo b t ds (start (.seq x y) k)) cs w) (lone (fgo b t1 ds1 (.code y :: k)) cs w1) := fun k cs => .head st_seq (h6 (.code y :: k) cs)
      cases o with
      | normal => exact fun k cs => (first k cs).trans (q6 k cs)
      | exit id => exact fun k cs => let ⟨k1, r1, r2⟩ := q6 k cs; ⟨k1, r1, (first k cs).trans r2⟩
      | ret => exact fun k cs => let ⟨k1, r2⟩ := q6 k cs; ⟨k1, (first k cs).trans r2⟩
    | exit id => exact ⟨.exit id, e1, s1, β1, own1, w1, t1, ds1, h1.bind (.ret _), hw1, h2, h3, h4, h5, fun k cs => let ⟨k1, r1, r2⟩ := h6 (.code y :: k) cs; ⟨k1, r1, .head st_seq r2⟩⟩
    | ret => exact ⟨.ret, e1, s1, β1, own1, w1, t1, ds1, h1.bind (.ret _), hw1, h2, h3, h4, h5, fun k cs => let ⟨k1, r2⟩ := h6 (.code y :: k) cs; ⟨k1, .head st_seq r2⟩⟩
  | cond q x y ihx ihy =>
    intro β own s w e t ds hs hw hG he hok hir hm hn hf
    simp only [okc, Bool.and_eq_true] at hok
    have hq := rho_all hG he q hok.1.1
    unfold execC at hf ⊢
    split
    · rename_i hv
      rw [hv] at hq hf
      refine ((ihx β own s w e t ds hs hw hG he hok.1.2 hir hm hn hf).before (st' := start (.cond q x y)) fun k cs => ?_)
      refine .head (st_cond (bool_inv hq)) ?_
      exact to_start ..
    · rename_i hv
      rw [hv] at hq hf
      refine ((ihy β own s w e t ds hs hw hG he hok.2 hir hm hn hf).before (st' := start (.cond q x y)) fun k cs => ?_)
      refine .head (st_cond (bool_inv hq)) ?_
      exact to_start ..
    · rename_i h1 h2
      split at hf
      · rename_i hv; exact absurd hv h1
      · rename_i hv; exact absurd hv h2
      · exact hf.elim
  | block id x ih =>
    intro β own s w e t ds hs hw hG he hok hir hm hn hf
    unfold execC at hf ⊢
    have hf1 : (execC C rc fid x e s).All fun a => Free β s a.2.2 := free_bind hf fun a ha z hz => by
      obtain ⟨o, e1, s1⟩ := a
      cases o <;> (cases hz; exact Nat.le_refl _)
    obtain ⟨o, e1, s1, β1, own1, w1, t1, ds1, h1, hw1, h2, h3, h4, h5, h6⟩ := (ih β own s w e t ds hs hw hG he hok hir hm hn hf1).before (st' := fun k => .code x :: k) (fun k cs => to_start ..)
    cases o with
    | normal => exact ⟨.normal, e1, s1, β1, own1, w1, t1, ds1, h1.bind (.ret _), hw1, h2, h3, h4, h5, fun k cs => .head st_block ((h6 (.inBlock id :: k) cs).trans (.one st_inBlock))⟩
    | exit i =>
      by_cases hi : i = id
      · subst hi
        refine ⟨.normal, e1, s1, β1, own1, w1, t1, ds1, h1.bind (by simp only [if_true]; exact .ret _), hw1, h2, h3, h4, h5, fun k cs => ?_⟩
        obtain ⟨k1, r1, r2⟩ := h6 (.inBlock i :: k) cs
        have : exitTo i k1 = some k := by rw [r1]; simp [exitTo]
        exact .head st_block (r2.trans (.one (st_exit this)))
      · refine ⟨.exit i, e1, s1, β1, own1, w1, t1, ds1, h1.bind (by simp only [if_neg hi]; exact .ret _), hw1, h2, h3, h4, h5, fun k cs => ?_⟩
        obtain ⟨k1, r1, r2⟩ := h6 (.inBlock id :: k) cs
        refine ⟨k1, ?_, .head st_block r2⟩
        rw [r1]
        have : ¬ id = i := fun h => hi h.symm
        simp [exitTo, this]
    | ret => exact ⟨.ret, e1, s1, β1, own1, w1, t1, ds1, h1.bind (.ret _), hw1, h2, h3, h4, h5, fun k cs => let ⟨k1, r2⟩ := h6 (.inBlock id :: k) cs; ⟨k1, .head st_block r2⟩⟩
  | scope x ih =>
    intro β own s w e t ds hs hw hG he hok hir hm hn hf
    unfold execC at hf ⊢
    obtain ⟨o, e1, s1, β1, own1, w1, t1, ds1, h1, hw1, h2, h3, h4, h5, h6⟩ := (ih β own s w e t ds hs hw hG he hok hir hm hn hf).before (st' := fun k => .code x :: k) (fun k cs => to_start ..)
    refine ⟨o, e1, s1, β1, own1, w1, t1, ds1, h1, hw1, h2, h3, h4, h5, ?_⟩
    cases o with
    | normal => exact fun k cs => .head st_scope ((h6 (.inScope x :: k) cs).trans (.one st_inScope))
    | exit i => exact fun k cs => let ⟨k1, r1, r2⟩ := h6 (.inScope x :: k) cs; ⟨k1, r1, .head st_scope r2⟩
    | ret => exact fun k cs => let ⟨k1, r2⟩ := h6 (.inScope x :: k) cs; ⟨k1, .head st_scope r2⟩
  | loop x ih =>
    intro β own s w e t ds hs hw hG he hok hir hm hn hf
    unfold execC at hf ⊢
    have hf1 : (execC C rc fid x e s).All fun a => Free β s a.2.2 := free_bind hf fun a ha z hz => by
      obtain ⟨o, e1, s1⟩ := a
      have g1 := grow_execC hrg x e s hw _ ha
      cases o with
      | normal =>
        obtain ⟨y, hy, hz⟩ := has_bind hz
        have g2 := hrg _ _ g1.2 _ hy
        unfold outOf at hz
        split at hz
        · cases hz; exact g2.1.n
        · cases hz
      | exit id => cases hz; exact Nat.le_refl _
      | ret => cases hz; exact Nat.le_refl _
    obtain ⟨o, e1, s1, β1, own1, w1, t1, ds1, h1, hw1, h2, h3, h4, h5, h6⟩ := (ih β own s w e t ds hs hw hG he hok hir hm hn hf1).before (st' := fun k => .code x :: k) (fun k cs => to_start ..)
    have g1 := grow_execC hrg x e s hw _ h1
    rw [M.all_bind] at hf
    have hf2 := hf.has h1
    cases o with
    | normal =>
      have hf3 : ((rc (.code fid (.loop x) e1) s1).bind outOf).All fun a => Free β s a.2.2 := hf2
      have hf4 : (rc (.code fid (.loop x) e1) s1).All fun a => Free β s a.2 := free_bind hf3 fun a ha z hz => by
        unfold outOf at hz
        split at hz
        · cases hz; exact Nat.le_refl _
        · cases hz
      obtain ⟨o, e2, s2, β2, own2, w2, t2, ds2, q1, qw, q2, q3, q4, q5, q6⟩ := hcode β1 own1 s1 w1 fid (.loop x) e1 b t1 ds1 n0 h3 hw1 (hG.mono h2.le) h4 hok hb (hir.mono h2.le g1.1) h5 (Nat.le_trans hn h2.size) (free_next (sa := fun a : Res × St => a.2) h2 hf4)
      refine ⟨o, e2, s2, β2, own2, w2, t2, ds2, h1.bind q1, qw, h2.trans q2, q3, q4, q5, ?_⟩
      have first : ∀ k cs, Steps P (lone (fgo b t ds (start (.loop x) k)) cs w) (lone (fgo b t1 ds1 (start (.loop x) k)) cs w1) := fun k cs => (h6 (.inLoop x :: k) cs).trans (.one st_inLoop)
      cases o with
      | normal => exact fun k cs => (first k cs).trans (q6 k cs)
      | exit id => exact fun k cs => let ⟨k1, r1, r2⟩ := q6 k cs; ⟨k1, r1, (first k cs).trans r2⟩
      | ret => exact fun k cs => let ⟨k1, r2⟩ := q6 k cs; ⟨k1, (first k cs).trans r2⟩
    | exit id => exact ⟨.exit id, e1, s1, β1, own1, w1, t1, ds1, h1.bind (.ret _), hw1, h2, h3, h4, h5, fun k cs => let ⟨k1, r1, r2⟩ := h6 (.inLoop x :: k) cs; ⟨k1, r1, r2⟩⟩
    | ret => exact ⟨.ret, e1, s1, β1, own1, w1, t1, ds1, h1.bind (.ret _), hw1, h2, h3, h4, h5, fun k cs => let ⟨k1, r2⟩ := h6 (.inLoop x :: k) cs; ⟨k1, r2⟩⟩
  | rangeFunc f ps x y ihx ihy =>
    intro β own s w e t ds hs hw hG he hok hir hm hn hf
    simp only [okc, Bool.and_eq_true] at hok
    have hfv := rho_all hG he f hok.1.1
    unfold execC at hf ⊢
    cases hcv : callValue (e.eval f) [.func (.yield s.n) #[] #[]] with
    | none => rw [hcv] at hf; exact hf.elim
    | some tk =>
      rw [hcv] at hf
      simp only at hf ⊢
      -- the block of the deferred calls
      obtain ⟨mark, dblk, w1, hent, e01, s01, hm1⟩ : ∃ (mark : List Deferred) (dblk : Nat) (w1 : World),
          (∀ O, (Instr.enterLoop b.fn t ps x y b.roundOf).run P w = .ok (w1.heap.size, mark) (w1.alloc (.loop { state := .ready, pending := none, fn := b.fn, tmps := t, params := ps, assign := x, body := y, defers := dblk })) ∨ O) ∧
          Ext β own s w β own s w1 ∧ SR (okK G) β own s.get w1 ∧ Marks n0 (mark ++ ds) own w1 := by
        rcases hir with h | ⟨l, l0, h1, h2, h3⟩
        · obtain ⟨q1, q2⟩ := alloc_ext hs (.deferred (some []))
          refine ⟨[markOf w.heap.size], w.heap.size, w.alloc (.deferred (some [])), fun O => .inl ?_, q1, q2, ?_⟩
          · rw [h]
            simp only [Instr.enterLoop, Sem.run_bind, run_alloc, Result.andThen_ok, Sem.run_pure]
            rfl
          · obtain ⟨bs, g1, g2, g3⟩ := hm.ext q1
            refine ⟨w.heap.size :: bs, by simp [g1], ?_, fun b' hb' => ?_⟩
            · refine List.nodup_cons.2 ⟨fun hx => ?_, g2⟩
              obtain ⟨bs0, k1, k2, k3⟩ := hm
              have : bs = bs0 := by
                have := g1.symm.trans k1
                have hinj : ∀ a c, markOf a = markOf c → a = c := fun a c hac => by
                  simp only [markOf, Deferred.mk.injEq, Target.collected.injEq] at hac
                  exact hac.1
                clear g1 k1 g2 g3 k2 k3 hx
                induction bs generalizing bs0 with
                | nil => cases bs0 with
                  | nil => rfl
                  | cons _ _ => simp at this
                | cons a r ih => cases bs0 with
                  | nil => simp at this
                  | cons a0 r0 =>
                    simp only [List.map_cons, List.cons.injEq] at this
                    rw [hinj _ _ this.1, ih r0 this.2]
              subst this
              have := heap_lt (k3 _ hx).2.2
              omega
            · rcases List.mem_cons.1 hb' with rfl | hb'
              · refine ⟨hn, ?_, heap_alloc_new ..⟩
                cases ho : own w.heap.size with
                | none => rfl
                | some i => have := hs.small _ _ ho; omega
              · exact g3 _ hb'
        · obtain ⟨lp, hlp⟩ : ∃ lp, s.get l = some (.loop lp) := by
            cases hg : s.get l with
            | none => rw [hg] at h3; exact h3.elim
            | some o => rw [hg] at h3; cases o <;> first | exact ⟨_, rfl⟩ | exact h3.elim
          obtain ⟨lp', hlp', _⟩ := loop_at hs h2 hlp
          refine ⟨[], lp'.defers, w, fun O => .inl ?_, .refl .., hs, hm⟩
          rw [h1]
          simp only [Instr.enterLoop, Sem.run_bind, run_getLoop hlp', Result.andThen_ok, Sem.run_pure, run_alloc]
      have hent := (hent False).resolve_right id
      -- the loop
      let alp : ALoop := { state := .ready, pending := none, fn := fid, tmps := e, params := ps, assign := x, body := y }
      let lp' : Loop := { state := .ready, pending := none, fn := b.fn, tmps := t, params := ps, assign := x, body := y, defers := dblk }
      have gnew : Grow s (s.new (.loop alp)) := .new s hw _
      have hfr0 : (rc tk (s.new (.loop alp))).All fun a => Free β s a.2 := free_bind hf fun a ha z hz => by
        have g1 := hrg _ _ (hw.new _) _ ha
        exact (grow_loopEnd g1.2 hz).1.n
      have hfreeN : Free β s (s.new (.loop alp)) := by
        obtain ⟨a, ha⟩ := M.All.some hfr0
        exact (hfr0.has ha).left (hrg _ _ (hw.new _) _ ha).1.n
      have hle1 : β.le (β.setObj s.n w1.heap.size) := Bij.le_setObj (hfreeN.obj (by rw [St.n_new]; omega))
      have hlr : LoopR (β.setObj s.n w1.heap.size) (okK G) alp lp' := ⟨rfl, rfl, hb, he.mono hle1, rfl, rfl, rfl, hok.1.2, hok.2⟩
      obtain ⟨e12, s12⟩ := new_obj (w := w1) (s' := s.new (.loop alp)) s01 hfreeN (.loop alp) (.loop lp') (by rw [St.n_new]; omega) ⟨lp', rfl, hlr⟩
      generalize hβ1 : β.setObj s.n w1.heap.size = β1 at hle1 hlr e12 s12
      have hl1 : β1.obj s.n = some w1.heap.size := by rw [← hβ1]; exact setObj_at ..
      generalize hown1 : upd own w1.heap.size (some s.n) = own1 at e12 s12
      have e02 := e01.trans e12
      have hm2 := hm1.ext e12
      have hG1 := hG.mono e02.le
      generalize hw2 : w1.alloc (.loop lp') = w2 at *
      -- the iterator
      have hargs : VRs β1 [.func (.yield s.n) #[] #[]] (#[Value.func (.yield w1.heap.size) #[] #[]] : Array Value).toList := .one (.func (.yield hl1) .nil .nil)
      have hca := value_sim (P := P) (w := w2) (hfv.mono e02.le) hargs hcv
      let tg : Sem Next := do let d ← resolve (feval t) { callee := .value f, args := #[.const (.func (.yield w1.heap.size) #[] #[])], argTypes := #[] } 0; invoke d.target d.args
      have htg : tg = (do let d ← Deferred.ofValue (feval t f) #[Value.func (.yield w1.heap.size) #[] #[]]; invoke d.target d.args) := by simp [tg, resolve, feval]
      rw [← htg] at hca
      have hf1 : (rc tk (s.new (.loop alp))).All fun a => Free β1 (s.new (.loop alp)) a.2 := free_next (sa := fun a : Res × St => a.2) e02 hfr0
      have hmid : ∃ v s3 β3 own3 w3 v', (rc tk (s.new (.loop alp))).Has (.val v, s3) ∧ Ext β1 own1 (s.new (.loop alp)) w2 β3 own3 s3 w3 ∧ SR (okK G) β3 own3 s3.get w3 ∧
          ∀ k cs, Steps P (lone (fgo b t ds (.code (.rangeFunc f ps x y) :: k)) cs w) (lone ((fgo b t (mark ++ ds) (.inRangeFunc w1.heap.size :: k)).finish v') cs w3) := by
        cases tk with
        | code _ _ _ => exact hca.elim
        | call g args =>
          obtain ⟨args', ha, hrun⟩ := hca
          obtain ⟨v, s', β', own', w', v', h1, h2, h3, h4, h5, h6⟩ := hc _ _ _ _ _ _ args' s12 (hw.new _) hG1 ha hf1
          exact ⟨v, s', β', own', w', v', h1, h2, h3, fun k cs => .head (st_rangeFunc hent rfl (hrun.trans h5)) (h6.steps _ _)⟩
        | round l args =>
          obtain ⟨l', args', hl, ha, hrun⟩ := hca
          obtain ⟨v, s', β', own', w', v', lp2, h1, h2, h3, h4, h5, h6, h7⟩ := hr _ _ _ _ _ _ _ args' s12 (hw.new _) hG1 ha hl hf1
          exact ⟨v, s', β', own', w', v', h1, h2, h3, fun k cs => .head (st_rangeFuncR hent rfl (hrun.trans (yield_sim h5 h6))) (h7 _ _)⟩
      obtain ⟨v, s3, β3, own3, w3, v', hh, e23, s23, hst⟩ := hmid
      have e03 := e02.trans e23
      have hw3 := (hrg _ _ (hw.new _) _ hh).2
      rw [M.all_bind] at hf
      have hf3 := hf.has hh
      unfold loopEnd at hf3
      dsimp only at hf3
      have hend : ∀ (o : Out) (jump : Option Code) (lp3 : ALoop), s3.get s.n = some (.loop lp3) → lp3.state ≠ .busy → lp3.pending = jump → jumpOf o = jump →
          (loopEnd s.n e (.val v, s3)) = .ret (o, e, s3.set s.n (.loop { lp3 with state := .exhausted })) →
          CodeRes P (okK G) β own s w ((rc tk (s.new (.loop alp))).bind (loopEnd s.n e)) b n0 (start (.rangeFunc f ps x y)) t ds := by
        intro o jump lp3 hg hbusy hp hj hle
        obtain ⟨lp3', hh3, hr3⟩ := loop_at s23 (e23.le.1 _ _ hl1) hg
        obtain ⟨w4, r1, r2, r3⟩ := set_loop (P := P) s23 hw3 (e23.le.1 _ _ hl1) hg hh3 (lp1 := { lp3 with state := .exhausted }) (lp1' := { lp3' with state := .exhausted })
          ⟨rfl, hr3.pending, hr3.fn, hr3.tmps, hr3.params, hr3.assign, hr3.body, hr3.ok1, hr3.ok2⟩
        have hrun : (Instr.endLoop w1.heap.size).run P w3 = .ok jump w4 := by
          have hb2 : (lp3'.state == LoopState.busy) = false := by
            rw [hr3.state]
            cases hst : lp3.state <;> first | rfl | exact absurd hst hbusy
          simp only [Instr.endLoop, Sem.run_bind, run_getLoop hh3, Result.andThen_ok, hb2]
          have hpend : lp3'.pending = jump := hr3.pending.trans hp
          rw [hpend] at r1
          simp [r1, hpend]
        have e04 := e03.trans r2
        refine ⟨o, e, _, β3, own3, w4, t, mark ++ ds, hh.bind (by rw [hle]; exact .ret _), hw3.set hg, e04, r3, he.mono e04.le, (hm2.ext e23).ext r2, ?_⟩
        have fin : ∀ k cs, Steps P (lone (fgo b t ds (start (.rangeFunc f ps x y) k)) cs w) (lone (fgo b t (mark ++ ds) ((jump.map Item.code).toList ++ k)) cs w4) := fun k cs =>
          (hst k cs).trans (.one (st_endRange hrun))
        subst hj
        cases o with
        | normal => exact fun k cs => fin k cs
        | exit id => exact fun k cs => ⟨k, rfl, fin k cs⟩
        | ret => exact fun k cs => ⟨k, fin k cs⟩
      split at hf3
      · rename_i lp3 hg
        split at hf3
        · exact hf3.elim
        · rename_i hbusy
          split at hf3
          · rename_i hp
            exact hend .normal none lp3 hg (fun h => hbusy h) hp rfl (loopEnd_eq hg hbusy hp)
          · rename_i hp
            exact hend .ret (some .ret) lp3 hg (fun h => hbusy h) hp rfl (loopEnd_eq hg hbusy hp)
          · rename_i id hp
            exact hend (.exit id) (some (.exit id)) lp3 hg (fun h => hbusy h) hp rfl (loopEnd_eq hg hbusy hp)
          · exact hf3.elim
      · exact hf3.elim

end
end Go.Ai
