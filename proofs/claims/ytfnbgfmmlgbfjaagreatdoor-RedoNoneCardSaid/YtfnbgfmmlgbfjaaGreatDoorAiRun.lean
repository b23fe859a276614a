/-
  The interpreter's run stands for the machine's: calls and rounds, by the number of levels.
-/
import Derived.Test.YtfnbgfmmlgbfjaaGreatDoorAiSim
namespace Go.Ai

theorem Env.n_putL : ∀ (vs : List Value) (k : Nat) (e : Env), (Env.putL k vs e).n = e.n
  | [], _, _ => rfl
  | _ :: r, k, e => by simp only [Env.putL]; rw [Env.n_putL r]; rfl
theorem Env.get_putL : ∀ (vs : List Value) (k : Nat) (e : Env) (j : Nat), j < e.n → (Env.putL k vs e).get j = if k ≤ j then (vs[j - k]?).getD (e.get j) else e.get j
  | [], k, e, j, hj => by simp [Env.putL]
  | v :: r, k, e, j, hj => by
    simp only [Env.putL]
    rw [Env.get_putL r (k + 1) (e.put k v) j hj, Env.get_put]
    by_cases h1 : k + 1 ≤ j
    · have hne : ¬ (j = k ∧ k < e.n) := by omega
      rw [if_pos h1, if_neg hne, if_pos (show k ≤ j by omega)]
      obtain ⟨m, rfl⟩ : ∃ m, j = k + 1 + m := ⟨j - (k + 1), by omega⟩
      rw [show k + 1 + m - (k + 1) = m from by omega, show k + 1 + m - k = m + 1 from by omega]
      rfl
    · rw [if_neg h1]
      by_cases h2 : j = k
      · subst h2
        rw [if_pos ⟨rfl, hj⟩, if_pos (Nat.le_refl _)]
        simp
      · rw [if_neg (fun h => h2 h.1), if_neg (by omega)]

section
variable {P : Program} {C : Cfg} {β : Bij} {own : Nat → Option Nat} {s : St} {w : World} {G : Nat}

theorem er_start {args : List Value} {args' : Array Value} (h : VRs β args args'.toList) (n : Nat) : ER β (Env.start n args) (args' ++ Array.replicate (n - args'.size) undef) := by
  have hlen : args'.size = args.length := by have := h.length; simpa using this
  refine ⟨?_, fun j hj => ?_⟩
  · simp only [Env.start, Env.n_putL, Array.size_append, Array.size_replicate]
    split <;> omega
  · simp only [Env.start, Env.n_putL] at hj
    simp only [Env.start]
    rw [Env.get_putL _ _ _ _ hj, if_pos (Nat.zero_le _), Nat.sub_zero]
    by_cases hja : j < args.length
    · obtain ⟨v, hv⟩ : ∃ v, args[j]? = some v := ⟨args[j], by simp [hja]⟩
      obtain ⟨v', hv', hr⟩ := h.get hv
      rw [hv]
      have : (args' ++ Array.replicate (n - args'.size) undef).getD j undef = v' := by
        have h1 : (args' ++ Array.replicate (n - args'.size) undef)[j]? = some v' := by
          rw [Array.getElem?_append_left (by omega)]
          simpa using hv'
        rw [Array.getD_eq_getD_getElem?, h1]; rfl
      rw [this]; exact hr
    · rw [List.getElem?_eq_none (by omega)]
      have h1 : (args' ++ Array.replicate (n - args'.size) undef).getD j undef = undef := by
        rw [Array.getD_eq_getD_getElem?, Array.getElem?_append_right (by omega)]
        cases hq : (Array.replicate (n - args'.size) undef)[j - args'.size]? with
        | none => rfl
        | some v =>
          rw [Array.getElem?_replicate] at hq
          split at hq
          · cases hq; rfl
          · cases hq
      rw [h1]
      have : ({ n := if args.length ≤ n then n else args.length, m := T.e } : Env).get j = undef := by
        unfold Env.get
        cases Nat.blt j _ <;> simp [T.get_e]
      rw [this]
      exact .undef β

theorem loadVar_sim {K : Code → Prop} (H : CfgOk P C K) (hs : SR K β own s.get w) {t : TypeId} {x x' v : Value} (hv : loadV C s t x = some v) (hx : VR β x x') :
    ∃ v', (do loadVar t (← asAddr x') : Sem Value).run P w = .ok v' w ∧ VR β v v' := by
  obtain ⟨v', h1, h2⟩ := load_sim H hs hv hx
  refine ⟨v', ?_, h2⟩
  have : ∃ a, x = .pointer (some a) := by
    unfold loadV at hv
    split at hv
    · exact ⟨_, rfl⟩
    · cases hv
  obtain ⟨a, rfl⟩ := this
  obtain ⟨a', rfl, _⟩ := ptr_plus (n := 0) hx
  simpa [Instr.loadAt, Instr.sureAddr, asAddr] using h1

def resOne (t : Array Value) : ResultVar → Sem Value
  | .tmp j => pure (t.getD j undef)
  | .cell a ty => do loadVar ty (← asAddr (t.getD a undef))
theorem results_eq (fn : Func) (t : Array Value) : results fn t = (do let vs ← fn.results.mapM (resOne t); pure (if h : vs.size = 1 then vs[0] else .tuple vs)) := rfl

theorem results_sim {K : Code → Prop} (H : CfgOk P C K) (hs : SR K β own s.get w) {e : Env} {t : Array Value} (he : ER β e t) : ∀ {rs : List ResultVar} {vs : List Value}, resultsV C s e rs = some vs →
    ∃ vs', (rs.mapM (resOne t)).run P w = .ok vs' w ∧ VRs β vs vs'
  | [], vs, h => by
    obtain rfl := Option.some.inj h
    exact ⟨[], rfl, .nil⟩
  | .tmp j :: r, vs, h => by
    simp only [resultsV, Option.map_eq_some_iff] at h
    obtain ⟨vs1, h1, rfl⟩ := h
    obtain ⟨vs', h2, h3⟩ := results_sim H hs he h1
    refine ⟨t.getD j undef :: vs', ?_, .cons (he.get j) h3⟩
    simp only [List.mapM_cons, resOne, Sem.run_bind, Sem.run_pure, Result.andThen_ok]
    rw [h2]; rfl
  | .cell a ty :: r, vs, h => by
    simp only [resultsV] at h
    split at h
    · rename_i v vs1 hv h1
      obtain rfl := Option.some.inj h
      obtain ⟨vs', h2, h3⟩ := results_sim H hs he h1
      obtain ⟨v', h4, h5⟩ := loadVar_sim H hs hv (he.get a)
      refine ⟨v' :: vs', ?_, .cons h5 h3⟩
      simp only [List.mapM_cons, resOne]
      rw [Sem.run_bind, h4]
      simp only [Result.andThen_ok, Sem.run_bind]
      rw [h2]; rfl
    · cases h

theorem run_results {K : Code → Prop} (H : CfgOk P C K) (hs : SR K β own s.get w) {fn : Func} {e : Env} {t : Array Value} (he : ER β e t) {vs : List Value} (h : resultsV C s e fn.results.toList = some vs) :
    ∃ v', (results fn t).run P w = .ok v' w ∧ VR β (oneOrTuple vs) v' := by
  obtain ⟨vs', h1, h2⟩ := results_sim H hs he h
  refine ⟨oneOrTuple vs', ?_, ?_⟩
  · rw [results_eq]
    rw [Array.mapM_eq_mapM_toList]
    simp only [Sem.run_bind, map_eq_pure_bind, bind_assoc, pure_bind]
    rw [h1]
    simp only [Result.andThen_ok, Sem.run_pure]
    congr 1
    cases vs' with
    | nil => rfl
    | cons a r => cases r with
      | nil => rfl
      | cons b r =>
        have hn : ¬ (List.toArray (a :: b :: r)).size = 1 := by simp
        rw [dif_neg hn]
        rfl
  · cases h2 with
    | nil => exact .tuple .nil
    | cons hv ht => cases ht with
      | nil => exact hv
      | cons hv2 ht2 => exact .tuple (.cons hv (.cons hv2 ht2))

/-- a thing that nobody sees changes -/
theorem SR.other {K : Code → Prop} {g : Nat → Option AObj} (h : SR K β own g w) {b0 : Nat} {ds : Option (List Deferred)} (h0 : w.heap[b0]? = some (.deferred ds)) (ho : own b0 = none) (O : Obj) :
    SR K β own g { w with heap := w.heap.setIfInBounds b0 O } := by
  have hoth : ∀ c, c ≠ b0 → ({ w with heap := w.heap.setIfInBounds b0 O } : World).heap[c]? = w.heap[c]? := fun c hc => by
    simp [Ne.symm hc]
  have hsz : ({ w with heap := w.heap.setIfInBounds b0 O } : World).heap.size = w.heap.size := by simp
  refine ⟨fun i b hb => ?_, fun i hi L hL cs mv ro hc => ?_, h.loc, fun i hi L hL => by rw [hsz]; exact h.blk i hi L hL, h.one, fun b i hb => by rw [hsz]; exact h.small b i hb⟩
  · obtain ⟨h1, h2, h3⟩ := h.obj i b hb
    have hne : b ≠ b0 := by rintro rfl; rw [ho] at h1; cases h1
    exact ⟨h1, by rw [hsz]; exact h2, fun o hg => by rw [hoth b hne]; exact h3 o hg⟩
  · obtain ⟨h1, h2⟩ := h.arr i hi L hL cs mv ro hc
    refine ⟨h1, fun hm => ?_⟩
    obtain ⟨⟨a1, a2, c, t, fr, a3, a4⟩, h4, h5⟩ := h2 hm
    have hne : L.block ≠ b0 := by intro e; rw [e, h0] at a3; cases a3
    exact ⟨⟨a1, a2, c, t, fr, by rw [hoth _ hne]; exact a3, a4⟩, by rw [hsz]; exact h4, h5⟩

theorem pop_marks {K : Code → Prop} {g : Nat → Option AObj} : ∀ (bs : List Nat) (w : World), SR K β own g w → bs.Nodup → (∀ b ∈ bs, own b = none ∧ w.heap[b]? = some (.deferred (some []))) →
    ∃ w', SR K β own g w' ∧ w'.heap.size = w.heap.size ∧ (∀ b, b ∉ bs → w'.heap[b]? = w.heap[b]?) ∧ w'.os = w.os ∧ w'.tape = w.tape ∧ w'.output = w.output ∧
      ∀ (fr : Frame), fr.mode = .returning → fr.defers = bs.map markOf → ∀ cs, Steps P (lone fr cs w) (lone { fr with defers := [] } cs w')
  | [], w, hs, _, _ => ⟨w, hs, rfl, fun _ _ => rfl, rfl, rfl, rfl, fun fr hm hd cs => by
      have : ({ fr with defers := [] } : Frame) = fr := by cases fr; simp at hd; subst hd; rfl
      rw [this]; exact .refl _ _⟩
  | b0 :: bs, w, hs, hn, hb => by
    obtain ⟨ho, h0⟩ := hb b0 (List.mem_cons_self ..)
    obtain ⟨hn1, hn2⟩ := List.nodup_cons.1 hn
    have hoth : ∀ c, c ≠ b0 → ({ w with heap := w.heap.setIfInBounds b0 (.deferred none) } : World).heap[c]? = w.heap[c]? := fun c hc => by
      simp [Ne.symm hc]
    obtain ⟨w', q1, q2, q3, q4, q5, q6, q7⟩ := pop_marks bs { w with heap := w.heap.setIfInBounds b0 (.deferred none) } (hs.other h0 ho _) hn2 fun b hb' => by
      have hne : b ≠ b0 := by rintro rfl; exact hn1 hb'
      obtain ⟨g1, g2⟩ := hb b (List.mem_cons_of_mem _ hb')
      exact ⟨g1, (hoth b hne).trans g2⟩
    refine ⟨w', q1, by simpa using q2, fun b hb' => ?_, q4, q5, q6, fun fr hm hd cs => ?_⟩
    · simp only [List.mem_cons, not_or] at hb'
      rw [q3 b hb'.2, hoth b hb'.1]
    · have hrun : (Instr.takeDeferred b0).run P w = .ok [] { w with heap := w.heap.setIfInBounds b0 (.deferred none) } := by
        simp only [Instr.takeDeferred, Sem.run_bind, run_getObj h0 (fun c t fr => by simp), Result.andThen_ok, run_setObj h0 (fun c t fr => by simp), Sem.run_pure]
      refine .head (st_collected hm (ds := bs.map markOf) (by rw [hd]; rfl) hrun) ?_
      exact q7 { fr with defers := bs.map markOf } hm rfl cs

theorem Ext.other {β' : Bij} {own' : Nat → Option Nat} {s' : St} {w1 w2 : World} (e : Ext β own s w β' own' s' w1) (h1 : w2.heap.size = w1.heap.size) (h2 : ∀ b, b < w.heap.size → w2.heap[b]? = w1.heap[b]?) (h3 : w2.os = w1.os) (h4 : w2.tape = w1.tape) (h5 : w2.output = w1.output) :
    Ext β own s w β' own' s' w2 :=
  ⟨e.le, e.new, e.nle, e.aframe, by rw [h1]; exact e.size, fun b hb ho => let ⟨q1, q2⟩ := e.cframe b hb ho; ⟨q1, (h2 b hb).trans q2⟩, h3.trans e.os, h4.trans e.tape, h5.trans e.output, e.keep⟩

theorem istep_sim (H : CfgOk P C (okK G)) (HD : DrawSim P C (okK G) G) {rc : Rec} (hrg : RecGrow rc) (ihc : CallSim P (okK G) G rc) (ihr : RoundSim P (okK G) G rc) (ihk : CodeSim P (okK G) G rc) :
    CallSim P (okK G) G (istep C rc) ∧ RoundSim P (okK G) G (istep C rc) ∧ CodeSim P (okK G) G (istep C rc) := by
    refine ⟨?_, ?_, ?_⟩
    · -- a call
      intro β own s w f args args' hs hw hG ha hf
      cases hfn : C.fn f with
      | none => simp only [istep, hfn] at hf; exact hf.elim
      | some fn =>
      cases hbd : fn.body with
      | none => simp only [istep, hfn, hbd] at hf; exact hf.elim
      | some c =>
      have heq : istep C rc (.call f args) s = (execC C (rc) f c (Env.start fn.ntmps args) s).bind (callEnd C fn) := by simp only [istep, hfn, hbd]
      rw [heq] at hf ⊢
      obtain ⟨p1, p2, p3⟩ := H.fn f fn hfn
      let b : Frame := { fn := f, tmps := #[], todo := [], defers := [], mode := .run, kind := .normal }
      have hf1 : (execC C (rc) f c (Env.start fn.ntmps args) s).All fun a => Free β s a.2.2 := free_bind hf fun a _ z hz => by
        unfold callEnd at hz
        split at hz
        · cases hz
        · split at hz
          · cases hz; exact Nat.le_refl _
          · cases hz
      obtain ⟨o, e1, s1, β1, own1, w1, t1, ds1, h1, hw1, h2, h3, h4, h5, h6⟩ := (execC_sim H HD hrg ihc ihr ihk f b rfl w.heap.size c β own s w (Env.start fn.ntmps args) _ [] hs hw hG (er_start ha fn.ntmps) (p3 c hbd) (.inl rfl) (.nil ..) (Nat.le_refl _) hf1).before (st' := fun k => .code c :: k) (fun k cs => to_start ..)
      obtain ⟨bs, rfl, m2, m3⟩ := h5
      obtain ⟨w2, q1, q2, q3, q4, q5, q6, q7⟩ := pop_marks (P := P) bs w1 h3 m2 fun b hb => (m3 b hb).2
      have e2 : Ext β own s w β1 own1 s1 w2 := h2.other q2 (fun b hb => q3 b fun hm => by have := (m3 b hm).1; omega) q4 q5 q6
      rw [M.all_bind] at hf
      have hf2 := hf.has h1
      have henter : Frame.enter P f args' .normal = fgo b (args' ++ Array.replicate (fn.ntmps - args'.size) undef) [] [.code c] := by simp [Frame.enter, fgo, p1, hbd, b]
      have hcf := callFunc_sim (w := w) H hfn hbd args'
      have fin : (callEnd C fn (o, e1, s1)).All (fun x => Free β s x.2) → (∀ cs, ∃ k1, Steps P (lone (Frame.enter P f args' .normal) cs w) (lone { fgo b t1 (bs.map markOf) k1 with mode := .returning } cs w1)) → (callEnd C fn (o, e1, s1) = match resultsV C s1 e1 fn.results.toList with
            | some vs => .ret (.val (oneOrTuple vs), s1)
            | none => .fail) →
          ∃ v s' β' own' w' v', ((execC C (rc) f c (Env.start fn.ntmps args) s).bind (callEnd C fn)).Has (.val v, s') ∧ Ext β own s w β' own' s' w' ∧ SR (okK G) β' own' s'.get w' ∧ VR β' v v' ∧
            (callFunc f args').run P w = .ok (.enter f args') w ∧ CallsTo P f args' w v' w' := by
        intro hall hst hce
        rw [hce] at hall
        cases hrs : resultsV C s1 e1 fn.results.toList with
        | none => rw [hrs] at hall; exact hall.elim
        | some vs =>
          obtain ⟨v', r1, r2⟩ := run_results H q1 h4 hrs
          refine ⟨oneOrTuple vs, s1, β1, own1, w2, v', h1.bind (by rw [hce, hrs]; exact .ret _), e2, q1, r2, hcf, fun cs => ?_⟩
          obtain ⟨k1, hk⟩ := hst cs
          exact ⟨_, hk.trans (q7 _ rfl rfl cs), rfl, rfl, rfl, rfl, fn, p1, r1⟩
      cases o with
      | exit id => exact hf2.elim
      | normal =>
        refine fin hf2 (fun cs => ⟨[], ?_⟩) rfl
        rw [henter]
        exact (h6 [] cs).trans (.one (st_end rfl))
      | ret =>
        refine fin hf2 (fun cs => ?_) rfl
        rw [henter]
        obtain ⟨k1, hk⟩ := h6 [] cs
        exact ⟨_, hk.trans (.one (st_ret rfl))⟩
    · -- a round
      intro β own s w l l' args args' hs hw hG ha hl hf
      cases hg : s.get l with
      | none => simp only [istep, hg] at hf; exact hf.elim
      | some ob =>
      cases ob with
      | loop lp =>
        obtain ⟨lp', hh, hlr⟩ := loop_at hs hl hg
        by_cases hlen : args.length = lp.params.size
        · have heq : istep C rc (.round l args) s = (execC C (rc) lp.fn lp.assign (Env.putA lp.params.toList args lp.tmps) s).bind (roundBody C (rc) l lp) := by simp only [istep, hg, hlen, if_true]
          rw [heq] at hf ⊢
          have hsz : args'.size = lp'.params.size := by have := ha.length; rw [hlr.params]; simpa [← hlen] using this
          let b : Frame := { fn := lp'.fn, tmps := #[], todo := [], defers := [], mode := .run, kind := .normal, roundOf := some l' }
          have hir : InRound b β s := .inr ⟨l, l', rfl, hl, by rw [hg]; trivial⟩
          have her : ER β (Env.putA lp.params.toList args lp.tmps) (roundTmps lp' args') := by
            have := er_putA lp.params.toList args args'.toList lp.tmps lp'.tmps ha hlr.tmps
            have e1 : roundTmps lp' args' = (lp.params.toList.zip args'.toList).foldl (fun tmps (x : Tmp × Value) => tmps.setIfInBounds x.1 x.2) lp'.tmps := by
              unfold roundTmps
              rw [← Array.foldl_toList, Array.toList_zip, hlr.params]
            rw [e1]; exact this
          have hf1 : (execC C (rc) lp.fn lp.assign (Env.putA lp.params.toList args lp.tmps) s).All fun a => Free β s a.2.2 := free_bind hf fun a ha z hz => by
            have g := grow_execC hrg _ _ _ hw a ha
            obtain ⟨o, e1, s1⟩ := a
            unfold roundBody at hz
            cases o with
            | exit id => cases hz
            | ret => cases hz
            | normal =>
              dsimp only at hz
              split at hz
              · rename_i lp1 hg1
                split at hz
                · obtain ⟨y, hy, hz⟩ := has_bind hz
                  have g1 := grow_execC hrg _ _ _ (g.2.set hg1) y hy
                  unfold roundEnd at hz
                  obtain ⟨o2, e2, s2⟩ := y
                  dsimp only at hz
                  split at hz
                  · cases hz; exact g1.1.n
                  · cases hz
                · cases hz
              · cases hz
          obtain ⟨o, e1, s1, β1, own1, w1, t1, ds1, h1, hw1, h2, h3, h4, h5, h6⟩ := (execC_sim H HD hrg ihc ihr ihk lp.fn b hlr.fn 0 lp.assign β own s w _ _ [] hs hw hG her hlr.ok1 hir (.nil ..) (Nat.zero_le _) hf1).before (st' := fun k => .code lp.assign :: k) (fun k cs => to_start ..)
          rw [M.all_bind] at hf
          have hf2 := hf.has h1
          have g1 := grow_execC hrg _ _ _ hw _ h1
          cases o with
          | exit id => exact hf2.elim
          | ret => exact hf2.elim
          | normal =>
            have hrb : roundBody C (rc) l lp (.normal, e1, s1) = match s1.get l with
              | some (.loop lp1) =>
                match lp1.state with
                | .ready => (execC C (rc) lp.fn lp.body e1 (s1.set l (.loop { lp1 with state := .busy }))).bind (roundEnd l)
                | _ => .fail
              | _ => .fail := rfl
            rw [hrb] at hf2
            cases hg1 : s1.get l with
            | none => rw [hg1] at hf2; exact hf2.elim
            | some ob =>
            rw [hg1] at hf2
            cases ob with
            | loop lp1 =>
              dsimp only at hf2
              cases hst : lp1.state with
              | ready =>
                rw [hst] at hf2
                dsimp only at hf2
                obtain ⟨lp1', hh1, hlr1⟩ := loop_at h3 (h2.le.1 _ _ hl) hg1
                obtain ⟨w2, r1, r2, r3⟩ := set_loop (P := P) h3 hw1 (h2.le.1 _ _ hl) hg1 hh1 (lp1 := { lp1 with state := .busy }) (lp1' := { lp1' with state := .busy })
                  ⟨rfl, hlr1.pending, hlr1.fn, hlr1.tmps, hlr1.params, hlr1.assign, hlr1.body, hlr1.ok1, hlr1.ok2⟩
                have hbeg : (Instr.beginRound l').run P w1 = .ok () w2 := by
                  simp only [Instr.beginRound, Sem.run_bind, run_getLoop hh1, Result.andThen_ok, r1, hlr1.state, hst]
                  rfl
                have e02 := h2.trans r2
                have hw2 : (s1.set l (.loop { lp1 with state := .busy })).WF := hw1.set hg1
                have hf3 : (execC C (rc) lp.fn lp.body e1 (s1.set l (.loop { lp1 with state := .busy }))).All fun a => Free β s a.2.2 := free_bind hf2 fun a ha z hz => by
                  obtain ⟨o2, e2, s2⟩ := a
                  unfold roundEnd at hz
                  dsimp only at hz
                  split at hz
                  · cases hz; exact Nat.le_refl _
                  · cases hz
                have hf4 : (execC C (rc) lp.fn lp.body e1 (s1.set l (.loop { lp1 with state := .busy }))).All fun a => Free β1 (s1.set l (.loop { lp1 with state := .busy })) a.2.2 := free_next (sa := fun a : Out × Env × St => a.2.2) e02 hf3
                obtain ⟨o, e3, s3, β3, own3, w3, t3, ds3, k1, kw, k2, k3, k4, k5, k6⟩ := (execC_sim H HD hrg ihc ihr ihk lp.fn b hlr.fn 0 lp.body β1 own1 _ w2 e1 t1 ds1 r3 hw2 (hG.mono h2.le) h4 hlr.ok2
                  (.inr ⟨l, l', rfl, h2.le.1 _ _ hl, by rw [St.get_set, if_pos rfl]; trivial⟩) (h5.ext r2) (Nat.zero_le _) hf4).before (st' := fun k => .code lp.body :: k) (fun k cs => to_start ..)
                have e03 := e02.trans k2
                rw [M.all_bind] at hf2
                have hf5 := hf2.has k1
                have hre : roundEnd l (o, e3, s3) = match s3.get l with
                  | some (.loop lp) => .ret (.val (.bool (jumpOf o).isNone), s3.set l (.loop { lp with state := if (jumpOf o).isNone then .ready else .done, pending := jumpOf o }))
                  | _ => .fail := rfl
                rw [hre] at hf5
                cases hg3 : s3.get l with
                | none => rw [hg3] at hf5; exact hf5.elim
                | some ob =>
                rw [hg3] at hf5
                cases ob with
                | loop lp3 =>
                  obtain ⟨lp3', hh3, hlr3⟩ := loop_at k3 (e03.le.1 _ _ hl) hg3
                  obtain ⟨w4, u1, u2, u3⟩ := set_loop (P := P) k3 kw (e03.le.1 _ _ hl) hg3 hh3 (lp1 := { lp3 with state := if (jumpOf o).isNone then .ready else .done, pending := jumpOf o })
                    (lp1' := { lp3' with state := if (jumpOf o).isNone then .ready else .done, pending := jumpOf o })
                    ⟨rfl, rfl, hlr3.fn, hlr3.tmps, hlr3.params, hlr3.assign, hlr3.body, hlr3.ok1, hlr3.ok2⟩
                  have hend : (Instr.endRound l' (jumpOf o)).run P w3 = .ok (.bool (jumpOf o).isNone) w4 := by
                    simp only [Instr.endRound, Sem.run_bind, run_getLoop hh3, Result.andThen_ok, u1, Sem.run_pure]
                  have hround : Frame.round l' lp'.fn (roundTmps lp' args') lp'.assign lp'.body .normal = fgo b (roundTmps lp' args') [] [.code lp.assign, .beginRound, .code lp.body] := by
                    rw [hlr.assign, hlr.body]; rfl
                  refine ⟨.bool (jumpOf o).isNone, _, β3, own3, w4, .bool (jumpOf o).isNone, lp', h1.bind (by rw [hrb, hg1]; dsimp only; rw [hst]; dsimp only; exact k1.bind (by rw [hre, hg3]; exact .ret _)), e03.trans u2, u3, .bool _, hh, hsz, fun cc cs => ?_⟩
                  rw [hround]
                  refine (h6 [.beginRound, .code lp.body] (cc :: cs)).trans (.head (st_beginRound rfl hbeg) ?_)
                  cases o with
                  | normal => exact (k6 [] (cc :: cs)).trans (.one (st_leave rfl rfl hend (.inl ⟨rfl, rfl⟩)))
                  | ret =>
                    obtain ⟨kk, hk⟩ := k6 [] (cc :: cs)
                    exact hk.trans (.one (st_leave rfl rfl hend (.inr (.inl ⟨rfl, kk, rfl⟩))))
                  | exit id =>
                    obtain ⟨kk, hx, hk⟩ := k6 [] (cc :: cs)
                    exact hk.trans (.one (st_leave rfl rfl hend (.inr (.inr ⟨id, kk, rfl, rfl, hx⟩))))
                | _ => exact hf5.elim
              | _ => rw [hst] at hf2; exact hf2.elim
            | _ => exact hf2.elim
        · simp only [istep, hg, hlen, if_false] at hf; exact hf.elim
      | _ => simp only [istep, hg] at hf; exact hf.elim
    · -- code
      intro β own s w fid c e b t ds n0 hs hw hG he hok hb hir hm hn hf
      have heq : istep C rc (.code fid c e) s = (execC C (rc) fid c e s).bind fun (o, e', s') => .ret (.out o e', s') := rfl
      rw [heq] at hf ⊢
      have hf1 : (execC C (rc) fid c e s).All fun a => Free β s a.2.2 := free_bind hf fun a _ z hz => by
        obtain ⟨o, e1, s1⟩ := a
        cases hz; exact Nat.le_refl _
      obtain ⟨o, e1, s1, β1, own1, w1, t1, ds1, h1, hw1, h2, h3, h4, h5, h6⟩ := execC_sim H HD hrg ihc ihr ihk fid b hb n0 c β own s w e t ds hs hw hG he hok hir hm hn hf1
      exact ⟨o, e1, s1, β1, own1, w1, t1, ds1, M.Has.bind (f := outOf) (a := (Res.out o e1, s1)) (M.Has.bind h1 (.ret _)) (.ret _), hw1, h2, h3, h4, h5, h6⟩

theorem run_sim (H : CfgOk P C (okK G)) (HD : DrawSim P C (okK G) G) : ∀ n, CallSim P (okK G) G (run C n) ∧ RoundSim P (okK G) G (run C n) ∧ CodeSim P (okK G) G (run C n)
  | 0 => ⟨fun _ _ _ _ _ _ _ _ _ _ _ hf => hf.elim, fun _ _ _ _ _ _ _ _ _ _ _ _ _ hf => hf.elim, fun _ _ _ _ _ _ _ _ _ _ _ _ _ _ _ _ _ _ _ _ hf => hf.elim⟩
  | n + 1 =>
    let ⟨ihc, ihr, ihk⟩ := run_sim H HD n
    istep_sim H HD (grow_run n) ihc ihr ihk

end
end Go.Ai
