/- The bytes of a record. -/
import Derived.Test.YtegigohhnplomaaProgEnc
import Derived.Test.YtegigohhnplomaaGoodRec
import Derived.Test.YtegigohhnplomaaCrc
import Derived.Test.YtegigohhnplomaaPut
set_option linter.unusedVariables false
set_option linter.unusedSimpArgs false
set_option linter.unnecessarySimpa false
namespace Go.Proofs.Ytegigohhnplomaa
open Go.Ai
def wrB (x : Wr) : List UInt8 := uv (u64 x.1) ++ (uv (fold x.2.1) ++ ([bif x.2.2.2 then 1 else 0] ++ (bif x.2.2.2 then [] else uv (fold x.2.2.1))))
def inW (x : Wr) : Prop := in64 x.1 ∧ in64 x.2.1 ∧ in64 x.2.2.1
noncomputable def bodyB (sq : Int) (vl : Bool) (fu : Int) (co : List Code) (rs : List Key) (ss : List Span) (ws : List Key) (wr : List Wr) : List UInt8 :=
  uv (u64 sq) ++ ([bif vl then 1 else 0] ++ (bif vl then uv wr.length ++ catB wrB wr else (uv (progB fu co).length ++ progB fu co) ++ (uv (putP rs ss ws).length ++ putP rs ss ws)))
theorem keep_le {l : List UInt8} {n : Int} {c : UInt8} : ((l ++ uv (u64 n)) ++ [c]).length ≤ l.length + 11 := by
  have := app_le (l := l) (n := n) (B := l.length + 10) (Nat.le_refl _)
  rw [List.length_append]
  exact Nat.succ_le_succ this
theorem wr_t {x : Wr} (h : x.2.2.2 = true) {l : List UInt8} : l ++ uv (u64 x.1) ++ uv (fold x.2.1) ++ [bif true then 1 else 0] = l ++ wrB x := by
  simp only [wrB, h, cond_true, List.append_nil, List.append_assoc]
theorem wr_f {x : Wr} (h : x.2.2.2 = false) {l : List UInt8} : l ++ uv (u64 x.1) ++ uv (fold x.2.1) ++ [bif false then 1 else 0] ++ uv (fold x.2.2.1) = l ++ wrB x := by
  simp only [wrB, h, cond_false, List.append_assoc]
theorem wr_next {wr : List Wr} {i : Nat} {x : Wr} {l l2 p : List UInt8} (hx : wr[i]? = some x) (e : l2 = l ++ wrB x) (e1 : l = p ++ ([1] ++ (uv wr.length ++ catB wrB (wr.take i)))) : l2 = p ++ ([1] ++ (uv wr.length ++ catB wrB (wr.take (i + 1)))) := by
  rw [e, e1, catB_succ hx]
  simp only [List.append_assoc]
theorem wrB_len {x : Wr} (h : inW x) {l : List UInt8} : (l ++ wrB x).length ≤ l.length + 31 := by
  have h1 := uv_len10 (u64_lt x.1)
  have h2 := uv_len10 (fold_lt h.2.1)
  have h3 := uv_len10 (fold_lt h.2.2)
  simp only [wrB, List.length_append, List.length_cons, List.length_nil]
  cases x.2.2.2
  · simp only [cond_false]; omega
  · simp only [cond_true, List.length_nil]; omega
theorem wr_len {x : Wr} {l l2 : List UInt8} {B : Nat} (h : inW x) (e : l2 = l ++ wrB x) (hB : l.length + 31 ≤ B) : l2.length ≤ B := e ▸ Nat.le_trans (wrB_len h) hB
theorem progB_len {fu : Int} {co : List Code} (h : co.length ≤ 32) (hi : ∀ c ∈ co, inC c) : (progB fu co).length ≤ 1652 := by
  have q := catB_len (f := encC) (c := 51) (l := co) fun c hc => encC_len (hi c hc)
  have h1 := uv_len10 (u64_lt fu)
  have h2 := uv_len10 (x := co.length) (by omega)
  simp only [progB, List.length_append]
  omega
theorem putP_len {ar : List Key} {az : List Span} {aw : List Key} (h0 : okK ar) (h1 : okS az) (h2 : okK aw) : (putP ar az aw).length ≤ 300000 := by
  unfold putP
  split
  · have k0 := keysB_len h0
    have k2 := keysB_len h2
    have q := catB_len (f := sb) (c := 30) (l := az) fun x hx => by
      have h3 := uv_len10 (u64_lt x.1)
      have h4 := uv_len10 (fold_lt (h1.2 x hx).1)
      have h5 := uv_len10 (fold_lt (h1.2 x hx).2)
      simp only [sb, List.length_append]
      omega
    have q2 := uv_len10 (x := az.length) (by have := h1.1; omega)
    have := h1.1
    simp only [footB, spansB, List.length_append]
    omega
  · simp
theorem bl1 {l : List UInt8} {n : Int} (h : l.length ≤ 200000) : (l ++ uv (u64 n)).length ≤ 1000000000 := app_le (by omega)
theorem bl2 {l : List UInt8} {x : Wr} (h : inW x) (hl : l.length ≤ 200000) : (l ++ uv (u64 x.1) ++ uv (fold x.2.1)).length ≤ 1000000000 := app_leF h.2.1 (by have q := app_le (l := l) (n := x.1) (B := 200010) (by omega); omega)
theorem bl3 {l : List UInt8} {x : Wr} {c : UInt8} (h : inW x) (hl : l.length ≤ 200000) : (l ++ uv (u64 x.1) ++ uv (fold x.2.1) ++ [c]).length ≤ 1000000000 := by
  have q := app_le (l := l) (n := x.1) (B := 200010) (by omega)
  have q2 := app_leF (l := l ++ uv (u64 x.1)) (n := x.2.1) (B := 200020) h.2.1 (by omega)
  rw [List.length_append]
  simp only [List.length_cons, List.length_nil]
  omega
theorem bl4 {n : Int} : (([] : List UInt8) ++ uv (u64 n)).length ≤ 1000000000 := app_le (by simp)
theorem bl5 {n : Int} {c : UInt8} : (([] : List UInt8) ++ uv (u64 n) ++ [c]).length ≤ 1000000000 := Nat.le_trans keep_le (by simp)
theorem body_1 {sq : Int} {vl : Bool} {fu : Int} {co : List Code} {rs : List Key} {ss : List Span} {ws : List Key} {wr : List Wr} {c : UInt8} (h : goodR_ sq vl fu co rs ss ws wr) (hv : vl = false) (h4 : ∀ c ∈ co, inC c) : (([] : List UInt8) ++ uv (u64 sq) ++ [c]).length + (progB fu co).length ≤ 1000000000 - 10 := by
  have q := keep_le (l := ([] : List UInt8)) (n := sq) (c := c)
  have q2 := progB_len (fu := fu) (by have := ((good_c hv).1 h).2.2.1.1.2.2; omega) h4
  simp only [List.length_nil] at q
  omega
theorem body_2 {sq : Int} {vl : Bool} {fu : Int} {co : List Code} {rs : List Key} {ss : List Span} {ws : List Key} {wr : List Wr} {c : UInt8} (h : goodR_ sq vl fu co rs ss ws wr) (hv : vl = false) (h4 : ∀ c ∈ co, inC c) (h1 : okK rs) (h2 : okS ss) (h3 : okK ws) : (([] : List UInt8) ++ uv (u64 sq) ++ [c] ++ (uv (progB fu co).length ++ progB fu co)).length + (putP rs ss ws).length ≤ 1000000000 - 10 := by
  have q := keep_le (l := ([] : List UInt8)) (n := sq) (c := c)
  have q2 := progB_len (fu := fu) (by have := ((good_c hv).1 h).2.2.1.1.2.2; omega) h4
  have q3 := putP_len h1 h2 h3
  have q4 := uv_len10 (x := (progB fu co).length) (by omega)
  simp only [List.length_nil] at q
  simp only [List.length_append, List.length_cons, List.length_nil] at q ⊢
  omega
theorem body_3 {sq : Int} {vl : Bool} {fu : Int} {co : List Code} {rs : List Key} {ss : List Span} {ws : List Key} {wr : List Wr} {c : UInt8} (h : goodR_ sq vl fu co rs ss ws wr) (hv : vl = false) (h4 : ∀ c ∈ co, inC c) (h1 : okK rs) (h2 : okS ss) (h3 : okK ws) : (([] : List UInt8) ++ uv (u64 sq) ++ [c] ++ (uv (progB fu co).length ++ progB fu co) ++ (uv (putP rs ss ws).length ++ putP rs ss ws)).length ≤ 2 * 1000000000 := by
  have q := body_2 (c := c) h hv h4 h1 h2 h3
  have q3 := putP_len h1 h2 h3
  have q4 := uv_len10 (x := (putP rs ss ws).length) (by omega)
  simp only [List.length_append, List.length_cons, List.length_nil] at q ⊢
  omega
theorem bl7 {l : List UInt8} {n : Nat} {r : List UInt8} (h : l = uv n ++ r) : ¬ l = [] := fun e => by
  have := uv_pos n
  have := congrArg List.length (h.symm.trans e)
  simp only [List.length_append, List.length_nil] at this
  omega
theorem bl6 {l : List UInt8} {i : Nat} (h : l.length ≤ 21 + 31 * i) (hi : i ≤ 4000) : l.length ≤ 2 * 1000000000 := by omega
theorem body_fn : Try.cfg.fn 17 = some Try.f17 := by kernel_rfl
set_option maxHeartbeats 4000000 in
set_option maxRecDepth 100000 in
theorem body_sc (sq : Int) (vl : Bool) (fu : Int) (co : List Code) (rs : List Key) (ss : List Span) (ws : List Key) (wr : List Wr) (h0 : goodR_ sq vl fu co rs ss ws wr) (h1 : okK rs) (h2 : okS ss) (h3 : okK ws) (h4 : ∀ c ∈ co, inC c) (h5 : ∀ w ∈ wr, inW w) (h6 : wr.length ≤ 4000) : SC Try.prog 0 17 [.agg #[.int .i64 sq, .bool vl, .int .i64 fu, inlL ccells 6 co, inlL kcells 2 rs, inlL scells 3 ss, inlL kcells 2 ws, inlL wcells 4 wr]] (St.empty 0) fun v s' => ∃ σ : Nat → Nat, (∀ a, a < 0 → σ a = a) ∧ (∀ a, 0 ≤ a → a < 0 + 1 → 0 ≤ σ a ∧ σ a < s'.n) ∧ (∀ a b, a < 0 + 1 → b < 0 + 1 → σ a = σ b → a = b) ∧ v = slL (σ 0) 1 ((bodyB sq vl fu co rs ss ws wr).length) ∧ s'.n ≤ 400 ∧ ∀ a, a < 0 + 1 → s'.get (σ a) = some (objL [rowL bcells (bodyB sq vl fu co rs ss ws wr)] a) := by
  obtain ⟨rc, hS, hC⟩ := rc_con (sound_run Try.cfgOk 300) [con_wcount, con_wflag, con_pencode, con_wbytes, con_fput, con_woutN, con_wnum] (by kernel_rfl)
  have hC35 := hC con_wcount (.head _)
  have hC36 := hC con_wflag (.tail _ (.head _))
  have hC37 := hC con_pencode (.tail _ (.tail _ (.head _)))
  have hC38 := hC con_wbytes (.tail _ (.tail _ (.tail _ (.head _))))
  have hC39 := hC con_fput (.tail _ (.tail _ (.tail _ (.tail _ (.head _)))))
  have hC40 := hC con_woutN (.tail _ (.tail _ (.tail _ (.tail _ (.tail _ (.head _))))))
  have hC41 := hC con_wnum (.tail _ (.tail _ (.tail _ (.tail _ (.tail _ (.tail _ (.head _)))))))
  refine sc_body Try.cfgOk body_fn rfl ?_
  refine sk_seq ?_
  refine sk_regionK Try.cfgOk hS (by kernel_rfl) ?_
  refine sk_seq ?_
  refine sk_regionK Try.cfgOk hS (by kernel_rfl) ?_
  refine sk_seq ?_
  refine sk_live 76 [(1, .pointer (some ⟨0, 0, none⟩)), (3, .pointer (some ⟨1, 0, none⟩))] (by kernel_rfl) ⟨by kernel_rfl, by kernel_rfl, trivial⟩ fun m1 => ?_
  refine sk_st (((St.empty 0).new (.cells [.int .i64 sq, .bool vl, .int .i64 fu, inlL ccells 6 co, inlL kcells 2 rs, inlL scells 3 ss, inlL kcells 2 ws, inlL wcells 4 wr])).new (.cells [.slice none 0 0])) (by kernel_rfl) ?_
  refine virt_cell 3 1 0 1 [] [] (by decide) (((wf_empty 0).new _).new _) (by kernel_rfl) (by kernel_rfl) (by decide) ?_
  refine sk_st ((((St.empty 0).new (.cells [.int .i64 sq, .bool vl, .int .i64 fu, inlL ccells 6 co, inlL kcells 2 rs, inlL scells 3 ss, inlL kcells 2 ws, inlL wcells 4 wr])).new (.cells [slL 2 1 (([] : List UInt8).length)])).new (rowL bcells ([] : List UInt8))) (by kernel_rfl) ?_
  refine sk_regionL Try.cfgOk hS ?_
  refine al_chunk 3 (by kernel_rfl) ?_
  refine al_eqv (v := .int .u64 (IntKind.wrap .u64 sq)) (.int .u64 ((u64 sq : Nat) : Int)) (by kernel_rfl) (by kernel_rfl) (by kernel_rfl) (congrArg (Value.int .u64) (wrap_u64 _)) ?_
  refine al_callH 35 [.pointer (some ⟨1, 0, none⟩), .int .u64 ((u64 sq : Nat) : Int)] (.tuple #[]) _ rfl (fun b h => by cases h) (by kernel_rfl) (by kernel_rfl) (hC35 _ _ _ _ (con_wcount_at ([] : List UInt8) (u64 sq) 1 2 (by first | omega | assumption | exact u64_lt _ | (simp; done) | (refine app_le ?_; simp; done) | exact ((good_c (by assumption)).1 h0).2.2.1 | exact (h5 _ (List.mem_of_getElem? (by assumption))).2.1 | exact (h5 _ (List.mem_of_getElem? (by assumption))).2.2 | exact body_1 h0 (by assumption) h4 | exact body_2 h0 (by assumption) h4 h1 h2 h3 | exact body_3 h0 (by assumption) h4 h1 h2 h3 | exact bl1 (by omega) | exact bl2 (h5 _ (List.mem_of_getElem? (by assumption))) (by omega) | exact bl3 (h5 _ (List.mem_of_getElem? (by assumption))) (by omega) | exact bl4 | exact bl5 | exact bl6 i2 (by omega) | exact bl7 i1 | (exact fun e => by simp at e)) (by first | omega | assumption | exact u64_lt _ | (simp; done) | (refine app_le ?_; simp; done) | exact ((good_c (by assumption)).1 h0).2.2.1 | exact (h5 _ (List.mem_of_getElem? (by assumption))).2.1 | exact (h5 _ (List.mem_of_getElem? (by assumption))).2.2 | exact body_1 h0 (by assumption) h4 | exact body_2 h0 (by assumption) h4 h1 h2 h3 | exact body_3 h0 (by assumption) h4 h1 h2 h3 | exact bl1 (by omega) | exact bl2 (h5 _ (List.mem_of_getElem? (by assumption))) (by omega) | exact bl3 (h5 _ (List.mem_of_getElem? (by assumption))) (by omega) | exact bl4 | exact bl5 | exact bl6 i2 (by omega) | exact bl7 i1 | (exact fun e => by simp at e)) _ (by kernel_rfl) (by kernel_rfl) (by kernel_rfl) )) ?_
  refine al_nil ?_
  refine sk_seq ?_
  refine sk_regionL Try.cfgOk hS ?_
  refine al_chunk 2 (by kernel_rfl) ?_
  refine al_mapB (loadV Try.cfg ((((St.empty 0).new (.cells [.int .i64 sq, .bool vl, .int .i64 fu, inlL ccells 6 co, inlL kcells 2 rs, inlL scells 3 ss, inlL kcells 2 ws, inlL wcells 4 wr])).new (.cells [slL 2 1 ((([] : List UInt8) ++ uv (u64 sq)).length)])).new (rowL bcells (([] : List UInt8) ++ uv (u64 sq)))) 4 (.pointer (some ⟨0, 1, none⟩))) (vl) (by kernel_rfl) (by kernel_rfl) (by kernel_rfl) (by kernel_rfl) (fun c2 => ?_) (fun c2 => ?_)
  ·
    refine al_callH 36 [.pointer (some ⟨1, 0, none⟩), .bool true] (.tuple #[]) _ rfl (fun b h => by cases h) (by kernel_rfl) (by kernel_rfl) (hC36 _ _ _ _ (con_wflag_at (([] : List UInt8) ++ uv (u64 sq)) true 1 2 (by first | omega | assumption | exact u64_lt _ | (simp; done) | (refine app_le ?_; simp; done) | exact ((good_c (by assumption)).1 h0).2.2.1 | exact (h5 _ (List.mem_of_getElem? (by assumption))).2.1 | exact (h5 _ (List.mem_of_getElem? (by assumption))).2.2 | exact body_1 h0 (by assumption) h4 | exact body_2 h0 (by assumption) h4 h1 h2 h3 | exact body_3 h0 (by assumption) h4 h1 h2 h3 | exact bl1 (by omega) | exact bl2 (h5 _ (List.mem_of_getElem? (by assumption))) (by omega) | exact bl3 (h5 _ (List.mem_of_getElem? (by assumption))) (by omega) | exact bl4 | exact bl5 | exact bl6 i2 (by omega) | exact bl7 i1 | (exact fun e => by simp at e)) _ (by kernel_rfl) (by kernel_rfl) (by kernel_rfl) )) ?_
    refine al_nil ?_
    refine sk_seq (sk_seq ?_)
    refine sk_regionL Try.cfgOk hS ?_
    refine al_chunk 1 (by kernel_rfl) ?_
    refine al_map (loadV Try.cfg ((((St.empty 0).new (.cells [.int .i64 sq, .bool vl, .int .i64 fu, inlL ccells 6 co, inlL kcells 2 rs, inlL scells 3 ss, inlL kcells 2 ws, inlL wcells 4 wr])).new (.cells [slL 2 1 (((([] : List UInt8) ++ uv (u64 sq)) ++ [bif true then 1 else 0]).length)])).new (rowL bcells ((([] : List UInt8) ++ uv (u64 sq)) ++ [bif true then 1 else 0]))) 4 (.pointer (some ⟨0, 1, none⟩))) (.bool true) (by kernel_rfl) (by kernel_rfl) (by kernel_rfl) (Eq.trans (b := some (.bool (vl))) (by kernel_rfl) (congrArg (fun b => some (Value.bool b)) c2)) ?_
    refine al_known (by kernel_rfl) ?_
    refine sk_false (by kernel_rfl) ?_
    refine sk_skip (sk_seq ?_)
    refine sk_regionL Try.cfgOk hS ?_
    refine al_chunk 3 (by kernel_rfl) ?_
    refine al_map (lenB Try.cfg (St.empty 0) 29 (inlL wcells 4 wr)) (.int .i64 ((wr.length : Nat) : Int)) (by kernel_rfl) (by kernel_rfl) (by kernel_rfl) (len_inl tokC (by kernel_rfl)) ?_
    refine al_eqv (v := .int .u64 (IntKind.wrap .u64 ((wr.length : Nat) : Int))) (.int .u64 ((wr.length : Nat) : Int)) (by kernel_rfl) (by kernel_rfl) (by kernel_rfl) (congrArg (Value.int .u64) ((wrap_u64 _).trans (congrArg Nat.cast (u64_nat (by first | omega | assumption))))) ?_
    refine al_callH 35 [.pointer (some ⟨1, 0, none⟩), .int .u64 ((wr.length : Nat) : Int)] (.tuple #[]) _ rfl (fun b h => by cases h) (by kernel_rfl) (by kernel_rfl) (hC35 _ _ _ _ (con_wcount_at ((([] : List UInt8) ++ uv (u64 sq)) ++ [bif true then 1 else 0]) wr.length 1 2 (by first | omega | assumption | exact u64_lt _ | (simp; done) | (refine app_le ?_; simp; done) | exact ((good_c (by assumption)).1 h0).2.2.1 | exact (h5 _ (List.mem_of_getElem? (by assumption))).2.1 | exact (h5 _ (List.mem_of_getElem? (by assumption))).2.2 | exact body_1 h0 (by assumption) h4 | exact body_2 h0 (by assumption) h4 h1 h2 h3 | exact body_3 h0 (by assumption) h4 h1 h2 h3 | exact bl1 (by omega) | exact bl2 (h5 _ (List.mem_of_getElem? (by assumption))) (by omega) | exact bl3 (h5 _ (List.mem_of_getElem? (by assumption))) (by omega) | exact bl4 | exact bl5 | exact bl6 i2 (by omega) | exact bl7 i1 | (exact fun e => by simp at e)) (by first | omega | assumption | exact u64_lt _ | (simp; done) | (refine app_le ?_; simp; done) | exact ((good_c (by assumption)).1 h0).2.2.1 | exact (h5 _ (List.mem_of_getElem? (by assumption))).2.1 | exact (h5 _ (List.mem_of_getElem? (by assumption))).2.2 | exact body_1 h0 (by assumption) h4 | exact body_2 h0 (by assumption) h4 h1 h2 h3 | exact body_3 h0 (by assumption) h4 h1 h2 h3 | exact bl1 (by omega) | exact bl2 (h5 _ (List.mem_of_getElem? (by assumption))) (by omega) | exact bl3 (h5 _ (List.mem_of_getElem? (by assumption))) (by omega) | exact bl4 | exact bl5 | exact bl6 i2 (by omega) | exact bl7 i1 | (exact fun e => by simp at e)) _ (by kernel_rfl) (by kernel_rfl) (by kernel_rfl) )) ?_
    refine al_nil ?_
    refine sk_seq (sk_seq ?_)
    refine sk_regionL Try.cfgOk hS ?_
    refine al_chunk 2 (by kernel_rfl) ?_
    refine al_map (lenB Try.cfg (St.empty 0) 29 (inlL wcells 4 wr)) (.int .i64 ((wr.length : Nat) : Int)) (by kernel_rfl) (by kernel_rfl) (by kernel_rfl) (len_inl tokC (by kernel_rfl)) ?_
    refine al_known (by kernel_rfl) ?_
    refine sk_block ?_
    refine sk_live 76 ((fun a : Nat × (List UInt8) => [(3, .pointer (some ⟨1, 0, none⟩)), (45, inlL wcells 4 wr), (46, .int .i64 ((wr.length : Nat) : Int)), (47, .int .i64 ((a.1 : Nat) : Int))]) (0, (((([] : List UInt8) ++ uv (u64 sq)) ++ [bif true then 1 else 0]) ++ uv wr.length))) (by kernel_rfl) ⟨by kernel_rfl, by kernel_rfl, by kernel_rfl, by kernel_rfl, trivial⟩ fun m3 => ?_
    refine sk_st ((fun a : Nat × (List UInt8) => ((((St.empty 0).new (.cells [.int .i64 sq, .bool vl, .int .i64 fu, inlL ccells 6 co, inlL kcells 2 rs, inlL scells 3 ss, inlL kcells 2 ws, inlL wcells 4 wr])).new (.cells [slL 2 1 a.2.length])).new (rowL bcells a.2))) (0, (((([] : List UInt8) ++ uv (u64 sq)) ++ [bif true then 1 else 0]) ++ uv wr.length))) (by kernel_rfl) ?_
    refine (sk_while (k := 3) (N := 400) (live := (fun a : Nat × (List UInt8) => [(3, .pointer (some ⟨1, 0, none⟩)), (45, inlL wcells 4 wr), (46, .int .i64 ((wr.length : Nat) : Int)), (47, .int .i64 ((a.1 : Nat) : Int))])) (M := (fun a : Nat × (List UInt8) => ((((St.empty 0).new (.cells [.int .i64 sq, .bool vl, .int .i64 fu, inlL ccells 6 co, inlL kcells 2 rs, inlL scells 3 ss, inlL kcells 2 ws, inlL wcells 4 wr])).new (.cells [slL 2 1 a.2.length])).new (rowL bcells a.2)))) (fun a : Nat × (List UInt8) => (a.1 ≤ wr.length) ∧ (a.2 = uv (u64 sq) ++ ([1] ++ (uv wr.length ++ catB wrB (wr.take a.1)))) ∧ (a.2.length ≤ 21 + 31 * a.1) ∧ (wr.length ≤ 4000)) (fun a : Nat × (List UInt8) => wr.length - a.1) (fun (a : Nat × (List UInt8)) (o : Out) (lv : List (Nat × Value)) (M : St) => (o = .exit 0 ∧ (¬ a.1 < wr.length) ∧ lv = [(3, .pointer (some ⟨1, 0, none⟩)), (45, inlL wcells 4 wr), (46, .int .i64 ((wr.length : Nat) : Int)), (47, .int .i64 ((a.1 : Nat) : Int))] ∧ M = ((((St.empty 0).new (.cells [.int .i64 sq, .bool vl, .int .i64 fu, inlL ccells 6 co, inlL kcells 2 rs, inlL scells 3 ss, inlL kcells 2 ws, inlL wcells 4 wr])).new (.cells [slL 2 1 a.2.length])).new (rowL bcells a.2)))) (Nat.zero_le _) (fun a ha => ?_) (fun a ha => ?_) (fun a m ha => ?_) (fun a m ha => ?_) (0, (((([] : List UInt8) ++ uv (u64 sq)) ++ [bif true then 1 else 0]) ++ uv wr.length)) m3 ?_).up ?_
    · exact ⟨by kernel_rfl, ((((wf_empty 0).new _).new _).new _), (selfs (all_cons (o := .cells [.int .i64 sq, .bool vl, .int .i64 fu, inlL ccells 6 co, inlL kcells 2 rs, inlL scells 3 ss, inlL kcells 2 ws, inlL wcells 4 wr]) (by kernel_rfl) (OSub.cells (.cons (sub_clo rfl) (.cons (sub_clo rfl) (.cons (sub_clo rfl) (.cons (sub_clo rfl) (.cons (sub_clo rfl) (.cons (sub_clo rfl) (.cons (sub_clo rfl) (.cons (sub_clo rfl) .nil))))))))) (all_cons (o := .cells [slL 2 1 a.2.length]) (by kernel_rfl) (OSub.cells (.cons (.slice ⟨by decide, rfl⟩) .nil)) (all_cons (o := rowL bcells a.2) (by kernel_rfl) (OSub.arr (subs_clo (flatL_clo bcells_clo))) (all_none)))))⟩
    · exact ⟨.ptr ⟨by decide, rfl⟩, sub_clo rfl, sub_clo rfl, sub_clo rfl, trivial⟩
    · exact ⟨by kernel_rfl, by kernel_rfl, by kernel_rfl, by kernel_rfl, trivial⟩
    · obtain ⟨i, l⟩ := a
      obtain ⟨i0, i1, i2, i3⟩ := ha
      dsimp only at i0 i1 i2 i3
      refine sk_seq ?_
      refine sk_regionL Try.cfgOk hS ?_
      refine al_test (by kernel_rfl) (by kernel_rfl) (by kernel_rfl) (fun h4 => ?_) (fun h4 => ?_)
      · have c5e : (decide ((((i : Nat) : Int) : Int) < ((wr.length : Nat) : Int))) = true := Eq.trans (by kernel_rfl) h4
        clear h4
        have c5 : (((i : Nat) : Int) : Int) < ((wr.length : Nat) : Int) := of_decide_eq_true c5e
        clear c5e
        refine al_nil ?_
        refine sk_seq ?_
        refine sk_true (by kernel_rfl) ?_
        refine sk_skip (sk_seq (sk_block (sk_seq ?_)))
        refine sk_regionL Try.cfgOk hS ?_
        refine al_map (indexAddrV Try.cfg 29 (inlL wcells 4 wr) (.int .i64 ((i : Nat) : Int))) (elt (flatL wcells wr) (i * 4)) (by kernel_rfl) (by kernel_rfl) (by kernel_rfl) (idx_inlL tokC (by kernel_rfl) (by first | omega | simp)) ?_
        have hx6l : i < wr.length := by omega
        refine Exists.elim (get_ex hx6l) fun x6 hx6 => ?_
        clear hx6l
        refine al_map (loadV Try.cfg (St.empty 0) 50 (elt (flatL wcells wr) (i * 4))) (.agg #[.int .i64 x6.1, .int .i64 x6.2.1, .int .i64 x6.2.2.1, .bool x6.2.2.2]) (by kernel_rfl) (by kernel_rfl) (by kernel_rfl) (load_el tokC (by kernel_rfl) wcells_len hx6) ?_
        refine al_known (by kernel_rfl) ?_
        refine sk_seq ?_
        refine sk_regionL Try.cfgOk hS ?_
        refine al_chunk 4 (by kernel_rfl) ?_
        refine al_eqv (v := .int .u64 (IntKind.wrap .u64 x6.1)) (.int .u64 ((u64 x6.1 : Nat) : Int)) (by kernel_rfl) (by kernel_rfl) (by kernel_rfl) (congrArg (Value.int .u64) (wrap_u64 _)) ?_
        refine al_callH 35 [.pointer (some ⟨1, 0, none⟩), .int .u64 ((u64 x6.1 : Nat) : Int)] (.tuple #[]) _ rfl (fun b h => by cases h) (by kernel_rfl) (by kernel_rfl) (hC35 _ _ _ _ (con_wcount_at l (u64 x6.1) 1 2 (by first | omega | assumption | exact u64_lt _ | (simp; done) | (refine app_le ?_; simp; done) | exact ((good_c (by assumption)).1 h0).2.2.1 | exact (h5 _ (List.mem_of_getElem? (by assumption))).2.1 | exact (h5 _ (List.mem_of_getElem? (by assumption))).2.2 | exact body_1 h0 (by assumption) h4 | exact body_2 h0 (by assumption) h4 h1 h2 h3 | exact body_3 h0 (by assumption) h4 h1 h2 h3 | exact bl1 (by omega) | exact bl2 (h5 _ (List.mem_of_getElem? (by assumption))) (by omega) | exact bl3 (h5 _ (List.mem_of_getElem? (by assumption))) (by omega) | exact bl4 | exact bl5 | exact bl6 i2 (by omega) | exact bl7 i1 | (exact fun e => by simp at e)) (by first | omega | assumption | exact u64_lt _ | (simp; done) | (refine app_le ?_; simp; done) | exact ((good_c (by assumption)).1 h0).2.2.1 | exact (h5 _ (List.mem_of_getElem? (by assumption))).2.1 | exact (h5 _ (List.mem_of_getElem? (by assumption))).2.2 | exact body_1 h0 (by assumption) h4 | exact body_2 h0 (by assumption) h4 h1 h2 h3 | exact body_3 h0 (by assumption) h4 h1 h2 h3 | exact bl1 (by omega) | exact bl2 (h5 _ (List.mem_of_getElem? (by assumption))) (by omega) | exact bl3 (h5 _ (List.mem_of_getElem? (by assumption))) (by omega) | exact bl4 | exact bl5 | exact bl6 i2 (by omega) | exact bl7 i1 | (exact fun e => by simp at e)) _ (by kernel_rfl) (by kernel_rfl) (by kernel_rfl) )) ?_
        refine al_nil ?_
        refine sk_seq ?_
        refine sk_regionL Try.cfgOk hS ?_
        refine al_chunk 4 (by kernel_rfl) ?_
        refine al_callH 41 [.pointer (some ⟨1, 0, none⟩), .int .i64 x6.2.1] (.tuple #[]) _ rfl (fun b h => by cases h) (by kernel_rfl) (by kernel_rfl) (hC41 _ _ _ _ (con_wnum_at (l ++ uv (u64 x6.1)) x6.2.1 1 2 (by first | omega | assumption | exact u64_lt _ | (simp; done) | (refine app_le ?_; simp; done) | exact ((good_c (by assumption)).1 h0).2.2.1 | exact (h5 _ (List.mem_of_getElem? (by assumption))).2.1 | exact (h5 _ (List.mem_of_getElem? (by assumption))).2.2 | exact body_1 h0 (by assumption) h4 | exact body_2 h0 (by assumption) h4 h1 h2 h3 | exact body_3 h0 (by assumption) h4 h1 h2 h3 | exact bl1 (by omega) | exact bl2 (h5 _ (List.mem_of_getElem? (by assumption))) (by omega) | exact bl3 (h5 _ (List.mem_of_getElem? (by assumption))) (by omega) | exact bl4 | exact bl5 | exact bl6 i2 (by omega) | exact bl7 i1 | (exact fun e => by simp at e)) (by first | omega | assumption | exact u64_lt _ | (simp; done) | (refine app_le ?_; simp; done) | exact ((good_c (by assumption)).1 h0).2.2.1 | exact (h5 _ (List.mem_of_getElem? (by assumption))).2.1 | exact (h5 _ (List.mem_of_getElem? (by assumption))).2.2 | exact body_1 h0 (by assumption) h4 | exact body_2 h0 (by assumption) h4 h1 h2 h3 | exact body_3 h0 (by assumption) h4 h1 h2 h3 | exact bl1 (by omega) | exact bl2 (h5 _ (List.mem_of_getElem? (by assumption))) (by omega) | exact bl3 (h5 _ (List.mem_of_getElem? (by assumption))) (by omega) | exact bl4 | exact bl5 | exact bl6 i2 (by omega) | exact bl7 i1 | (exact fun e => by simp at e)) _ (by kernel_rfl) (by kernel_rfl) (by kernel_rfl) )) ?_
        refine al_nil ?_
        refine sk_seq ?_
        refine sk_regionL Try.cfgOk hS ?_
        refine al_chunk 2 (by kernel_rfl) ?_
        refine al_mapB (loadV Try.cfg (((((St.empty 0).new (.cells [.int .i64 sq, .bool vl, .int .i64 fu, inlL ccells 6 co, inlL kcells 2 rs, inlL scells 3 ss, inlL kcells 2 ws, inlL wcells 4 wr])).new (.cells [slL 2 1 (((l ++ uv (u64 x6.1)) ++ uv (fold x6.2.1)).length)])).new (rowL bcells ((l ++ uv (u64 x6.1)) ++ uv (fold x6.2.1)))).new (.cells [.int .i64 x6.1, .int .i64 x6.2.1, .int .i64 x6.2.2.1, .bool x6.2.2.2])) 4 (.pointer (some ⟨3, 3, none⟩))) (x6.2.2.2) (by kernel_rfl) (by kernel_rfl) (by kernel_rfl) (by kernel_rfl) (fun c7 => ?_) (fun c7 => ?_)
        ·
          refine al_callH 36 [.pointer (some ⟨1, 0, none⟩), .bool true] (.tuple #[]) _ rfl (fun b h => by cases h) (by kernel_rfl) (by kernel_rfl) (hC36 _ _ _ _ (con_wflag_at ((l ++ uv (u64 x6.1)) ++ uv (fold x6.2.1)) true 1 2 (by first | omega | assumption | exact u64_lt _ | (simp; done) | (refine app_le ?_; simp; done) | exact ((good_c (by assumption)).1 h0).2.2.1 | exact (h5 _ (List.mem_of_getElem? (by assumption))).2.1 | exact (h5 _ (List.mem_of_getElem? (by assumption))).2.2 | exact body_1 h0 (by assumption) h4 | exact body_2 h0 (by assumption) h4 h1 h2 h3 | exact body_3 h0 (by assumption) h4 h1 h2 h3 | exact bl1 (by omega) | exact bl2 (h5 _ (List.mem_of_getElem? (by assumption))) (by omega) | exact bl3 (h5 _ (List.mem_of_getElem? (by assumption))) (by omega) | exact bl4 | exact bl5 | exact bl6 i2 (by omega) | exact bl7 i1 | (exact fun e => by simp at e)) _ (by kernel_rfl) (by kernel_rfl) (by kernel_rfl) )) ?_
          refine al_nil ?_
          refine sk_seq ?_
          refine sk_regionL Try.cfgOk hS ?_
          refine al_chunk 1 (by kernel_rfl) ?_
          refine al_map (loadV Try.cfg (((((St.empty 0).new (.cells [.int .i64 sq, .bool vl, .int .i64 fu, inlL ccells 6 co, inlL kcells 2 rs, inlL scells 3 ss, inlL kcells 2 ws, inlL wcells 4 wr])).new (.cells [slL 2 1 ((((l ++ uv (u64 x6.1)) ++ uv (fold x6.2.1)) ++ [bif true then 1 else 0]).length)])).new (rowL bcells (((l ++ uv (u64 x6.1)) ++ uv (fold x6.2.1)) ++ [bif true then 1 else 0]))).new (.cells [.int .i64 x6.1, .int .i64 x6.2.1, .int .i64 x6.2.2.1, .bool x6.2.2.2])) 4 (.pointer (some ⟨3, 3, none⟩))) (.bool true) (by kernel_rfl) (by kernel_rfl) (by kernel_rfl) (Eq.trans (b := some (.bool (x6.2.2.2))) (by kernel_rfl) (congrArg (fun b => some (Value.bool b)) c7)) ?_
          refine al_known (by kernel_rfl) ?_
          refine sk_false (by kernel_rfl) ?_
          refine sk_skip ?_
          refine sk_regionL Try.cfgOk hS ?_
          refine al_eqv (v := .int .i64 (IntKind.wrap .i64 (((i : Nat) : Int) + 1))) (.int .i64 ((i + 1 : Nat) : Int)) (by kernel_rfl) (by kernel_rfl) (by kernel_rfl) (congrArg (Value.int .i64) (wrap_to (by omega) (by omega))) ?_
          refine al_known (by kernel_rfl) ?_
          refine .inl ⟨(i + 1, (((l ++ uv (u64 x6.1)) ++ uv (fold x6.2.1)) ++ [bif true then 1 else 0])), rfl, ⟨?_, ?_, ?_, ?_⟩, ?_, ⟨by kernel_rfl, ⟨by kernel_rfl, by kernel_rfl, by kernel_rfl, by kernel_rfl, trivial⟩, ⟨.ptr ⟨by decide, rfl⟩, sub_clo rfl, sub_clo rfl, sub_clo rfl, trivial⟩, Nat.le_of_ble_eq_true (by kernel_rfl), ⟨by kernel_rfl, ((((wf_empty 0).new _).new _).new _), (selfs (all_cons (o := .cells [.int .i64 sq, .bool vl, .int .i64 fu, inlL ccells 6 co, inlL kcells 2 rs, inlL scells 3 ss, inlL kcells 2 ws, inlL wcells 4 wr]) (by kernel_rfl) (OSub.cells (.cons (sub_clo rfl) (.cons (sub_clo rfl) (.cons (sub_clo rfl) (.cons (sub_clo rfl) (.cons (sub_clo rfl) (.cons (sub_clo rfl) (.cons (sub_clo rfl) (.cons (sub_clo rfl) .nil))))))))) (all_cons (o := .cells [slL 2 1 ((((l ++ uv (u64 x6.1)) ++ uv (fold x6.2.1)) ++ [bif true then 1 else 0]).length)]) (by kernel_rfl) (OSub.cells (.cons (.slice ⟨by decide, rfl⟩) .nil)) (all_cons (o := rowL bcells (((l ++ uv (u64 x6.1)) ++ uv (fold x6.2.1)) ++ [bif true then 1 else 0])) (by kernel_rfl) (OSub.arr (subs_clo (flatL_clo bcells_clo))) (all_none)))))⟩, mem_all (by kernel_rfl)⟩⟩
          · (try dsimp only); omega
          · (try dsimp only); first | exact wr_next (by assumption) (wr_t (by assumption)) i1 | exact wr_next (by assumption) (wr_f (by assumption)) i1
          · (try dsimp only); first | exact wr_len (h5 _ (List.mem_of_getElem? (by assumption))) (wr_t (by assumption)) (by omega) | exact wr_len (h5 _ (List.mem_of_getElem? (by assumption))) (wr_f (by assumption)) (by omega)
          · (try dsimp only); assumption
          · omega
        ·
          refine al_callH 36 [.pointer (some ⟨1, 0, none⟩), .bool false] (.tuple #[]) _ rfl (fun b h => by cases h) (by kernel_rfl) (by kernel_rfl) (hC36 _ _ _ _ (con_wflag_at ((l ++ uv (u64 x6.1)) ++ uv (fold x6.2.1)) false 1 2 (by first | omega | assumption | exact u64_lt _ | (simp; done) | (refine app_le ?_; simp; done) | exact ((good_c (by assumption)).1 h0).2.2.1 | exact (h5 _ (List.mem_of_getElem? (by assumption))).2.1 | exact (h5 _ (List.mem_of_getElem? (by assumption))).2.2 | exact body_1 h0 (by assumption) h4 | exact body_2 h0 (by assumption) h4 h1 h2 h3 | exact body_3 h0 (by assumption) h4 h1 h2 h3 | exact bl1 (by omega) | exact bl2 (h5 _ (List.mem_of_getElem? (by assumption))) (by omega) | exact bl3 (h5 _ (List.mem_of_getElem? (by assumption))) (by omega) | exact bl4 | exact bl5 | exact bl6 i2 (by omega) | exact bl7 i1 | (exact fun e => by simp at e)) _ (by kernel_rfl) (by kernel_rfl) (by kernel_rfl) )) ?_
          refine al_nil ?_
          refine sk_seq ?_
          refine sk_regionL Try.cfgOk hS ?_
          refine al_chunk 1 (by kernel_rfl) ?_
          refine al_map (loadV Try.cfg (((((St.empty 0).new (.cells [.int .i64 sq, .bool vl, .int .i64 fu, inlL ccells 6 co, inlL kcells 2 rs, inlL scells 3 ss, inlL kcells 2 ws, inlL wcells 4 wr])).new (.cells [slL 2 1 ((((l ++ uv (u64 x6.1)) ++ uv (fold x6.2.1)) ++ [bif false then 1 else 0]).length)])).new (rowL bcells (((l ++ uv (u64 x6.1)) ++ uv (fold x6.2.1)) ++ [bif false then 1 else 0]))).new (.cells [.int .i64 x6.1, .int .i64 x6.2.1, .int .i64 x6.2.2.1, .bool x6.2.2.2])) 4 (.pointer (some ⟨3, 3, none⟩))) (.bool false) (by kernel_rfl) (by kernel_rfl) (by kernel_rfl) (Eq.trans (b := some (.bool (x6.2.2.2))) (by kernel_rfl) (congrArg (fun b => some (Value.bool b)) c7)) ?_
          refine al_known (by kernel_rfl) ?_
          refine sk_true (by kernel_rfl) ?_
          refine sk_regionL Try.cfgOk hS ?_
          refine al_chunk 3 (by kernel_rfl) ?_
          refine al_callH 41 [.pointer (some ⟨1, 0, none⟩), .int .i64 x6.2.2.1] (.tuple #[]) _ rfl (fun b h => by cases h) (by kernel_rfl) (by kernel_rfl) (hC41 _ _ _ _ (con_wnum_at (((l ++ uv (u64 x6.1)) ++ uv (fold x6.2.1)) ++ [bif false then 1 else 0]) x6.2.2.1 1 2 (by first | omega | assumption | exact u64_lt _ | (simp; done) | (refine app_le ?_; simp; done) | exact ((good_c (by assumption)).1 h0).2.2.1 | exact (h5 _ (List.mem_of_getElem? (by assumption))).2.1 | exact (h5 _ (List.mem_of_getElem? (by assumption))).2.2 | exact body_1 h0 (by assumption) h4 | exact body_2 h0 (by assumption) h4 h1 h2 h3 | exact body_3 h0 (by assumption) h4 h1 h2 h3 | exact bl1 (by omega) | exact bl2 (h5 _ (List.mem_of_getElem? (by assumption))) (by omega) | exact bl3 (h5 _ (List.mem_of_getElem? (by assumption))) (by omega) | exact bl4 | exact bl5 | exact bl6 i2 (by omega) | exact bl7 i1 | (exact fun e => by simp at e)) (by first | omega | assumption | exact u64_lt _ | (simp; done) | (refine app_le ?_; simp; done) | exact ((good_c (by assumption)).1 h0).2.2.1 | exact (h5 _ (List.mem_of_getElem? (by assumption))).2.1 | exact (h5 _ (List.mem_of_getElem? (by assumption))).2.2 | exact body_1 h0 (by assumption) h4 | exact body_2 h0 (by assumption) h4 h1 h2 h3 | exact body_3 h0 (by assumption) h4 h1 h2 h3 | exact bl1 (by omega) | exact bl2 (h5 _ (List.mem_of_getElem? (by assumption))) (by omega) | exact bl3 (h5 _ (List.mem_of_getElem? (by assumption))) (by omega) | exact bl4 | exact bl5 | exact bl6 i2 (by omega) | exact bl7 i1 | (exact fun e => by simp at e)) _ (by kernel_rfl) (by kernel_rfl) (by kernel_rfl) )) ?_
          refine al_nil ?_
          refine sk_regionL Try.cfgOk hS ?_
          refine al_eqv (v := .int .i64 (IntKind.wrap .i64 (((i : Nat) : Int) + 1))) (.int .i64 ((i + 1 : Nat) : Int)) (by kernel_rfl) (by kernel_rfl) (by kernel_rfl) (congrArg (Value.int .i64) (wrap_to (by omega) (by omega))) ?_
          refine al_known (by kernel_rfl) ?_
          refine .inl ⟨(i + 1, ((((l ++ uv (u64 x6.1)) ++ uv (fold x6.2.1)) ++ [bif false then 1 else 0]) ++ uv (fold x6.2.2.1))), rfl, ⟨?_, ?_, ?_, ?_⟩, ?_, ⟨by kernel_rfl, ⟨by kernel_rfl, by kernel_rfl, by kernel_rfl, by kernel_rfl, trivial⟩, ⟨.ptr ⟨by decide, rfl⟩, sub_clo rfl, sub_clo rfl, sub_clo rfl, trivial⟩, Nat.le_of_ble_eq_true (by kernel_rfl), ⟨by kernel_rfl, ((((wf_empty 0).new _).new _).new _), (selfs (all_cons (o := .cells [.int .i64 sq, .bool vl, .int .i64 fu, inlL ccells 6 co, inlL kcells 2 rs, inlL scells 3 ss, inlL kcells 2 ws, inlL wcells 4 wr]) (by kernel_rfl) (OSub.cells (.cons (sub_clo rfl) (.cons (sub_clo rfl) (.cons (sub_clo rfl) (.cons (sub_clo rfl) (.cons (sub_clo rfl) (.cons (sub_clo rfl) (.cons (sub_clo rfl) (.cons (sub_clo rfl) .nil))))))))) (all_cons (o := .cells [slL 2 1 (((((l ++ uv (u64 x6.1)) ++ uv (fold x6.2.1)) ++ [bif false then 1 else 0]) ++ uv (fold x6.2.2.1)).length)]) (by kernel_rfl) (OSub.cells (.cons (.slice ⟨by decide, rfl⟩) .nil)) (all_cons (o := rowL bcells ((((l ++ uv (u64 x6.1)) ++ uv (fold x6.2.1)) ++ [bif false then 1 else 0]) ++ uv (fold x6.2.2.1))) (by kernel_rfl) (OSub.arr (subs_clo (flatL_clo bcells_clo))) (all_none)))))⟩, mem_all (by kernel_rfl)⟩⟩
          · (try dsimp only); omega
          · (try dsimp only); first | exact wr_next (by assumption) (wr_t (by assumption)) i1 | exact wr_next (by assumption) (wr_f (by assumption)) i1
          · (try dsimp only); first | exact wr_len (h5 _ (List.mem_of_getElem? (by assumption))) (wr_t (by assumption)) (by omega) | exact wr_len (h5 _ (List.mem_of_getElem? (by assumption))) (wr_f (by assumption)) (by omega)
          · (try dsimp only); assumption
          · omega
      · have c5e : (decide ((((i : Nat) : Int) : Int) < ((wr.length : Nat) : Int))) = false := Eq.trans (by kernel_rfl) h4
        clear h4
        have c5 : ¬ (((i : Nat) : Int) : Int) < ((wr.length : Nat) : Int) := of_decide_eq_false c5e
        clear c5e
        refine al_nil ?_
        refine sk_seq ?_
        refine sk_false (by kernel_rfl) ?_
        refine sk_exit ?_
        dsimp only
        refine .inr ⟨_, _, (fun h => by cases h), ⟨rfl, ?_, rfl, rfl⟩, ⟨by kernel_rfl, ⟨by kernel_rfl, by kernel_rfl, by kernel_rfl, by kernel_rfl, trivial⟩, ⟨.ptr ⟨by decide, rfl⟩, sub_clo rfl, sub_clo rfl, sub_clo rfl, trivial⟩, Nat.le_of_ble_eq_true (by kernel_rfl), ⟨by kernel_rfl, ((((wf_empty 0).new _).new _).new _), (selfs (all_cons (o := .cells [.int .i64 sq, .bool vl, .int .i64 fu, inlL ccells 6 co, inlL kcells 2 rs, inlL scells 3 ss, inlL kcells 2 ws, inlL wcells 4 wr]) (by kernel_rfl) (OSub.cells (.cons (sub_clo rfl) (.cons (sub_clo rfl) (.cons (sub_clo rfl) (.cons (sub_clo rfl) (.cons (sub_clo rfl) (.cons (sub_clo rfl) (.cons (sub_clo rfl) (.cons (sub_clo rfl) .nil))))))))) (all_cons (o := .cells [slL 2 1 l.length]) (by kernel_rfl) (OSub.cells (.cons (.slice ⟨by decide, rfl⟩) .nil)) (all_cons (o := rowL bcells l) (by kernel_rfl) (OSub.arr (subs_clo (flatL_clo bcells_clo))) (all_none)))))⟩, mem_all (by kernel_rfl)⟩⟩
        · omega
    · exact ⟨by ((try dsimp only); first | done | (omega)), by ((try dsimp only); first | done | (simp [catB])), by ((try dsimp only); first | done | (exact app_leN (by omega) (by have q := keep_le (l := ([] : List UInt8)) (n := sq) (c := bif true then 1 else 0); simp only [List.length_nil] at q; omega))), by ((try dsimp only); first | done | (exact h6))⟩
    rintro o e1 s1 ⟨a, lv1, M1, m3, ha, ⟨rfl, hx, rfl, rfl⟩, rfl, rfl⟩
    obtain ⟨i, l⟩ := a
    obtain ⟨i0, i1, i2, i3⟩ := ha
    dsimp only at hx i0 i1 i2 i3
    dsimp only
    try rw [if_pos rfl]
    refine sk_seq ?_
    refine sk_regionL Try.cfgOk hS ?_
    refine al_chunk 1 (by kernel_rfl) ?_
    refine al_callH 40 [.pointer (some ⟨1, 0, none⟩)] (slL 3 1 l.length) _ rfl (fun b h => by cases h) (by kernel_rfl) (by kernel_rfl) (hC40 _ _ _ _ (con_woutN_at l 1 2 3 (by first | omega | assumption | exact u64_lt _ | (simp; done) | (refine app_le ?_; simp; done) | exact ((good_c (by assumption)).1 h0).2.2.1 | exact (h5 _ (List.mem_of_getElem? (by assumption))).2.1 | exact (h5 _ (List.mem_of_getElem? (by assumption))).2.2 | exact body_1 h0 (by assumption) h4 | exact body_2 h0 (by assumption) h4 h1 h2 h3 | exact body_3 h0 (by assumption) h4 h1 h2 h3 | exact bl1 (by omega) | exact bl2 (h5 _ (List.mem_of_getElem? (by assumption))) (by omega) | exact bl3 (h5 _ (List.mem_of_getElem? (by assumption))) (by omega) | exact bl4 | exact bl5 | exact bl6 i2 (by omega) | exact bl7 i1 | (exact fun e => by simp at e)) (by first | omega | assumption | exact u64_lt _ | (simp; done) | (refine app_le ?_; simp; done) | exact ((good_c (by assumption)).1 h0).2.2.1 | exact (h5 _ (List.mem_of_getElem? (by assumption))).2.1 | exact (h5 _ (List.mem_of_getElem? (by assumption))).2.2 | exact body_1 h0 (by assumption) h4 | exact body_2 h0 (by assumption) h4 h1 h2 h3 | exact body_3 h0 (by assumption) h4 h1 h2 h3 | exact bl1 (by omega) | exact bl2 (h5 _ (List.mem_of_getElem? (by assumption))) (by omega) | exact bl3 (h5 _ (List.mem_of_getElem? (by assumption))) (by omega) | exact bl4 | exact bl5 | exact bl6 i2 (by omega) | exact bl7 i1 | (exact fun e => by simp at e)) _ (by kernel_rfl) (by kernel_rfl) (by kernel_rfl) (by kernel_rfl) )) ?_
    refine al_known (by kernel_rfl) ?_
    refine sk_ret ?_
    exact ⟨[slL 3 1 (List.length (α := UInt8) l)], by kernel_rfl, rhoL [3], all0 , new_rho rfl (by kernel_rfl), nodup_rho (ids := [3]) rfl, (show (slL 3 1 (List.length (α := UInt8) l) : Value) = slL 3 1 ((bodyB sq vl fu co rs ss ws wr).length) by first | (rw [i1, List.take_of_length_le (by omega), bodyB, ‹vl = true›]; rfl) | (rw [bodyB, ‹vl = false›]; simp only [cond_false, List.append_assoc, List.nil_append])), Nat.le_of_ble_eq_true (by kernel_rfl), all1 (Eq.trans (b := some (rowL bcells l)) (by kernel_rfl) (congrArg some (show ((rowL bcells l) : AObj) = rowL bcells (bodyB sq vl fu co rs ss ws wr) by first | (rw [i1, List.take_of_length_le (by omega), bodyB, ‹vl = true›]; rfl) | (rw [bodyB, ‹vl = false›]; simp only [cond_false, List.append_assoc, List.nil_append]))))⟩
  ·
    refine al_callH 36 [.pointer (some ⟨1, 0, none⟩), .bool false] (.tuple #[]) _ rfl (fun b h => by cases h) (by kernel_rfl) (by kernel_rfl) (hC36 _ _ _ _ (con_wflag_at (([] : List UInt8) ++ uv (u64 sq)) false 1 2 (by first | omega | assumption | exact u64_lt _ | (simp; done) | (refine app_le ?_; simp; done) | exact ((good_c (by assumption)).1 h0).2.2.1 | exact (h5 _ (List.mem_of_getElem? (by assumption))).2.1 | exact (h5 _ (List.mem_of_getElem? (by assumption))).2.2 | exact body_1 h0 (by assumption) h4 | exact body_2 h0 (by assumption) h4 h1 h2 h3 | exact body_3 h0 (by assumption) h4 h1 h2 h3 | exact bl1 (by omega) | exact bl2 (h5 _ (List.mem_of_getElem? (by assumption))) (by omega) | exact bl3 (h5 _ (List.mem_of_getElem? (by assumption))) (by omega) | exact bl4 | exact bl5 | exact bl6 i2 (by omega) | exact bl7 i1 | (exact fun e => by simp at e)) _ (by kernel_rfl) (by kernel_rfl) (by kernel_rfl) )) ?_
    refine al_nil ?_
    refine sk_seq (sk_seq ?_)
    refine sk_regionL Try.cfgOk hS ?_
    refine al_chunk 1 (by kernel_rfl) ?_
    refine al_map (loadV Try.cfg ((((St.empty 0).new (.cells [.int .i64 sq, .bool vl, .int .i64 fu, inlL ccells 6 co, inlL kcells 2 rs, inlL scells 3 ss, inlL kcells 2 ws, inlL wcells 4 wr])).new (.cells [slL 2 1 (((([] : List UInt8) ++ uv (u64 sq)) ++ [bif false then 1 else 0]).length)])).new (rowL bcells ((([] : List UInt8) ++ uv (u64 sq)) ++ [bif false then 1 else 0]))) 4 (.pointer (some ⟨0, 1, none⟩))) (.bool false) (by kernel_rfl) (by kernel_rfl) (by kernel_rfl) (Eq.trans (b := some (.bool (vl))) (by kernel_rfl) (congrArg (fun b => some (Value.bool b)) c2)) ?_
    refine al_known (by kernel_rfl) ?_
    refine sk_true (by kernel_rfl) ?_
    refine sk_seq ?_
    refine sk_regionL Try.cfgOk hS ?_
    refine al_chunk 2 (by kernel_rfl) ?_
    refine al_callH 37 [.agg #[.int .i64 fu, inlL ccells 6 co]] (.tuple #[inlL bcells 1 (progB fu co), .nilIface]) _ rfl (fun b h => by cases h) (by kernel_rfl) (by kernel_rfl) (hC37 _ _ _ _ (con_pencode_at fu co (by first | omega | assumption | exact u64_lt _ | (simp; done) | (refine app_le ?_; simp; done) | exact ((good_c (by assumption)).1 h0).2.2.1 | exact (h5 _ (List.mem_of_getElem? (by assumption))).2.1 | exact (h5 _ (List.mem_of_getElem? (by assumption))).2.2 | exact body_1 h0 (by assumption) h4 | exact body_2 h0 (by assumption) h4 h1 h2 h3 | exact body_3 h0 (by assumption) h4 h1 h2 h3 | exact bl1 (by omega) | exact bl2 (h5 _ (List.mem_of_getElem? (by assumption))) (by omega) | exact bl3 (h5 _ (List.mem_of_getElem? (by assumption))) (by omega) | exact bl4 | exact bl5 | exact bl6 i2 (by omega) | exact bl7 i1 | (exact fun e => by simp at e)) (by first | omega | assumption | exact u64_lt _ | (simp; done) | (refine app_le ?_; simp; done) | exact ((good_c (by assumption)).1 h0).2.2.1 | exact (h5 _ (List.mem_of_getElem? (by assumption))).2.1 | exact (h5 _ (List.mem_of_getElem? (by assumption))).2.2 | exact body_1 h0 (by assumption) h4 | exact body_2 h0 (by assumption) h4 h1 h2 h3 | exact body_3 h0 (by assumption) h4 h1 h2 h3 | exact bl1 (by omega) | exact bl2 (h5 _ (List.mem_of_getElem? (by assumption))) (by omega) | exact bl3 (h5 _ (List.mem_of_getElem? (by assumption))) (by omega) | exact bl4 | exact bl5 | exact bl6 i2 (by omega) | exact bl7 i1 | (exact fun e => by simp at e)) _)) ?_
    refine al_known (by kernel_rfl) ?_
    refine sk_seq ?_
    refine sk_regionL Try.cfgOk hS ?_
    refine al_chunk 2 (by kernel_rfl) ?_
    refine al_callH 38 [.pointer (some ⟨1, 0, none⟩), inlL bcells 1 (progB fu co)] (.tuple #[]) _ rfl (fun b h => by cases h) (by kernel_rfl) (by kernel_rfl) (hC38 _ _ _ _ (con_wbytes_at ((([] : List UInt8) ++ uv (u64 sq)) ++ [bif false then 1 else 0]) (progB fu co) 1 2 (by first | omega | assumption | exact u64_lt _ | (simp; done) | (refine app_le ?_; simp; done) | exact ((good_c (by assumption)).1 h0).2.2.1 | exact (h5 _ (List.mem_of_getElem? (by assumption))).2.1 | exact (h5 _ (List.mem_of_getElem? (by assumption))).2.2 | exact body_1 h0 (by assumption) h4 | exact body_2 h0 (by assumption) h4 h1 h2 h3 | exact body_3 h0 (by assumption) h4 h1 h2 h3 | exact bl1 (by omega) | exact bl2 (h5 _ (List.mem_of_getElem? (by assumption))) (by omega) | exact bl3 (h5 _ (List.mem_of_getElem? (by assumption))) (by omega) | exact bl4 | exact bl5 | exact bl6 i2 (by omega) | exact bl7 i1 | (exact fun e => by simp at e)) _ (by kernel_rfl) (by kernel_rfl) (by kernel_rfl) )) ?_
    refine al_nil ?_
    refine sk_seq ?_
    refine sk_regionL Try.cfgOk hS ?_
    refine al_chunk 3 (by kernel_rfl) ?_
    refine al_callH 39 [.agg #[inlL kcells 2 rs, inlL scells 3 ss, inlL kcells 2 ws]] (inlL bcells 1 (putP rs ss ws)) _ rfl (fun b h => by cases h) (by kernel_rfl) (by kernel_rfl) (hC39 _ _ _ _ (con_fput_at rs ss ws (by first | omega | assumption | exact u64_lt _ | (simp; done) | (refine app_le ?_; simp; done) | exact ((good_c (by assumption)).1 h0).2.2.1 | exact (h5 _ (List.mem_of_getElem? (by assumption))).2.1 | exact (h5 _ (List.mem_of_getElem? (by assumption))).2.2 | exact body_1 h0 (by assumption) h4 | exact body_2 h0 (by assumption) h4 h1 h2 h3 | exact body_3 h0 (by assumption) h4 h1 h2 h3 | exact bl1 (by omega) | exact bl2 (h5 _ (List.mem_of_getElem? (by assumption))) (by omega) | exact bl3 (h5 _ (List.mem_of_getElem? (by assumption))) (by omega) | exact bl4 | exact bl5 | exact bl6 i2 (by omega) | exact bl7 i1 | (exact fun e => by simp at e)) (by first | omega | assumption | exact u64_lt _ | (simp; done) | (refine app_le ?_; simp; done) | exact ((good_c (by assumption)).1 h0).2.2.1 | exact (h5 _ (List.mem_of_getElem? (by assumption))).2.1 | exact (h5 _ (List.mem_of_getElem? (by assumption))).2.2 | exact body_1 h0 (by assumption) h4 | exact body_2 h0 (by assumption) h4 h1 h2 h3 | exact body_3 h0 (by assumption) h4 h1 h2 h3 | exact bl1 (by omega) | exact bl2 (h5 _ (List.mem_of_getElem? (by assumption))) (by omega) | exact bl3 (h5 _ (List.mem_of_getElem? (by assumption))) (by omega) | exact bl4 | exact bl5 | exact bl6 i2 (by omega) | exact bl7 i1 | (exact fun e => by simp at e)) (by first | omega | assumption | exact u64_lt _ | (simp; done) | (refine app_le ?_; simp; done) | exact ((good_c (by assumption)).1 h0).2.2.1 | exact (h5 _ (List.mem_of_getElem? (by assumption))).2.1 | exact (h5 _ (List.mem_of_getElem? (by assumption))).2.2 | exact body_1 h0 (by assumption) h4 | exact body_2 h0 (by assumption) h4 h1 h2 h3 | exact body_3 h0 (by assumption) h4 h1 h2 h3 | exact bl1 (by omega) | exact bl2 (h5 _ (List.mem_of_getElem? (by assumption))) (by omega) | exact bl3 (h5 _ (List.mem_of_getElem? (by assumption))) (by omega) | exact bl4 | exact bl5 | exact bl6 i2 (by omega) | exact bl7 i1 | (exact fun e => by simp at e)) _)) ?_
    refine al_callH 38 [.pointer (some ⟨1, 0, none⟩), inlL bcells 1 (putP rs ss ws)] (.tuple #[]) _ rfl (fun b h => by cases h) (by kernel_rfl) (by kernel_rfl) (hC38 _ _ _ _ (con_wbytes_at (((([] : List UInt8) ++ uv (u64 sq)) ++ [bif false then 1 else 0]) ++ (uv (progB fu co).length ++ (progB fu co))) (putP rs ss ws) 1 2 (by first | omega | assumption | exact u64_lt _ | (simp; done) | (refine app_le ?_; simp; done) | exact ((good_c (by assumption)).1 h0).2.2.1 | exact (h5 _ (List.mem_of_getElem? (by assumption))).2.1 | exact (h5 _ (List.mem_of_getElem? (by assumption))).2.2 | exact body_1 h0 (by assumption) h4 | exact body_2 h0 (by assumption) h4 h1 h2 h3 | exact body_3 h0 (by assumption) h4 h1 h2 h3 | exact bl1 (by omega) | exact bl2 (h5 _ (List.mem_of_getElem? (by assumption))) (by omega) | exact bl3 (h5 _ (List.mem_of_getElem? (by assumption))) (by omega) | exact bl4 | exact bl5 | exact bl6 i2 (by omega) | exact bl7 i1 | (exact fun e => by simp at e)) _ (by kernel_rfl) (by kernel_rfl) (by kernel_rfl) )) ?_
    refine al_nil ?_
    refine sk_seq ?_
    refine sk_regionL Try.cfgOk hS ?_
    refine al_chunk 1 (by kernel_rfl) ?_
    refine al_callH 40 [.pointer (some ⟨1, 0, none⟩)] (slL 3 1 (((((([] : List UInt8) ++ uv (u64 sq)) ++ [bif false then 1 else 0]) ++ (uv (progB fu co).length ++ (progB fu co))) ++ (uv (putP rs ss ws).length ++ (putP rs ss ws))).length)) _ rfl (fun b h => by cases h) (by kernel_rfl) (by kernel_rfl) (hC40 _ _ _ _ (con_woutN_at ((((([] : List UInt8) ++ uv (u64 sq)) ++ [bif false then 1 else 0]) ++ (uv (progB fu co).length ++ (progB fu co))) ++ (uv (putP rs ss ws).length ++ (putP rs ss ws))) 1 2 3 (by first | omega | assumption | exact u64_lt _ | (simp; done) | (refine app_le ?_; simp; done) | exact ((good_c (by assumption)).1 h0).2.2.1 | exact (h5 _ (List.mem_of_getElem? (by assumption))).2.1 | exact (h5 _ (List.mem_of_getElem? (by assumption))).2.2 | exact body_1 h0 (by assumption) h4 | exact body_2 h0 (by assumption) h4 h1 h2 h3 | exact body_3 h0 (by assumption) h4 h1 h2 h3 | exact bl1 (by omega) | exact bl2 (h5 _ (List.mem_of_getElem? (by assumption))) (by omega) | exact bl3 (h5 _ (List.mem_of_getElem? (by assumption))) (by omega) | exact bl4 | exact bl5 | exact bl6 i2 (by omega) | exact bl7 i1 | (exact fun e => by simp at e)) (by first | omega | assumption | exact u64_lt _ | (simp; done) | (refine app_le ?_; simp; done) | exact ((good_c (by assumption)).1 h0).2.2.1 | exact (h5 _ (List.mem_of_getElem? (by assumption))).2.1 | exact (h5 _ (List.mem_of_getElem? (by assumption))).2.2 | exact body_1 h0 (by assumption) h4 | exact body_2 h0 (by assumption) h4 h1 h2 h3 | exact body_3 h0 (by assumption) h4 h1 h2 h3 | exact bl1 (by omega) | exact bl2 (h5 _ (List.mem_of_getElem? (by assumption))) (by omega) | exact bl3 (h5 _ (List.mem_of_getElem? (by assumption))) (by omega) | exact bl4 | exact bl5 | exact bl6 i2 (by omega) | exact bl7 i1 | (exact fun e => by simp at e)) _ (by kernel_rfl) (by kernel_rfl) (by kernel_rfl) (by kernel_rfl) )) ?_
    refine al_known (by kernel_rfl) ?_
    refine sk_ret ?_
    exact ⟨[slL 3 1 (List.length (α := UInt8) ((((([] : List UInt8) ++ uv (u64 sq)) ++ [bif false then 1 else 0]) ++ (uv (progB fu co).length ++ (progB fu co))) ++ (uv (putP rs ss ws).length ++ (putP rs ss ws))))], by kernel_rfl, rhoL [3], all0 , new_rho rfl (by kernel_rfl), nodup_rho (ids := [3]) rfl, (show (slL 3 1 (List.length (α := UInt8) ((((([] : List UInt8) ++ uv (u64 sq)) ++ [bif false then 1 else 0]) ++ (uv (progB fu co).length ++ (progB fu co))) ++ (uv (putP rs ss ws).length ++ (putP rs ss ws)))) : Value) = slL 3 1 ((bodyB sq vl fu co rs ss ws wr).length) by first | (rw [i1, List.take_of_length_le (by omega), bodyB, ‹vl = true›]; rfl) | (rw [bodyB, ‹vl = false›]; simp only [cond_false, List.append_assoc, List.nil_append])), Nat.le_of_ble_eq_true (by kernel_rfl), all1 (Eq.trans (b := some (rowL bcells ((((([] : List UInt8) ++ uv (u64 sq)) ++ [bif false then 1 else 0]) ++ (uv (progB fu co).length ++ (progB fu co))) ++ (uv (putP rs ss ws).length ++ (putP rs ss ws))))) (by kernel_rfl) (congrArg some (show ((rowL bcells ((((([] : List UInt8) ++ uv (u64 sq)) ++ [bif false then 1 else 0]) ++ (uv (progB fu co).length ++ (progB fu co))) ++ (uv (putP rs ss ws).length ++ (putP rs ss ws)))) : AObj) = rowL bcells (bodyB sq vl fu co rs ss ws wr) by first | (rw [i1, List.take_of_length_le (by omega), bodyB, ‹vl = true›]; rfl) | (rw [bodyB, ‹vl = false›]; simp only [cond_false, List.append_assoc, List.nil_append]))))⟩
noncomputable def sm_body : SmallN Try.prog 0 17 (Int × Bool × Int × (List Code) × (List Key) × (List Span) × (List Key) × (List Wr)) where
  k := 0
  m := 1
  A := fun z9 ρ => [.agg #[.int .i64 z9.1, .bool z9.2.1, .int .i64 z9.2.2.1, inlL ccells 6 z9.2.2.2.1, inlL kcells 2 z9.2.2.2.2.1, inlL scells 3 z9.2.2.2.2.2.1, inlL kcells 2 z9.2.2.2.2.2.2.1, inlL wcells 4 z9.2.2.2.2.2.2.2]]
  M := fun z9 ρ => objL []
  M1 := fun z9 ρ => objL [rowL bcells (bodyB z9.1 z9.2.1 z9.2.2.1 z9.2.2.2.1 z9.2.2.2.2.1 z9.2.2.2.2.2.1 z9.2.2.2.2.2.2.1 z9.2.2.2.2.2.2.2)]
  V := fun z9 ρ => slL (ρ 0) 1 ((bodyB z9.1 z9.2.1 z9.2.2.1 z9.2.2.2.1 z9.2.2.2.2.1 z9.2.2.2.2.2.1 z9.2.2.2.2.2.2.1 z9.2.2.2.2.2.2.2).length)
  Pre := fun z9 => (goodR_ z9.1 z9.2.1 z9.2.2.1 z9.2.2.2.1 z9.2.2.2.2.1 z9.2.2.2.2.2.1 z9.2.2.2.2.2.2.1 z9.2.2.2.2.2.2.2) ∧ (okK z9.2.2.2.2.1) ∧ (okS z9.2.2.2.2.2.1) ∧ (okK z9.2.2.2.2.2.2.1) ∧ (∀ c ∈ z9.2.2.2.1, inC c) ∧ (∀ w ∈ z9.2.2.2.2.2.2.2, inW w) ∧ (z9.2.2.2.2.2.2.2.length ≤ 4000)
  ch := []
  N := 400
  s0 := fun z9 => (St.empty 0)
  hch := by decide
  hsame := fun x ρ => all0 
  hG := rfl
  hn := fun x => rfl
  hwf := fun x => (wf_empty 0)
  hget := fun x => all0 
  noloop := fun x ρ => all0 
  inA := fun x ρ R hR => .cons (.agg (.cons (sub_clo rfl) (.cons (sub_clo rfl) (.cons (sub_clo rfl) (.cons (sub_clo rfl) (.cons (sub_clo rfl) (.cons (sub_clo rfl) (.cons (sub_clo rfl) (.cons (sub_clo rfl) .nil))))))))) .nil
  inM := fun x ρ R hR => all0 
  outM := fun x σ ρ R hR => all1 (OSub.arr (subs_clo (flatL_clo bcells_clo)))
  outV := fun x σ ρ R hR => .slice (hR 0 _ (by decide))
  dom := by
    intro x ρ a ha
    cases ha
  sc := by
    rintro ⟨a0, a1, a2, a3, a4, a5, a6, a7⟩ ⟨p0, p1, p2, p3, p4, p5, p6⟩
    exact body_sc a0 a1 a2 a3 a4 a5 a6 a7 p0 p1 p2 p3 p4 p5 p6
  det := by
    rintro ⟨a0, a1, a2, a3, a4, a5, a6, a7⟩ ρ ⟨b0, b1, b2, b3, b4, b5, b6, b7⟩ σ s h hm hm'
    simp only [List.cons.injEq, and_true, Int.natCast_inj, UInt8.toNat_inj, Value.int.injEq, Value.bool.injEq, Value.string.injEq, Value.agg.injEq, Array.mk.injEq, true_and, Value.pointer.injEq, Option.some.injEq, Addr.mk.injEq, Value.func.injEq, AObj.cells.injEq, AObj.arr.injEq, slL_iff, ccells_iff, kcells_iff, scells_iff, wcells_iff] at h
    have q : ∀ a, a < 0 → ρ a = σ a := all0 
    clear hm hm'
    exact ⟨by first | rfl | exact h | (simp_all [Prod.ext_iff]; done) | exact e0, q⟩
  par := by
    intro x ρ σ h
    have h0 := h 0 (by decide)
    exact ⟨by first | rfl | simp only [h0], by first | exact fun _ _ => rfl | (intro a ha; simp only [h0])⟩
noncomputable def con_body : Con Try.prog 0 := sm_body.con
theorem con_body_at (sq : Int) (vl : Bool) (fu : Int) (co : List Code) (rs : List Key) (ss : List Span) (ws : List Key) (wr : List Wr) (i0 : Nat) (h0 : goodR_ sq vl fu co rs ss ws wr) (h1 : okK rs) (h2 : okS ss) (h3 : okK ws) (h4 : ∀ c ∈ co, inC c) (h5 : ∀ w ∈ wr, inW w) (h6 : wr.length ≤ 4000) (s : St) (hn : nodupB [] = true)  (n0 : i0 = s.n + 0) : con_body.rel [.agg #[.int .i64 sq, .bool vl, .int .i64 fu, inlL ccells 6 co, inlL kcells 2 rs, inlL scells 3 ss, inlL kcells 2 ws, inlL wcells 4 wr]] s (slL i0 1 ((bodyB sq vl fu co rs ss ws wr).length)) (s.new (rowL bcells (bodyB sq vl fu co rs ss ws wr))) :=
  sm_body.at_ (sq, vl, fu, co, rs, ss, ws, wr) [i0] s _ ⟨h0, h1, h2, h3, h4, h5, h6⟩ rfl hn rfl (all0 ) (new_all (p := fun a b => rhoL [i0] a = s.n + b) (all1 n0)) rfl rfl
end Go.Proofs.Ytegigohhnplomaa