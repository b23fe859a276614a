/- The law: which writes are kept. -/
import Derived.Test.YtfpkfcdeoiofiaaLawE
set_option linter.unusedVariables false
set_option linter.unusedSimpArgs false
set_option linter.unnecessarySimpa false
namespace Go.Proofs.Ytfpkfcdeoiofiaa
open Go.Ai
theorem look_any2 {C : Cfg} {α : Type} [DecidableEq α] {kc : α → List Value} {t : TypeId} {kt : Nat} (ht : mcTy C t kt = true) (hk : ∀ x y : α, keyEq (.agg ⟨kc x⟩) (.agg ⟨kc y⟩) = some (decide (x = y))) {k : α} (ho : keyOk C kt (.agg ⟨kc k⟩) = true) {id : Nat} {L : List (α × Nat)} {ev : Operand → Value} {X : St} {o : Op} {v : Value} (a b : Operand) (h1 : o = .lookup t a b false) (h2 : ev a = .map (some id)) (h3 : ev b = .agg ⟨kc k⟩) (hg : X.get id = some (mapC kc (insC L k))) (hv : v = .int .i64 (getC L k : Nat)) :
    ∃ s'', evalOp C ev X o = some (v, s'') := by
  rw [hv]
  exact look_any ht hk ho a b h1 h2 h3 hg
theorem val_step {l : List Rec8} {i : Nat} {x : Rec8} (h : ∀ r ∈ l.take i, valR r) (hx : l[i]? = some x) (hv : x.2.1 = true) (hg : (1 ≤ x.1 ∧ x.1 ≤ 281474976710655) ∧ (x.2.2.1 = 0 ∧ x.2.2.2.1.length = 0 ∧ x.2.2.2.2.1.length + x.2.2.2.2.2.1.length + x.2.2.2.2.2.2.1.length = 0) ∧ risW x.2.2.2.2.2.2.2) : ∀ r ∈ l.take (i + 1), valR r := by
  intro r hr
  rw [take_one hx] at hr
  rcases List.mem_append.1 hr with hr | hr
  · exact h r hr
  · obtain rfl := List.mem_singleton.1 hr
    exact ⟨hv, ris_nodup hg.2.2⟩
theorem law20_fn : Try.cfg.fn 3 = some Try.f3 := by kernel_rfl
set_option maxHeartbeats 4000000 in
set_option maxRecDepth 100000 in
theorem law20_sc (l : List Rec8) (h0 : l.length ≤ 9223372036854775807) : SC Try.prog 0 3 [inlL rcells 8 l] (St.empty 0) fun v s' => v = .bool true ∧ s'.n ≤ 400 := by
  obtain ⟨rc, hS, hC⟩ := rc_con (sound_run Try.cfgOk 300) [con_alive, con_large20, con_program20, con_keptA, con_nwrites, con_rgood] (by kernel_rfl)
  have hC4 := hC con_alive (.head _)
  have hC5 := hC con_large20 (.tail _ (.head _))
  have hC6 := hC con_program20 (.tail _ (.tail _ (.head _)))
  have hC7 := hC con_keptA (.tail _ (.tail _ (.tail _ (.head _))))
  have hC8 := hC con_nwrites (.tail _ (.tail _ (.tail _ (.tail _ (.head _)))))
  have hC9 := hC con_rgood (.tail _ (.tail _ (.tail _ (.tail _ (.tail _ (.head _))))))
  refine sc_ice0 (N := 400) (v2 := .bool true) (Q := fun v s' => FS 0 s' v (.bool true) ∧ s'.n ≤ 400) ?_ (fun _ _ h => h)
  refine sc_body Try.cfgOk law20_fn rfl ?_
  refine sk_seq ?_
  refine kK Try.cfgOk hS ?_
  refine sk_seq (sk_seq ?_)
  refine sk_regionL Try.cfgOk hS ?_
  refine aC 4 [] (.bool true) _ rfl (hC4 _ _ _ _ (con_alive_at   _)) ?_
  refine aN ?_
  refine kF ?_
  refine sk_skip (sk_seq (sk_seq ?_))
  refine sk_regionL Try.cfgOk hS ?_
  refine aK 1 ?_
  refine aB 5 [inlL rcells 8 l] (tf (largeR l)) _ rfl (hC5 _ _ _ _ (con_large20_at l (by first | omega | assumption | exact fun r hr => (s6 r hr).1 | (have q := s7 _ (List.mem_of_getElem? (by assumption)); omega) | (have q := (s6 _ (List.mem_of_getElem? (by assumption))).1; unfold smR at q; omega)) _)) (fun h1 => ?_) (fun h1 => ?_)
  · have c2 : largeR l := tf_t h1
    clear h1
    refine aN ?_
    refine kT ?_
    refine sk_seq ?_
    refine kK Try.cfgOk hS ?_
    refine sk_ret ?_
    exact ⟨[.bool true], by kernel_rfl, .same (sub_clo rfl), Nat.le_of_ble_eq_true (by kernel_rfl)⟩
  · have c2 : ¬ (largeR l) := tf_f h1
    clear h1
    obtain ⟨s1, s6, s7⟩ := smallR_all c2
    refine aK 2 ?_
    refine aM (lenB Try.cfg (St.empty 0) 22 (inlL rcells 8 l)) (.int .i64 ((l.length : Nat) : Int)) (len_inl tokC (by kernel_rfl)) ?_
    refine aT (fun h3 => ?_) (fun h3 => ?_)
    · have c4e : ((((l.length : Nat) : Int) : Int) == 0) = true := Eq.trans (by kernel_rfl) h3
      clear h3
      have c4 : (((l.length : Nat) : Int) : Int) = 0 := eq_of_beq c4e
      clear c4e
      refine aN ?_
      refine kT ?_
      refine sk_seq ?_
      refine kK Try.cfgOk hS ?_
      refine sk_ret ?_
      exact ⟨[.bool true], by kernel_rfl, .same (sub_clo rfl), Nat.le_of_ble_eq_true (by kernel_rfl)⟩
    · have c4e : ((((l.length : Nat) : Int) : Int) == 0) = false := Eq.trans (by kernel_rfl) h3
      clear h3
      have c4 : ¬ (((l.length : Nat) : Int) : Int) = 0 := ne_of_beq_false c4e
      clear c4e
      refine aN ?_
      refine kF ?_
      refine sk_skip (sk_seq ?_)
      refine sk_regionL Try.cfgOk hS ?_
      refine aK 1 ?_
      refine aC 6 [inlL rcells 8 l] (inlL rcells 8 l) _ rfl (hC6 _ _ _ _ (con_program20_at l (by first | omega | assumption | exact fun r hr => (s6 r hr).1 | (have q := s7 _ (List.mem_of_getElem? (by assumption)); omega) | (have q := (s6 _ (List.mem_of_getElem? (by assumption))).1; unfold smR at q; omega)) (by first | omega | assumption | exact fun r hr => (s6 r hr).1 | (have q := s7 _ (List.mem_of_getElem? (by assumption)); omega) | (have q := (s6 _ (List.mem_of_getElem? (by assumption))).1; unfold smR at q; omega)) _)) ?_
      refine aN ?_
      refine sk_seq ?_
      refine sk_regionL Try.cfgOk hS ?_
      refine aK 1 ?_
      refine aC 7 [inlL rcells 8 l] (inlL wlcells 1 (keptL l)) _ rfl (hC7 _ _ _ _ (con_keptA_at l (by first | omega | assumption | exact fun r hr => (s6 r hr).1 | (have q := s7 _ (List.mem_of_getElem? (by assumption)); omega) | (have q := (s6 _ (List.mem_of_getElem? (by assumption))).1; unfold smR at q; omega)) (by first | omega | assumption | exact fun r hr => (s6 r hr).1 | (have q := s7 _ (List.mem_of_getElem? (by assumption)); omega) | (have q := (s6 _ (List.mem_of_getElem? (by assumption))).1; unfold smR at q; omega)) _)) ?_
      refine aN ?_
      refine sk_seq (sk_seq ?_)
      refine sk_regionL Try.cfgOk hS ?_
      refine aK 1 ?_
      refine aM (lenB Try.cfg (St.empty 0) 27 (inlL wlcells 1 (keptL l))) (.int .i64 (((keptL l).length : Nat) : Int)) (len_inl tokC (by kernel_rfl)) ?_
      refine aK 1 ?_
      refine aM (lenB Try.cfg (St.empty 0) 25 (inlL rcells 8 l)) (.int .i64 ((l.length : Nat) : Int)) (len_inl tokC (by kernel_rfl)) ?_
      refine aT (fun h5 => ?_) (fun h5 => ?_)
      · have c6e : (((((keptL l).length : Nat) : Int) : Int) != ((l.length : Nat) : Int)) = true := Eq.trans (by kernel_rfl) h5
        clear h5
        have c6 : ¬ ((((keptL l).length : Nat) : Int) : Int) = ((l.length : Nat) : Int) := bne_iff_ne.1 c6e
        clear c6e
        refine al_nil ?_
        refine kT ?_
        refine sk_seq ?_
        refine kK Try.cfgOk hS ?_
        refine sk_ret ?_
        exact ⟨[.bool false], by kernel_rfl, fs_to (fs_clo rfl) (congrArg Value.bool (by first | rfl | exact absurd (kept_len l) (by omega) | exact absurd (last_same (by assumption) (by assumption) (by assumption)) (by assumption) | exact hx.elim)), Nat.le_of_ble_eq_true (by kernel_rfl)⟩
      · have c6e : (((((keptL l).length : Nat) : Int) : Int) != ((l.length : Nat) : Int)) = false := Eq.trans (by kernel_rfl) h5
        clear h5
        have c6 : ((((keptL l).length : Nat) : Int) : Int) = ((l.length : Nat) : Int) := bne_eq_false_iff_eq.1 c6e
        clear c6e
        refine al_nil ?_
        refine kF ?_
        refine sk_skip (sk_seq ?_)
        refine sk_regionL Try.cfgOk hS ?_
        refine aK 2 ?_
        refine aM (lenB Try.cfg (St.empty 0) 25 (inlL rcells 8 l)) (.int .i64 ((l.length : Nat) : Int)) (len_inl tokC (by kernel_rfl)) ?_
        refine aE (v := .int .i64 (IntKind.wrap .i64 (((l.length : Nat) : Int) - 1))) (.int .i64 ((l.length - 1 : Nat) : Int)) (congrArg (Value.int .i64) (wrap_to (by omega) (by omega))) ?_
        refine aM (indexAddrV Try.cfg 25 (inlL rcells 8 l) (.int .i64 ((l.length - 1 : Nat) : Int))) (elt (flatL rcells l) ((l.length - 1) * 8)) (idx_inlL tokC (by kernel_rfl) (by first | omega | simp)) ?_
        have hx7l : (l.length - 1) < l.length := by first | omega | (rw [kept_len]; omega)
        refine Exists.elim (get_ex hx7l) fun x7 hx7 => ?_
        clear hx7l
        refine aM (loadV Try.cfg (St.empty 0) 38 (elt (flatL rcells l) ((l.length - 1) * 8))) (.agg #[.int .i64 x7.1, .bool x7.2.1, .int .i64 x7.2.2.1, inlL ccells 6 x7.2.2.2.1, inlL kcells 2 x7.2.2.2.2.1, inlL scells 3 x7.2.2.2.2.2.1, inlL kcells 2 x7.2.2.2.2.2.2.1, inlL wcells 4 x7.2.2.2.2.2.2.2]) (load_el tokC (by kernel_rfl) rcells_len hx7) ?_
        refine aN ?_
        refine sk_seq (sk_seq ?_)
        refine sk_drawL Try.cfgOk hS ?_
        refine dK 1 ?_
        refine ald_mapB (loadV Try.cfg ((St.empty 0).new (.cells [.int .i64 x7.1, .bool x7.2.1, .int .i64 x7.2.2.1, inlL ccells 6 x7.2.2.2.1, inlL kcells 2 x7.2.2.2.2.1, inlL scells 3 x7.2.2.2.2.2.1, inlL kcells 2 x7.2.2.2.2.2.2.1, inlL wcells 4 x7.2.2.2.2.2.2.2])) 4 (.pointer (some ⟨0, 1, none⟩))) (x7.2.1) (by kernel_rfl) (by kernel_rfl) (by kernel_rfl) (by kernel_rfl) (fun b => by kernel_rfl) (fun c8 => ?_) (fun c8 => ?_)
        ·
          refine dK 3 ?_
          refine dM (lenB Try.cfg (St.empty 0) 25 (inlL rcells 8 l)) (.int .i64 ((l.length : Nat) : Int)) (len_inl tokC (by kernel_rfl)) ?_
          refine dE (v := .int .i64 (IntKind.wrap .i64 (((l.length : Nat) : Int) - 1))) (.int .i64 ((l.length - 1 : Nat) : Int)) (congrArg (Value.int .i64) (wrap_to (by omega) (by omega))) ?_
          refine dM (indexAddrV Try.cfg 27 (inlL wlcells 1 (keptL l)) (.int .i64 ((l.length - 1 : Nat) : Int))) (elt (flatL wlcells (keptL l)) ((l.length - 1) * 1)) (idx_inlL tokC (by kernel_rfl) (by first | omega | simp)) ?_
          have hx9l : (l.length - 1) < (keptL l).length := by first | omega | (rw [kept_len]; omega)
          refine Exists.elim (get_ex hx9l) fun x9 hx9 => ?_
          clear hx9l
          refine dM (loadV Try.cfg (St.empty 0) 36 (elt (flatL wlcells (keptL l)) ((l.length - 1) * 1))) (inlL wcells 4 x9) (load_el1 (o := 0) tokC (by kernel_rfl) wlcells_len hx9 rfl) ?_
          refine dK 2 ?_
          refine dB 8 [inlL wcells 4 x9, inlL wcells 4 x7.2.2.2.2.2.2.2] (decide (x9 = x7.2.2.2.2.2.2.2)) _ rfl (hC8 _ _ _ _ (con_nwrites_at x9 x7.2.2.2.2.2.2.2 (by first | omega | assumption | exact fun r hr => (s6 r hr).1 | (have q := s7 _ (List.mem_of_getElem? (by assumption)); omega) | (have q := (s6 _ (List.mem_of_getElem? (by assumption))).1; unfold smR at q; omega)) (by first | omega | assumption | exact fun r hr => (s6 r hr).1 | (have q := s7 _ (List.mem_of_getElem? (by assumption)); omega) | (have q := (s6 _ (List.mem_of_getElem? (by assumption))).1; unfold smR at q; omega)) _)) (fun h10 => ?_) (fun h10 => ?_)
          · have c11 : x9 = x7.2.2.2.2.2.2.2 := of_decide_eq_true h10
            clear h10
            refine dK 2 ?_
            refine ald_nil ?_
            refine kF ?_
            refine sk_skip (sk_seq ?_)
            refine kK Try.cfgOk hS ?_
            refine sk_seq (sk_seq ?_)
            refine sk_regionL Try.cfgOk hS ?_
            refine aK 1 ?_
            refine aM (lenB Try.cfg (St.empty 0) 25 (inlL rcells 8 l)) (.int .i64 ((l.length : Nat) : Int)) (len_inl tokC (by kernel_rfl)) ?_
            refine aN ?_
            refine sk_block ?_
            refine sk_live 107 ((fun a : Nat × (List (Key × Nat)) => [(3, inlL rcells 8 l), (4, inlL wlcells 1 (keptL l)), (6, .map (some 1)), (54, inlL rcells 8 l), (55, .int .i64 ((l.length : Nat) : Int)), (56, .int .i64 ((a.1 : Nat) : Int))]) (0, ([] : List (Key × Nat)))) (by kernel_rfl) ⟨by kernel_rfl, by kernel_rfl, by kernel_rfl, by kernel_rfl, by kernel_rfl, by kernel_rfl, trivial⟩ fun m12 => ?_
            refine sk_st ((fun a : Nat × (List (Key × Nat)) => (((St.empty 0).new (.cells [.int .i64 x7.1, .bool x7.2.1, .int .i64 x7.2.2.1, inlL ccells 6 x7.2.2.2.1, inlL kcells 2 x7.2.2.2.2.1, inlL scells 3 x7.2.2.2.2.2.1, inlL kcells 2 x7.2.2.2.2.2.2.1, inlL wcells 4 x7.2.2.2.2.2.2.2])).new (mapC kcells a.2))) (0, ([] : List (Key × Nat)))) (by kernel_rfl) ?_
            refine (sk_while (k := 2) (N := 400) (live := (fun a : Nat × (List (Key × Nat)) => [(3, inlL rcells 8 l), (4, inlL wlcells 1 (keptL l)), (6, .map (some 1)), (54, inlL rcells 8 l), (55, .int .i64 ((l.length : Nat) : Int)), (56, .int .i64 ((a.1 : Nat) : Int))])) (M := (fun a : Nat × (List (Key × Nat)) => (((St.empty 0).new (.cells [.int .i64 x7.1, .bool x7.2.1, .int .i64 x7.2.2.1, inlL ccells 6 x7.2.2.2.1, inlL kcells 2 x7.2.2.2.2.1, inlL scells 3 x7.2.2.2.2.2.1, inlL kcells 2 x7.2.2.2.2.2.2.1, inlL wcells 4 x7.2.2.2.2.2.2.2])).new (mapC kcells a.2)))) (fun a : Nat × (List (Key × Nat)) => (a.1 ≤ l.length) ∧ (a.2 = countC (soFar l a.1 0)) ∧ (∀ r ∈ l.take a.1, valR r)) (fun a : Nat × (List (Key × Nat)) => l.length - a.1) (fun (a : Nat × (List (Key × Nat))) (o : Out) (lv : List (Nat × Value)) (M : St) => (o = .exit 0 ∧ (a.2 = countC (keptKeys l) ∧ ∀ r ∈ l, valR r) ∧ lv = [(3, inlL rcells 8 l), (4, inlL wlcells 1 (keptL l)), (6, .map (some 1)), (54, inlL rcells 8 l), (55, .int .i64 ((l.length : Nat) : Int)), (56, .int .i64 ((a.1 : Nat) : Int))] ∧ M = (((St.empty 0).new (.cells [.int .i64 x7.1, .bool x7.2.1, .int .i64 x7.2.2.1, inlL ccells 6 x7.2.2.2.1, inlL kcells 2 x7.2.2.2.2.1, inlL scells 3 x7.2.2.2.2.2.1, inlL kcells 2 x7.2.2.2.2.2.2.1, inlL wcells 4 x7.2.2.2.2.2.2.2])).new (mapC kcells a.2))) ∨ (o = .ret ∧ (True) ∧ lv = [(2, .bool true)] ∧ M = (((St.empty 0).new (.cells [.int .i64 x7.1, .bool x7.2.1, .int .i64 x7.2.2.1, inlL ccells 6 x7.2.2.2.1, inlL kcells 2 x7.2.2.2.2.1, inlL scells 3 x7.2.2.2.2.2.1, inlL kcells 2 x7.2.2.2.2.2.2.1, inlL wcells 4 x7.2.2.2.2.2.2.2])).new (mapC kcells a.2)))) (Nat.zero_le _) (fun a ha => ?_) (fun a ha => ?_) (fun a m ha => ?_) (fun a m ha => ?_) (0, ([] : List (Key × Nat))) m12 ?_).up ?_
            · exact ⟨by kernel_rfl, (((wf_empty 0).new _).new _), (selfs (all_cons (o := .cells [.int .i64 x7.1, .bool x7.2.1, .int .i64 x7.2.2.1, inlL ccells 6 x7.2.2.2.1, inlL kcells 2 x7.2.2.2.2.1, inlL scells 3 x7.2.2.2.2.2.1, inlL kcells 2 x7.2.2.2.2.2.2.1, inlL wcells 4 x7.2.2.2.2.2.2.2]) (by kernel_rfl) (OSub.cells (.cons (sub_clo rfl) (.cons (sub_clo rfl) (.cons (sub_clo rfl) (.cons (sub_clo rfl) (.cons (sub_clo rfl) (.cons (sub_clo rfl) (.cons (sub_clo rfl) (.cons (sub_clo rfl) .nil))))))))) (all_cons (o := mapC kcells a.2) (by kernel_rfl) (mapC_self kcells_clo) (all_none))))⟩
            · exact ⟨sub_clo rfl, sub_clo rfl, .map ⟨by decide, rfl⟩, sub_clo rfl, sub_clo rfl, sub_clo rfl, trivial⟩
            · exact ⟨by kernel_rfl, by kernel_rfl, by kernel_rfl, by kernel_rfl, by kernel_rfl, by kernel_rfl, trivial⟩
            · obtain ⟨i, mL⟩ := a
              obtain ⟨i0, i1, i2⟩ := ha
              dsimp only at i0 i1 i2
              refine sk_seq ?_
              refine sk_regionL Try.cfgOk hS ?_
              refine aT (fun h13 => ?_) (fun h13 => ?_)
              · have c14e : (decide ((((i : Nat) : Int) : Int) < ((l.length : Nat) : Int))) = true := Eq.trans (by kernel_rfl) h13
                clear h13
                have c14 : (((i : Nat) : Int) : Int) < ((l.length : Nat) : Int) := of_decide_eq_true c14e
                clear c14e
                refine al_nil ?_
                refine sk_seq ?_
                refine kT ?_
                refine sk_skip (sk_seq (sk_block (sk_seq ?_)))
                refine sk_regionL Try.cfgOk hS ?_
                refine aK 1 ?_
                refine aM (indexAddrV Try.cfg 25 (inlL rcells 8 l) (.int .i64 ((i : Nat) : Int))) (elt (flatL rcells l) (i * 8)) (idx_inlL tokC (by kernel_rfl) (by first | omega | simp)) ?_
                have hx15l : i < l.length := by first | omega | (rw [kept_len]; omega)
                refine Exists.elim (get_ex hx15l) fun x15 hx15 => ?_
                clear hx15l
                refine aM (loadV Try.cfg (St.empty 0) 38 (elt (flatL rcells l) (i * 8))) (.agg #[.int .i64 x15.1, .bool x15.2.1, .int .i64 x15.2.2.1, inlL ccells 6 x15.2.2.2.1, inlL kcells 2 x15.2.2.2.2.1, inlL scells 3 x15.2.2.2.2.2.1, inlL kcells 2 x15.2.2.2.2.2.2.1, inlL wcells 4 x15.2.2.2.2.2.2.2]) (load_el tokC (by kernel_rfl) rcells_len hx15) ?_
                refine aN ?_
                refine sk_seq (sk_seq ?_)
                refine sk_regionL Try.cfgOk hS ?_
                refine aK 1 ?_
                refine al_mapB (loadV Try.cfg ((((St.empty 0).new (.cells [.int .i64 x7.1, .bool x7.2.1, .int .i64 x7.2.2.1, inlL ccells 6 x7.2.2.2.1, inlL kcells 2 x7.2.2.2.2.1, inlL scells 3 x7.2.2.2.2.2.1, inlL kcells 2 x7.2.2.2.2.2.2.1, inlL wcells 4 x7.2.2.2.2.2.2.2])).new (mapC kcells mL)).new (.cells [.int .i64 x15.1, .bool x15.2.1, .int .i64 x15.2.2.1, inlL ccells 6 x15.2.2.2.1, inlL kcells 2 x15.2.2.2.2.1, inlL scells 3 x15.2.2.2.2.2.1, inlL kcells 2 x15.2.2.2.2.2.2.1, inlL wcells 4 x15.2.2.2.2.2.2.2])) 4 (.pointer (some ⟨2, 1, none⟩))) (x15.2.1) (by kernel_rfl) (by kernel_rfl) (by kernel_rfl) (by kernel_rfl) (fun c16 => ?_) (fun c16 => ?_)
                ·
                  refine aK 3 ?_
                  refine aB 9 [.agg #[.int .i64 x15.1, .bool x15.2.1, .int .i64 x15.2.2.1, inlL ccells 6 x15.2.2.2.1, inlL kcells 2 x15.2.2.2.2.1, inlL scells 3 x15.2.2.2.2.2.1, inlL kcells 2 x15.2.2.2.2.2.2.1, inlL wcells 4 x15.2.2.2.2.2.2.2]] (tf ((1 ≤ x15.1 ∧ x15.1 ≤ 281474976710655) ∧ (x15.2.2.1 = 0 ∧ x15.2.2.2.1.length = 0 ∧ x15.2.2.2.2.1.length + x15.2.2.2.2.2.1.length + x15.2.2.2.2.2.2.1.length = 0) ∧ risW x15.2.2.2.2.2.2.2)) _ rfl (hC9 _ _ _ _ (con_rgood_at x15.1 x15.2.1 x15.2.2.1 x15.2.2.2.1 x15.2.2.2.2.1 x15.2.2.2.2.2.1 x15.2.2.2.2.2.2.1 x15.2.2.2.2.2.2.2 (by first | omega | assumption | exact fun r hr => (s6 r hr).1 | (have q := s7 _ (List.mem_of_getElem? (by assumption)); omega) | (have q := (s6 _ (List.mem_of_getElem? (by assumption))).1; unfold smR at q; omega)) (by first | omega | assumption | exact fun r hr => (s6 r hr).1 | (have q := s7 _ (List.mem_of_getElem? (by assumption)); omega) | (have q := (s6 _ (List.mem_of_getElem? (by assumption))).1; unfold smR at q; omega)) (by first | omega | assumption | exact fun r hr => (s6 r hr).1 | (have q := s7 _ (List.mem_of_getElem? (by assumption)); omega) | (have q := (s6 _ (List.mem_of_getElem? (by assumption))).1; unfold smR at q; omega)) (by first | omega | assumption | exact fun r hr => (s6 r hr).1 | (have q := s7 _ (List.mem_of_getElem? (by assumption)); omega) | (have q := (s6 _ (List.mem_of_getElem? (by assumption))).1; unfold smR at q; omega)) (by first | omega | assumption | exact fun r hr => (s6 r hr).1 | (have q := s7 _ (List.mem_of_getElem? (by assumption)); omega) | (have q := (s6 _ (List.mem_of_getElem? (by assumption))).1; unfold smR at q; omega)) (by first | omega | assumption | exact fun r hr => (s6 r hr).1 | (have q := s7 _ (List.mem_of_getElem? (by assumption)); omega) | (have q := (s6 _ (List.mem_of_getElem? (by assumption))).1; unfold smR at q; omega)) _)) (fun h17 => ?_) (fun h17 => ?_)
                  · have c18 : (1 ≤ x15.1 ∧ x15.1 ≤ 281474976710655) ∧ (x15.2.2.1 = 0 ∧ x15.2.2.2.1.length = 0 ∧ x15.2.2.2.2.1.length + x15.2.2.2.2.2.1.length + x15.2.2.2.2.2.2.1.length = 0) ∧ risW x15.2.2.2.2.2.2.2 := tf_t h17
                    clear h17
                    refine aN ?_
                    refine kF ?_
                    refine sk_skip (sk_seq ?_)
                    refine sk_regionL Try.cfgOk hS ?_
                    refine aK 2 ?_
                    refine aM (indexAddrV Try.cfg 27 (inlL wlcells 1 (keptL l)) (.int .i64 ((i : Nat) : Int))) (elt (flatL wlcells (keptL l)) (i * 1)) (idx_inlL tokC (by kernel_rfl) (by first | omega | simp)) ?_
                    have hx19l : i < (keptL l).length := by first | omega | (rw [kept_len]; omega)
                    refine Exists.elim (get_ex hx19l) fun x19 hx19 => ?_
                    clear hx19l
                    refine aM (loadV Try.cfg (St.empty 0) 36 (elt (flatL wlcells (keptL l)) (i * 1))) (inlL wcells 4 x19) (load_el1 (o := 0) tokC (by kernel_rfl) wlcells_len hx19 rfl) ?_
                    refine aM (lenB Try.cfg (St.empty 0) 36 (inlL wcells 4 x19)) (.int .i64 ((x19.length : Nat) : Int)) (len_inl tokC (by kernel_rfl)) ?_
                    refine aN ?_
                    refine sk_block ?_
                    refine sk_live 107 ((fun a : Nat × (List (Key × Nat)) => [(3, inlL rcells 8 l), (4, inlL wlcells 1 (keptL l)), (6, .map (some 1)), (54, inlL rcells 8 l), (55, .int .i64 ((l.length : Nat) : Int)), (56, .int .i64 ((i : Nat) : Int)), (65, .agg #[.int .i64 x15.1, .bool x15.2.1, .int .i64 x15.2.2.1, inlL ccells 6 x15.2.2.2.1, inlL kcells 2 x15.2.2.2.2.1, inlL scells 3 x15.2.2.2.2.2.1, inlL kcells 2 x15.2.2.2.2.2.2.1, inlL wcells 4 x15.2.2.2.2.2.2.2]), (66, .bool true), (67, .bool false), (72, inlL wcells 4 x19), (73, .int .i64 ((x19.length : Nat) : Int)), (74, .int .i64 ((a.1 : Nat) : Int))]) (0, mL)) (by kernel_rfl) ⟨by kernel_rfl, by kernel_rfl, by kernel_rfl, by kernel_rfl, by kernel_rfl, by kernel_rfl, by kernel_rfl, by kernel_rfl, by kernel_rfl, by kernel_rfl, by kernel_rfl, by kernel_rfl, trivial⟩ fun m20 => ?_
                    refine sk_st ((fun a : Nat × (List (Key × Nat)) => ((((St.empty 0).new (.cells [.int .i64 x7.1, .bool x7.2.1, .int .i64 x7.2.2.1, inlL ccells 6 x7.2.2.2.1, inlL kcells 2 x7.2.2.2.2.1, inlL scells 3 x7.2.2.2.2.2.1, inlL kcells 2 x7.2.2.2.2.2.2.1, inlL wcells 4 x7.2.2.2.2.2.2.2])).new (mapC kcells a.2)).new (.cells [.int .i64 x15.1, .bool x15.2.1, .int .i64 x15.2.2.1, inlL ccells 6 x15.2.2.2.1, inlL kcells 2 x15.2.2.2.2.1, inlL scells 3 x15.2.2.2.2.2.1, inlL kcells 2 x15.2.2.2.2.2.2.1, inlL wcells 4 x15.2.2.2.2.2.2.2]))) (0, mL)) (by kernel_rfl) ?_
                    refine (sk_while (k := 3) (N := 400) (live := (fun a : Nat × (List (Key × Nat)) => [(3, inlL rcells 8 l), (4, inlL wlcells 1 (keptL l)), (6, .map (some 1)), (54, inlL rcells 8 l), (55, .int .i64 ((l.length : Nat) : Int)), (56, .int .i64 ((i : Nat) : Int)), (65, .agg #[.int .i64 x15.1, .bool x15.2.1, .int .i64 x15.2.2.1, inlL ccells 6 x15.2.2.2.1, inlL kcells 2 x15.2.2.2.2.1, inlL scells 3 x15.2.2.2.2.2.1, inlL kcells 2 x15.2.2.2.2.2.2.1, inlL wcells 4 x15.2.2.2.2.2.2.2]), (66, .bool true), (67, .bool false), (72, inlL wcells 4 x19), (73, .int .i64 ((x19.length : Nat) : Int)), (74, .int .i64 ((a.1 : Nat) : Int))])) (M := (fun a : Nat × (List (Key × Nat)) => ((((St.empty 0).new (.cells [.int .i64 x7.1, .bool x7.2.1, .int .i64 x7.2.2.1, inlL ccells 6 x7.2.2.2.1, inlL kcells 2 x7.2.2.2.2.1, inlL scells 3 x7.2.2.2.2.2.1, inlL kcells 2 x7.2.2.2.2.2.2.1, inlL wcells 4 x7.2.2.2.2.2.2.2])).new (mapC kcells a.2)).new (.cells [.int .i64 x15.1, .bool x15.2.1, .int .i64 x15.2.2.1, inlL ccells 6 x15.2.2.2.1, inlL kcells 2 x15.2.2.2.2.1, inlL scells 3 x15.2.2.2.2.2.1, inlL kcells 2 x15.2.2.2.2.2.2.1, inlL wcells 4 x15.2.2.2.2.2.2.2])))) (fun a : Nat × (List (Key × Nat)) => (a.1 ≤ (kwAt l i).length) ∧ (a.2 = countC (soFar l i a.1)) ∧ ((kwAt l i).length ≤ 14)) (fun a : Nat × (List (Key × Nat)) => (kwAt l i).length - a.1) (fun (a : Nat × (List (Key × Nat))) (o : Out) (lv : List (Nat × Value)) (M : St) => (o = .exit 2 ∧ (a.2 = countC (soFar l (i + 1) 0)) ∧ lv = [(3, inlL rcells 8 l), (4, inlL wlcells 1 (keptL l)), (6, .map (some 1)), (54, inlL rcells 8 l), (55, .int .i64 ((l.length : Nat) : Int)), (56, .int .i64 ((i : Nat) : Int)), (65, .agg #[.int .i64 x15.1, .bool x15.2.1, .int .i64 x15.2.2.1, inlL ccells 6 x15.2.2.2.1, inlL kcells 2 x15.2.2.2.2.1, inlL scells 3 x15.2.2.2.2.2.1, inlL kcells 2 x15.2.2.2.2.2.2.1, inlL wcells 4 x15.2.2.2.2.2.2.2]), (66, .bool true), (67, .bool false), (72, inlL wcells 4 x19), (73, .int .i64 ((x19.length : Nat) : Int)), (74, .int .i64 ((a.1 : Nat) : Int))] ∧ M = ((((St.empty 0).new (.cells [.int .i64 x7.1, .bool x7.2.1, .int .i64 x7.2.2.1, inlL ccells 6 x7.2.2.2.1, inlL kcells 2 x7.2.2.2.2.1, inlL scells 3 x7.2.2.2.2.2.1, inlL kcells 2 x7.2.2.2.2.2.2.1, inlL wcells 4 x7.2.2.2.2.2.2.2])).new (mapC kcells a.2)).new (.cells [.int .i64 x15.1, .bool x15.2.1, .int .i64 x15.2.2.1, inlL ccells 6 x15.2.2.2.1, inlL kcells 2 x15.2.2.2.2.1, inlL scells 3 x15.2.2.2.2.2.1, inlL kcells 2 x15.2.2.2.2.2.2.1, inlL wcells 4 x15.2.2.2.2.2.2.2])))) (Nat.zero_le _) (fun a ha => ?_) (fun a ha => ?_) (fun a m ha => ?_) (fun a m ha => ?_) (0, mL) m20 ?_).up ?_
                    · exact ⟨by kernel_rfl, ((((wf_empty 0).new _).new _).new _), (selfs (all_cons (o := .cells [.int .i64 x7.1, .bool x7.2.1, .int .i64 x7.2.2.1, inlL ccells 6 x7.2.2.2.1, inlL kcells 2 x7.2.2.2.2.1, inlL scells 3 x7.2.2.2.2.2.1, inlL kcells 2 x7.2.2.2.2.2.2.1, inlL wcells 4 x7.2.2.2.2.2.2.2]) (by kernel_rfl) (OSub.cells (.cons (sub_clo rfl) (.cons (sub_clo rfl) (.cons (sub_clo rfl) (.cons (sub_clo rfl) (.cons (sub_clo rfl) (.cons (sub_clo rfl) (.cons (sub_clo rfl) (.cons (sub_clo rfl) .nil))))))))) (all_cons (o := mapC kcells a.2) (by kernel_rfl) (mapC_self kcells_clo) (all_cons (o := .cells [.int .i64 x15.1, .bool x15.2.1, .int .i64 x15.2.2.1, inlL ccells 6 x15.2.2.2.1, inlL kcells 2 x15.2.2.2.2.1, inlL scells 3 x15.2.2.2.2.2.1, inlL kcells 2 x15.2.2.2.2.2.2.1, inlL wcells 4 x15.2.2.2.2.2.2.2]) (by kernel_rfl) (OSub.cells (.cons (sub_clo rfl) (.cons (sub_clo rfl) (.cons (sub_clo rfl) (.cons (sub_clo rfl) (.cons (sub_clo rfl) (.cons (sub_clo rfl) (.cons (sub_clo rfl) (.cons (sub_clo rfl) .nil))))))))) (all_none)))))⟩
                    · exact ⟨sub_clo rfl, sub_clo rfl, .map ⟨by decide, rfl⟩, sub_clo rfl, sub_clo rfl, sub_clo rfl, .agg (.cons (sub_clo rfl) (.cons (sub_clo rfl) (.cons (sub_clo rfl) (.cons (sub_clo rfl) (.cons (sub_clo rfl) (.cons (sub_clo rfl) (.cons (sub_clo rfl) (.cons (sub_clo rfl) .nil)))))))), sub_clo rfl, sub_clo rfl, sub_clo rfl, sub_clo rfl, sub_clo rfl, trivial⟩
                    · exact ⟨by kernel_rfl, by kernel_rfl, by kernel_rfl, by kernel_rfl, by kernel_rfl, by kernel_rfl, by kernel_rfl, by kernel_rfl, by kernel_rfl, by kernel_rfl, by kernel_rfl, by kernel_rfl, trivial⟩
                    · obtain ⟨k, mM⟩ := a
                      obtain ⟨g0, g1, g2⟩ := ha
                      dsimp only at g0 g1 g2
                      refine sk_seq ?_
                      refine sk_regionL Try.cfgOk hS ?_
                      refine aT (fun h21 => ?_) (fun h21 => ?_)
                      · have c22e : (decide ((((k : Nat) : Int) : Int) < ((x19.length : Nat) : Int))) = true := Eq.trans (by kernel_rfl) h21
                        clear h21
                        have c22 : (((k : Nat) : Int) : Int) < ((x19.length : Nat) : Int) := of_decide_eq_true c22e
                        clear c22e
                        refine al_nil ?_
                        refine sk_seq ?_
                        refine kT ?_
                        refine sk_skip (sk_seq (sk_block (sk_seq ?_)))
                        refine sk_regionL Try.cfgOk hS ?_
                        refine aM (indexAddrV Try.cfg 36 (inlL wcells 4 x19) (.int .i64 ((k : Nat) : Int))) (elt (flatL wcells x19) (k * 4)) (idx_inlL tokC (by kernel_rfl) (by first | omega | simp)) ?_
                        have hx23l : k < x19.length := by first | omega | (rw [kept_len]; omega)
                        refine Exists.elim (get_ex hx23l) fun x23 hx23 => ?_
                        clear hx23l
                        refine aM (loadV Try.cfg (St.empty 0) 45 (elt (flatL wcells x19) (k * 4))) (.agg #[.int .i64 x23.1, .int .i64 x23.2.1, .int .i64 x23.2.2.1, .bool x23.2.2.2]) (load_el tokC (by kernel_rfl) wcells_len hx23) ?_
                        refine aN ?_
                        refine sk_drawL Try.cfgOk hS ?_
                        refine dK 3 ?_
                        refine dM (lookupV Try.cfg (((((St.empty 0).new (.cells [.int .i64 x7.1, .bool x7.2.1, .int .i64 x7.2.2.1, inlL ccells 6 x7.2.2.2.1, inlL kcells 2 x7.2.2.2.2.1, inlL scells 3 x7.2.2.2.2.2.1, inlL kcells 2 x7.2.2.2.2.2.2.1, inlL wcells 4 x7.2.2.2.2.2.2.2])).new (mapC kcells mM)).new (.cells [.int .i64 x15.1, .bool x15.2.1, .int .i64 x15.2.2.1, inlL ccells 6 x15.2.2.2.1, inlL kcells 2 x15.2.2.2.2.1, inlL scells 3 x15.2.2.2.2.2.1, inlL kcells 2 x15.2.2.2.2.2.2.1, inlL wcells 4 x15.2.2.2.2.2.2.2])).new (.cells [.int .i64 x23.1, .int .i64 x23.2.1, .int .i64 x23.2.2.1, .bool x23.2.2.2])) 40 (.map (some 1)) (.agg #[.int .i64 x23.1, .int .i64 x23.2.1]) false) (.int .i64 ((getC mM (x23.1, x23.2.1) : Nat) : Int)) (look_C (kt := 43) (by kernel_rfl) kcells_hk (k := (x23.1, x23.2.1)) (by kernel_rfl) (by kernel_rfl)) ?_
                        refine dE (v := .int .i64 (IntKind.wrap .i64 (((getC mM (x23.1, x23.2.1) : Nat) : Int) + 1))) (.int .i64 ((getC mM (x23.1, x23.2.1) + 1 : Nat) : Int)) (congrArg (Value.int .i64) (wrap_to (by omega) (by rw [g1]; exact Nat.lt_of_le_of_lt (Nat.add_le_add_right (Nat.le_trans (count_le_len (soFar l i k) _) (soFar_len s7 s1 i k)) 1) (by decide)))) ?_
                        refine ald_opE (d := rd0) (v := .tuple #[.int .i64 ((getC mM (x23.1, x23.2.1) : Nat) : Int), .int .i64 ((pos mM (x23.1, x23.2.1) : Nat) : Int)]) (s1 := (((((St.empty 0).new (.cells [.int .i64 x7.1, .bool x7.2.1, .int .i64 x7.2.2.1, inlL ccells 6 x7.2.2.2.1, inlL kcells 2 x7.2.2.2.2.1, inlL scells 3 x7.2.2.2.2.2.1, inlL kcells 2 x7.2.2.2.2.2.2.1, inlL wcells 4 x7.2.2.2.2.2.2.2])).new (mapC kcells mM)).new (.cells [.int .i64 x15.1, .bool x15.2.1, .int .i64 x15.2.2.1, inlL ccells 6 x15.2.2.2.1, inlL kcells 2 x15.2.2.2.2.1, inlL scells 3 x15.2.2.2.2.2.1, inlL kcells 2 x15.2.2.2.2.2.2.1, inlL wcells 4 x15.2.2.2.2.2.2.2])).new (.cells [.int .i64 x23.1, .int .i64 x23.2.1, .int .i64 x23.2.2.1, .bool x23.2.2.2])).set 1 (mapC kcells (insC mM (x23.1, x23.2.1)))) (by kernel_rfl) (by kernel_rfl) (Eq.trans (b := mapEntryV Try.cfg (((((St.empty 0).new (.cells [.int .i64 x7.1, .bool x7.2.1, .int .i64 x7.2.2.1, inlL ccells 6 x7.2.2.2.1, inlL kcells 2 x7.2.2.2.2.1, inlL scells 3 x7.2.2.2.2.2.1, inlL kcells 2 x7.2.2.2.2.2.2.1, inlL wcells 4 x7.2.2.2.2.2.2.2])).new (mapC kcells mM)).new (.cells [.int .i64 x15.1, .bool x15.2.1, .int .i64 x15.2.2.1, inlL ccells 6 x15.2.2.2.1, inlL kcells 2 x15.2.2.2.2.1, inlL scells 3 x15.2.2.2.2.2.1, inlL kcells 2 x15.2.2.2.2.2.2.1, inlL wcells 4 x15.2.2.2.2.2.2.2])).new (.cells [.int .i64 x23.1, .int .i64 x23.2.1, .int .i64 x23.2.2.1, .bool x23.2.2.2])) 40 (.map (some 1)) (.agg #[.int .i64 x23.1, .int .i64 x23.2.1])) (by kernel_rfl) (entry_C (kt := 43) (by kernel_rfl) kcells_hk (k := (x23.1, x23.2.1)) (by kernel_rfl) (by kernel_rfl))) (by kernel_rfl) (by kernel_rfl) (below_len (k := 3) (by kernel_rfl) (all3 (.inr (read_again (by kernel_rfl) (Eq.trans (b := .int .i64 (IntKind.wrap .i64 (((getC mM (x23.1, x23.2.1) : Nat) : Int) + 1))) (by kernel_rfl) (Eq.trans (b := .int .i64 ((getC mM (x23.1, x23.2.1) + 1 : Nat) : Int)) (congrArg (Value.int .i64) (wrap_to (by omega) (by rw [g1]; exact Nat.lt_of_le_of_lt (Nat.add_le_add_right (Nat.le_trans (count_le_len (soFar l i k) _) (soFar_len s7 s1 i k)) 1) (by decide)))) (by kernel_rfl))))) (.inr (look_any2 (t := 40) (kt := 43) (by kernel_rfl) kcells_hk (k := (x23.1, x23.2.1)) (by kernel_rfl) (id := 1) (L := mM) (.tmp 78) (.tmp 80) (by kernel_rfl) (by kernel_rfl) (by kernel_rfl) (by kernel_rfl) (by kernel_rfl))) (.inl (by kernel_rfl)))) ?_
                        refine dK 1 ?_
                        refine ald_opF (v := undef) (s1 := (((((St.empty 0).new (.cells [.int .i64 x7.1, .bool x7.2.1, .int .i64 x7.2.2.1, inlL ccells 6 x7.2.2.2.1, inlL kcells 2 x7.2.2.2.2.1, inlL scells 3 x7.2.2.2.2.2.1, inlL kcells 2 x7.2.2.2.2.2.2.1, inlL wcells 4 x7.2.2.2.2.2.2.2])).new (mapC kcells (insC mM (x23.1, x23.2.1)))).new (.cells [.int .i64 x15.1, .bool x15.2.1, .int .i64 x15.2.2.1, inlL ccells 6 x15.2.2.2.1, inlL kcells 2 x15.2.2.2.2.1, inlL scells 3 x15.2.2.2.2.2.1, inlL kcells 2 x15.2.2.2.2.2.2.1, inlL wcells 4 x15.2.2.2.2.2.2.2])).new (.cells [.int .i64 x23.1, .int .i64 x23.2.1, .int .i64 x23.2.2.1, .bool x23.2.2.2])).set 1 (mapC kcells (bump mM (x23.1, x23.2.1)))) (by kernel_rfl) (by kernel_rfl) (Eq.trans (b := (entryStoreV (((((St.empty 0).new (.cells [.int .i64 x7.1, .bool x7.2.1, .int .i64 x7.2.2.1, inlL ccells 6 x7.2.2.2.1, inlL kcells 2 x7.2.2.2.2.1, inlL scells 3 x7.2.2.2.2.2.1, inlL kcells 2 x7.2.2.2.2.2.2.1, inlL wcells 4 x7.2.2.2.2.2.2.2])).new (mapC kcells (insC mM (x23.1, x23.2.1)))).new (.cells [.int .i64 x15.1, .bool x15.2.1, .int .i64 x15.2.2.1, inlL ccells 6 x15.2.2.2.1, inlL kcells 2 x15.2.2.2.2.1, inlL scells 3 x15.2.2.2.2.2.1, inlL kcells 2 x15.2.2.2.2.2.2.1, inlL wcells 4 x15.2.2.2.2.2.2.2])).new (.cells [.int .i64 x23.1, .int .i64 x23.2.1, .int .i64 x23.2.2.1, .bool x23.2.2.2])) (.map (some 1)) (.int .i64 ((pos mM (x23.1, x23.2.1) : Nat) : Int)) (.int .i64 ((getC mM (x23.1, x23.2.1) + 1 : Nat) : Int))).map fun s8 => (undef, s8)) (by kernel_rfl) (congrArg (Option.map fun s8 => (undef, s8)) (store_C (kc := kcells) (L := insC mM (x23.1, x23.2.1)) (by kernel_rfl) pos_ins))) (by kernel_rfl) ?_
                        refine ald_nil ?_
                        refine sk_regionL Try.cfgOk hS ?_
                        refine aE (v := .int .i64 (IntKind.wrap .i64 (((k : Nat) : Int) + 1))) (.int .i64 ((k + 1 : Nat) : Int)) (congrArg (Value.int .i64) (wrap_to (by omega) (by omega))) ?_
                        refine aN ?_
                        refine .inl ⟨(k + 1, (bump mM (x23.1, x23.2.1))), rfl, ⟨?_, ?_, ?_⟩, ?_, ⟨by kernel_rfl, ⟨by kernel_rfl, by kernel_rfl, by kernel_rfl, by kernel_rfl, by kernel_rfl, by kernel_rfl, by kernel_rfl, by kernel_rfl, by kernel_rfl, by kernel_rfl, by kernel_rfl, by kernel_rfl, trivial⟩, ⟨sub_clo rfl, sub_clo rfl, .map ⟨by decide, rfl⟩, sub_clo rfl, sub_clo rfl, sub_clo rfl, .agg (.cons (sub_clo rfl) (.cons (sub_clo rfl) (.cons (sub_clo rfl) (.cons (sub_clo rfl) (.cons (sub_clo rfl) (.cons (sub_clo rfl) (.cons (sub_clo rfl) (.cons (sub_clo rfl) .nil)))))))), sub_clo rfl, sub_clo rfl, sub_clo rfl, sub_clo rfl, sub_clo rfl, trivial⟩, Nat.le_of_ble_eq_true (by kernel_rfl), ⟨by kernel_rfl, ((((wf_empty 0).new _).new _).new _), (selfs (all_cons (o := .cells [.int .i64 x7.1, .bool x7.2.1, .int .i64 x7.2.2.1, inlL ccells 6 x7.2.2.2.1, inlL kcells 2 x7.2.2.2.2.1, inlL scells 3 x7.2.2.2.2.2.1, inlL kcells 2 x7.2.2.2.2.2.2.1, inlL wcells 4 x7.2.2.2.2.2.2.2]) (by kernel_rfl) (OSub.cells (.cons (sub_clo rfl) (.cons (sub_clo rfl) (.cons (sub_clo rfl) (.cons (sub_clo rfl) (.cons (sub_clo rfl) (.cons (sub_clo rfl) (.cons (sub_clo rfl) (.cons (sub_clo rfl) .nil))))))))) (all_cons (o := mapC kcells (bump mM (x23.1, x23.2.1))) (by kernel_rfl) (mapC_self kcells_clo) (all_cons (o := .cells [.int .i64 x15.1, .bool x15.2.1, .int .i64 x15.2.2.1, inlL ccells 6 x15.2.2.2.1, inlL kcells 2 x15.2.2.2.2.1, inlL scells 3 x15.2.2.2.2.2.1, inlL kcells 2 x15.2.2.2.2.2.2.1, inlL wcells 4 x15.2.2.2.2.2.2.2]) (by kernel_rfl) (OSub.cells (.cons (sub_clo rfl) (.cons (sub_clo rfl) (.cons (sub_clo rfl) (.cons (sub_clo rfl) (.cons (sub_clo rfl) (.cons (sub_clo rfl) (.cons (sub_clo rfl) (.cons (sub_clo rfl) .nil))))))))) (all_none)))))⟩, mem_all (by kernel_rfl)⟩⟩
                        · (try dsimp only); rw [kwAt_eq (by assumption)]; omega
                        · (try dsimp only); rw [g1]; exact soFar_step (by assumption) (by assumption)
                        · (try dsimp only); assumption
                        · dsimp only; rw [kwAt_eq (by assumption)]; omega
                      · have c22e : (decide ((((k : Nat) : Int) : Int) < ((x19.length : Nat) : Int))) = false := Eq.trans (by kernel_rfl) h21
                        clear h21
                        have c22 : ¬ (((k : Nat) : Int) : Int) < ((x19.length : Nat) : Int) := of_decide_eq_false c22e
                        clear c22e
                        refine al_nil ?_
                        refine sk_seq ?_
                        refine kF ?_
                        refine sk_exit ?_
                        dsimp only
                        refine .inr ⟨_, _, (fun h => by cases h), ⟨rfl, ?_, rfl, rfl⟩, ⟨by kernel_rfl, ⟨by kernel_rfl, by kernel_rfl, by kernel_rfl, by kernel_rfl, by kernel_rfl, by kernel_rfl, by kernel_rfl, by kernel_rfl, by kernel_rfl, by kernel_rfl, by kernel_rfl, by kernel_rfl, trivial⟩, ⟨sub_clo rfl, sub_clo rfl, .map ⟨by decide, rfl⟩, sub_clo rfl, sub_clo rfl, sub_clo rfl, .agg (.cons (sub_clo rfl) (.cons (sub_clo rfl) (.cons (sub_clo rfl) (.cons (sub_clo rfl) (.cons (sub_clo rfl) (.cons (sub_clo rfl) (.cons (sub_clo rfl) (.cons (sub_clo rfl) .nil)))))))), sub_clo rfl, sub_clo rfl, sub_clo rfl, sub_clo rfl, sub_clo rfl, trivial⟩, Nat.le_of_ble_eq_true (by kernel_rfl), ⟨by kernel_rfl, ((((wf_empty 0).new _).new _).new _), (selfs (all_cons (o := .cells [.int .i64 x7.1, .bool x7.2.1, .int .i64 x7.2.2.1, inlL ccells 6 x7.2.2.2.1, inlL kcells 2 x7.2.2.2.2.1, inlL scells 3 x7.2.2.2.2.2.1, inlL kcells 2 x7.2.2.2.2.2.2.1, inlL wcells 4 x7.2.2.2.2.2.2.2]) (by kernel_rfl) (OSub.cells (.cons (sub_clo rfl) (.cons (sub_clo rfl) (.cons (sub_clo rfl) (.cons (sub_clo rfl) (.cons (sub_clo rfl) (.cons (sub_clo rfl) (.cons (sub_clo rfl) (.cons (sub_clo rfl) .nil))))))))) (all_cons (o := mapC kcells mM) (by kernel_rfl) (mapC_self kcells_clo) (all_cons (o := .cells [.int .i64 x15.1, .bool x15.2.1, .int .i64 x15.2.2.1, inlL ccells 6 x15.2.2.2.1, inlL kcells 2 x15.2.2.2.2.1, inlL scells 3 x15.2.2.2.2.2.1, inlL kcells 2 x15.2.2.2.2.2.2.1, inlL wcells 4 x15.2.2.2.2.2.2.2]) (by kernel_rfl) (OSub.cells (.cons (sub_clo rfl) (.cons (sub_clo rfl) (.cons (sub_clo rfl) (.cons (sub_clo rfl) (.cons (sub_clo rfl) (.cons (sub_clo rfl) (.cons (sub_clo rfl) (.cons (sub_clo rfl) .nil))))))))) (all_none)))))⟩, mem_all (by kernel_rfl)⟩⟩
                        · rw [g1, soFar_end (by assumption) (by omega)]
                    · exact ⟨by ((try dsimp only); first | done | (exact Nat.zero_le _)), by ((try dsimp only); first | done | (exact i1)), by ((try dsimp only); first | done | (rw [kwAt_eq (by assumption)]; exact s7 _ (List.mem_of_getElem? (by assumption))))⟩
                    rintro o e1 s1 ⟨a, lv1, M1, m20, ha, ⟨rfl, hx, rfl, rfl⟩, rfl, rfl⟩
                    obtain ⟨k, mM⟩ := a
                    obtain ⟨g0, g1, g2⟩ := ha
                    dsimp only at hx g0 g1 g2
                    dsimp only
                    try rw [if_pos rfl]
                    refine sk_regionL Try.cfgOk hS ?_
                    refine aE (v := .int .i64 (IntKind.wrap .i64 (((i : Nat) : Int) + 1))) (.int .i64 ((i + 1 : Nat) : Int)) (congrArg (Value.int .i64) (wrap_to (by omega) (by omega))) ?_
                    refine aN ?_
                    refine .inl ⟨(i + 1, mM), rfl, ⟨?_, ?_, ?_⟩, ?_, ⟨by kernel_rfl, ⟨by kernel_rfl, by kernel_rfl, by kernel_rfl, by kernel_rfl, by kernel_rfl, by kernel_rfl, trivial⟩, ⟨sub_clo rfl, sub_clo rfl, .map ⟨by decide, rfl⟩, sub_clo rfl, sub_clo rfl, sub_clo rfl, trivial⟩, Nat.le_of_ble_eq_true (by kernel_rfl), ⟨by kernel_rfl, (((wf_empty 0).new _).new _), (selfs (all_cons (o := .cells [.int .i64 x7.1, .bool x7.2.1, .int .i64 x7.2.2.1, inlL ccells 6 x7.2.2.2.1, inlL kcells 2 x7.2.2.2.2.1, inlL scells 3 x7.2.2.2.2.2.1, inlL kcells 2 x7.2.2.2.2.2.2.1, inlL wcells 4 x7.2.2.2.2.2.2.2]) (by kernel_rfl) (OSub.cells (.cons (sub_clo rfl) (.cons (sub_clo rfl) (.cons (sub_clo rfl) (.cons (sub_clo rfl) (.cons (sub_clo rfl) (.cons (sub_clo rfl) (.cons (sub_clo rfl) (.cons (sub_clo rfl) .nil))))))))) (all_cons (o := mapC kcells mM) (by kernel_rfl) (mapC_self kcells_clo) (all_none))))⟩, mem_all (by kernel_rfl)⟩⟩
                    · (try dsimp only); omega
                    · (try dsimp only); assumption
                    · (try dsimp only); exact val_step i2 (by assumption) (by assumption) (by assumption)
                    · dsimp only; omega
                  · have c18 : ¬ ((1 ≤ x15.1 ∧ x15.1 ≤ 281474976710655) ∧ (x15.2.2.1 = 0 ∧ x15.2.2.2.1.length = 0 ∧ x15.2.2.2.2.1.length + x15.2.2.2.2.2.1.length + x15.2.2.2.2.2.2.1.length = 0) ∧ risW x15.2.2.2.2.2.2.2) := tf_f h17
                    clear h17
                    refine aN ?_
                    refine kT ?_
                    refine sk_seq ?_
                    refine kK Try.cfgOk hS ?_
                    refine sk_ret ?_
                    refine .inr ⟨_, _, (fun h => by cases h), .inr ⟨rfl, ?_, rfl, rfl⟩, ⟨by kernel_rfl, ⟨by kernel_rfl, trivial⟩, ⟨sub_clo rfl, trivial⟩, Nat.le_of_ble_eq_true (by kernel_rfl), ⟨by kernel_rfl, (((wf_empty 0).new _).new _), (selfs (all_cons (o := .cells [.int .i64 x7.1, .bool x7.2.1, .int .i64 x7.2.2.1, inlL ccells 6 x7.2.2.2.1, inlL kcells 2 x7.2.2.2.2.1, inlL scells 3 x7.2.2.2.2.2.1, inlL kcells 2 x7.2.2.2.2.2.2.1, inlL wcells 4 x7.2.2.2.2.2.2.2]) (by kernel_rfl) (OSub.cells (.cons (sub_clo rfl) (.cons (sub_clo rfl) (.cons (sub_clo rfl) (.cons (sub_clo rfl) (.cons (sub_clo rfl) (.cons (sub_clo rfl) (.cons (sub_clo rfl) (.cons (sub_clo rfl) .nil))))))))) (all_cons (o := mapC kcells mL) (by kernel_rfl) (mapC_self kcells_clo) (all_none))))⟩, mem_all (by kernel_rfl)⟩⟩
                    · trivial
                ·
                  refine aN ?_
                  refine kT ?_
                  refine sk_seq ?_
                  refine kK Try.cfgOk hS ?_
                  refine sk_ret ?_
                  refine .inr ⟨_, _, (fun h => by cases h), .inr ⟨rfl, ?_, rfl, rfl⟩, ⟨by kernel_rfl, ⟨by kernel_rfl, trivial⟩, ⟨sub_clo rfl, trivial⟩, Nat.le_of_ble_eq_true (by kernel_rfl), ⟨by kernel_rfl, (((wf_empty 0).new _).new _), (selfs (all_cons (o := .cells [.int .i64 x7.1, .bool x7.2.1, .int .i64 x7.2.2.1, inlL ccells 6 x7.2.2.2.1, inlL kcells 2 x7.2.2.2.2.1, inlL scells 3 x7.2.2.2.2.2.1, inlL kcells 2 x7.2.2.2.2.2.2.1, inlL wcells 4 x7.2.2.2.2.2.2.2]) (by kernel_rfl) (OSub.cells (.cons (sub_clo rfl) (.cons (sub_clo rfl) (.cons (sub_clo rfl) (.cons (sub_clo rfl) (.cons (sub_clo rfl) (.cons (sub_clo rfl) (.cons (sub_clo rfl) (.cons (sub_clo rfl) .nil))))))))) (all_cons (o := mapC kcells mL) (by kernel_rfl) (mapC_self kcells_clo) (all_none))))⟩, mem_all (by kernel_rfl)⟩⟩
                  · trivial
              · have c14e : (decide ((((i : Nat) : Int) : Int) < ((l.length : Nat) : Int))) = false := Eq.trans (by kernel_rfl) h13
                clear h13
                have c14 : ¬ (((i : Nat) : Int) : Int) < ((l.length : Nat) : Int) := of_decide_eq_false c14e
                clear c14e
                refine al_nil ?_
                refine sk_seq ?_
                refine kF ?_
                refine sk_exit ?_
                dsimp only
                refine .inr ⟨_, _, (fun h => by cases h), .inl ⟨rfl, ?_, rfl, rfl⟩, ⟨by kernel_rfl, ⟨by kernel_rfl, by kernel_rfl, by kernel_rfl, by kernel_rfl, by kernel_rfl, by kernel_rfl, trivial⟩, ⟨sub_clo rfl, sub_clo rfl, .map ⟨by decide, rfl⟩, sub_clo rfl, sub_clo rfl, sub_clo rfl, trivial⟩, Nat.le_of_ble_eq_true (by kernel_rfl), ⟨by kernel_rfl, (((wf_empty 0).new _).new _), (selfs (all_cons (o := .cells [.int .i64 x7.1, .bool x7.2.1, .int .i64 x7.2.2.1, inlL ccells 6 x7.2.2.2.1, inlL kcells 2 x7.2.2.2.2.1, inlL scells 3 x7.2.2.2.2.2.1, inlL kcells 2 x7.2.2.2.2.2.2.1, inlL wcells 4 x7.2.2.2.2.2.2.2]) (by kernel_rfl) (OSub.cells (.cons (sub_clo rfl) (.cons (sub_clo rfl) (.cons (sub_clo rfl) (.cons (sub_clo rfl) (.cons (sub_clo rfl) (.cons (sub_clo rfl) (.cons (sub_clo rfl) (.cons (sub_clo rfl) .nil))))))))) (all_cons (o := mapC kcells mL) (by kernel_rfl) (mapC_self kcells_clo) (all_none))))⟩, mem_all (by kernel_rfl)⟩⟩
                · exact ⟨by rw [i1, soFar_all (by omega)], by rwa [List.take_of_length_le (by omega)] at i2⟩
            · exact ⟨by ((try dsimp only); first | done | (omega)), by ((try dsimp only); first | done | (rfl)), by ((try dsimp only); first | done | (exact fun r hr => by simp at hr))⟩
            rintro o e1 s1 ⟨a, lv1, M1, m12, ha, (⟨rfl, hx, rfl, rfl⟩ | ⟨rfl, hx, rfl, rfl⟩), rfl, rfl⟩
            ·
              obtain ⟨i, mL⟩ := a
              obtain ⟨i0, i1, i2⟩ := ha
              dsimp only at hx i0 i1 i2
              dsimp only
              try rw [if_pos rfl]
              refine sk_seq (sk_seq ?_)
              refine sk_regionL Try.cfgOk hS ?_
              refine aK 1 ?_
              refine aM (lenB Try.cfg (St.empty 0) 25 (inlL rcells 8 l)) (.int .i64 ((l.length : Nat) : Int)) (len_inl tokC (by kernel_rfl)) ?_
              refine aN ?_
              refine sk_block ?_
              refine sk_live 107 ((fun a : Nat => [(6, .map (some 1)), (87, inlL rcells 8 l), (88, .int .i64 ((l.length : Nat) : Int)), (89, .int .i64 ((a : Nat) : Int))]) 0) (by kernel_rfl) ⟨by kernel_rfl, by kernel_rfl, by kernel_rfl, by kernel_rfl, trivial⟩ fun m24 => ?_
              refine sk_st ((fun a : Nat => (((St.empty 0).new (.cells [.int .i64 x7.1, .bool x7.2.1, .int .i64 x7.2.2.1, inlL ccells 6 x7.2.2.2.1, inlL kcells 2 x7.2.2.2.2.1, inlL scells 3 x7.2.2.2.2.2.1, inlL kcells 2 x7.2.2.2.2.2.2.1, inlL wcells 4 x7.2.2.2.2.2.2.2])).new (mapC kcells mL))) 0) (by kernel_rfl) ?_
              refine (sk_while (k := 2) (N := 400) (live := (fun a : Nat => [(6, .map (some 1)), (87, inlL rcells 8 l), (88, .int .i64 ((l.length : Nat) : Int)), (89, .int .i64 ((a : Nat) : Int))])) (M := (fun a : Nat => (((St.empty 0).new (.cells [.int .i64 x7.1, .bool x7.2.1, .int .i64 x7.2.2.1, inlL ccells 6 x7.2.2.2.1, inlL kcells 2 x7.2.2.2.2.1, inlL scells 3 x7.2.2.2.2.2.1, inlL kcells 2 x7.2.2.2.2.2.2.1, inlL wcells 4 x7.2.2.2.2.2.2.2])).new (mapC kcells mL)))) (fun a : Nat => (a ≤ l.length) ∧ (mL = countC (keptKeys l)) ∧ (∀ r ∈ l, valR r)) (fun a : Nat => l.length - a) (fun (a : Nat) (o : Out) (lv : List (Nat × Value)) (M : St) => (o = .exit 4 ∧ (True) ∧ lv = [(6, .map (some 1)), (87, inlL rcells 8 l), (88, .int .i64 ((l.length : Nat) : Int)), (89, .int .i64 ((a : Nat) : Int))] ∧ M = (((St.empty 0).new (.cells [.int .i64 x7.1, .bool x7.2.1, .int .i64 x7.2.2.1, inlL ccells 6 x7.2.2.2.1, inlL kcells 2 x7.2.2.2.2.1, inlL scells 3 x7.2.2.2.2.2.1, inlL kcells 2 x7.2.2.2.2.2.2.1, inlL wcells 4 x7.2.2.2.2.2.2.2])).new (mapC kcells mL))) ∨ (o = .ret ∧ (False) ∧ lv = [(2, .bool false)] ∧ M = (((St.empty 0).new (.cells [.int .i64 x7.1, .bool x7.2.1, .int .i64 x7.2.2.1, inlL ccells 6 x7.2.2.2.1, inlL kcells 2 x7.2.2.2.2.1, inlL scells 3 x7.2.2.2.2.2.1, inlL kcells 2 x7.2.2.2.2.2.2.1, inlL wcells 4 x7.2.2.2.2.2.2.2])).new (mapC kcells mL)))) (Nat.zero_le _) (fun a ha => ?_) (fun a ha => ?_) (fun a m ha => ?_) (fun a m ha => ?_) 0 m24 ?_).up ?_
              · exact ⟨by kernel_rfl, (((wf_empty 0).new _).new _), (selfs (all_cons (o := .cells [.int .i64 x7.1, .bool x7.2.1, .int .i64 x7.2.2.1, inlL ccells 6 x7.2.2.2.1, inlL kcells 2 x7.2.2.2.2.1, inlL scells 3 x7.2.2.2.2.2.1, inlL kcells 2 x7.2.2.2.2.2.2.1, inlL wcells 4 x7.2.2.2.2.2.2.2]) (by kernel_rfl) (OSub.cells (.cons (sub_clo rfl) (.cons (sub_clo rfl) (.cons (sub_clo rfl) (.cons (sub_clo rfl) (.cons (sub_clo rfl) (.cons (sub_clo rfl) (.cons (sub_clo rfl) (.cons (sub_clo rfl) .nil))))))))) (all_cons (o := mapC kcells mL) (by kernel_rfl) (mapC_self kcells_clo) (all_none))))⟩
              · exact ⟨.map ⟨by decide, rfl⟩, sub_clo rfl, sub_clo rfl, sub_clo rfl, trivial⟩
              · exact ⟨by kernel_rfl, by kernel_rfl, by kernel_rfl, by kernel_rfl, trivial⟩
              · obtain ⟨i, ea⟩ : ∃ z, z = a := ⟨_, rfl⟩
                subst ea
                obtain ⟨e0, e1, e2⟩ := ha
                refine sk_seq ?_
                refine sk_regionL Try.cfgOk hS ?_
                refine aT (fun h25 => ?_) (fun h25 => ?_)
                · have c26e : (decide ((((i : Nat) : Int) : Int) < ((l.length : Nat) : Int))) = true := Eq.trans (by kernel_rfl) h25
                  clear h25
                  have c26 : (((i : Nat) : Int) : Int) < ((l.length : Nat) : Int) := of_decide_eq_true c26e
                  clear c26e
                  refine al_nil ?_
                  refine sk_seq ?_
                  refine kT ?_
                  refine sk_skip (sk_seq (sk_block (sk_seq ?_)))
                  refine sk_regionL Try.cfgOk hS ?_
                  refine aM (indexAddrV Try.cfg 25 (inlL rcells 8 l) (.int .i64 ((i : Nat) : Int))) (elt (flatL rcells l) (i * 8)) (idx_inlL tokC (by kernel_rfl) (by first | omega | simp)) ?_
                  have hx27l : i < l.length := by first | omega | (rw [kept_len]; omega)
                  refine Exists.elim (get_ex hx27l) fun x27 hx27 => ?_
                  clear hx27l
                  refine aM (loadV Try.cfg (St.empty 0) 38 (elt (flatL rcells l) (i * 8))) (.agg #[.int .i64 x27.1, .bool x27.2.1, .int .i64 x27.2.2.1, inlL ccells 6 x27.2.2.2.1, inlL kcells 2 x27.2.2.2.2.1, inlL scells 3 x27.2.2.2.2.2.1, inlL kcells 2 x27.2.2.2.2.2.2.1, inlL wcells 4 x27.2.2.2.2.2.2.2]) (load_el tokC (by kernel_rfl) rcells_len hx27) ?_
                  refine aN ?_
                  refine sk_seq ?_
                  refine sk_regionL Try.cfgOk hS ?_
                  refine aK 2 ?_
                  refine aM (lenB Try.cfg (St.empty 0) 36 (inlL wcells 4 x27.2.2.2.2.2.2.2)) (.int .i64 ((x27.2.2.2.2.2.2.2.length : Nat) : Int)) (len_inl tokC (by kernel_rfl)) ?_
                  refine aN ?_
                  refine sk_block ?_
                  refine sk_live 107 ((fun a : Nat => [(6, .map (some 1)), (87, inlL rcells 8 l), (88, .int .i64 ((l.length : Nat) : Int)), (89, .int .i64 ((i : Nat) : Int)), (94, inlL wcells 4 x27.2.2.2.2.2.2.2), (95, .int .i64 ((x27.2.2.2.2.2.2.2.length : Nat) : Int)), (96, .int .i64 ((a : Nat) : Int))]) 0) (by kernel_rfl) ⟨by kernel_rfl, by kernel_rfl, by kernel_rfl, by kernel_rfl, by kernel_rfl, by kernel_rfl, by kernel_rfl, trivial⟩ fun m28 => ?_
                  refine sk_st ((fun a : Nat => ((((St.empty 0).new (.cells [.int .i64 x7.1, .bool x7.2.1, .int .i64 x7.2.2.1, inlL ccells 6 x7.2.2.2.1, inlL kcells 2 x7.2.2.2.2.1, inlL scells 3 x7.2.2.2.2.2.1, inlL kcells 2 x7.2.2.2.2.2.2.1, inlL wcells 4 x7.2.2.2.2.2.2.2])).new (mapC kcells mL)).new (.cells [.int .i64 x27.1, .bool x27.2.1, .int .i64 x27.2.2.1, inlL ccells 6 x27.2.2.2.1, inlL kcells 2 x27.2.2.2.2.1, inlL scells 3 x27.2.2.2.2.2.1, inlL kcells 2 x27.2.2.2.2.2.2.1, inlL wcells 4 x27.2.2.2.2.2.2.2]))) 0) (by kernel_rfl) ?_
                  refine (sk_while (k := 3) (N := 400) (live := (fun a : Nat => [(6, .map (some 1)), (87, inlL rcells 8 l), (88, .int .i64 ((l.length : Nat) : Int)), (89, .int .i64 ((i : Nat) : Int)), (94, inlL wcells 4 x27.2.2.2.2.2.2.2), (95, .int .i64 ((x27.2.2.2.2.2.2.2.length : Nat) : Int)), (96, .int .i64 ((a : Nat) : Int))])) (M := (fun a : Nat => ((((St.empty 0).new (.cells [.int .i64 x7.1, .bool x7.2.1, .int .i64 x7.2.2.1, inlL ccells 6 x7.2.2.2.1, inlL kcells 2 x7.2.2.2.2.1, inlL scells 3 x7.2.2.2.2.2.1, inlL kcells 2 x7.2.2.2.2.2.2.1, inlL wcells 4 x7.2.2.2.2.2.2.2])).new (mapC kcells mL)).new (.cells [.int .i64 x27.1, .bool x27.2.1, .int .i64 x27.2.2.1, inlL ccells 6 x27.2.2.2.1, inlL kcells 2 x27.2.2.2.2.1, inlL scells 3 x27.2.2.2.2.2.1, inlL kcells 2 x27.2.2.2.2.2.2.1, inlL wcells 4 x27.2.2.2.2.2.2.2])))) (fun a : Nat => (a ≤ (rwAt l i).length) ∧ ((rwAt l i).length ≤ 14)) (fun a : Nat => (rwAt l i).length - a) (fun (a : Nat) (o : Out) (lv : List (Nat × Value)) (M : St) => (o = .exit 6 ∧ (True) ∧ lv = [(6, .map (some 1)), (87, inlL rcells 8 l), (88, .int .i64 ((l.length : Nat) : Int)), (89, .int .i64 ((i : Nat) : Int)), (94, inlL wcells 4 x27.2.2.2.2.2.2.2), (95, .int .i64 ((x27.2.2.2.2.2.2.2.length : Nat) : Int)), (96, .int .i64 ((a : Nat) : Int))] ∧ M = ((((St.empty 0).new (.cells [.int .i64 x7.1, .bool x7.2.1, .int .i64 x7.2.2.1, inlL ccells 6 x7.2.2.2.1, inlL kcells 2 x7.2.2.2.2.1, inlL scells 3 x7.2.2.2.2.2.1, inlL kcells 2 x7.2.2.2.2.2.2.1, inlL wcells 4 x7.2.2.2.2.2.2.2])).new (mapC kcells mL)).new (.cells [.int .i64 x27.1, .bool x27.2.1, .int .i64 x27.2.2.1, inlL ccells 6 x27.2.2.2.1, inlL kcells 2 x27.2.2.2.2.1, inlL scells 3 x27.2.2.2.2.2.1, inlL kcells 2 x27.2.2.2.2.2.2.1, inlL wcells 4 x27.2.2.2.2.2.2.2]))) ∨ (o = .ret ∧ (False) ∧ lv = [(2, .bool false)] ∧ M = ((((St.empty 0).new (.cells [.int .i64 x7.1, .bool x7.2.1, .int .i64 x7.2.2.1, inlL ccells 6 x7.2.2.2.1, inlL kcells 2 x7.2.2.2.2.1, inlL scells 3 x7.2.2.2.2.2.1, inlL kcells 2 x7.2.2.2.2.2.2.1, inlL wcells 4 x7.2.2.2.2.2.2.2])).new (mapC kcells mL)).new (.cells [.int .i64 x27.1, .bool x27.2.1, .int .i64 x27.2.2.1, inlL ccells 6 x27.2.2.2.1, inlL kcells 2 x27.2.2.2.2.1, inlL scells 3 x27.2.2.2.2.2.1, inlL kcells 2 x27.2.2.2.2.2.2.1, inlL wcells 4 x27.2.2.2.2.2.2.2])))) (Nat.zero_le _) (fun a ha => ?_) (fun a ha => ?_) (fun a m ha => ?_) (fun a m ha => ?_) 0 m28 ?_).up ?_
                  · exact ⟨by kernel_rfl, ((((wf_empty 0).new _).new _).new _), (selfs (all_cons (o := .cells [.int .i64 x7.1, .bool x7.2.1, .int .i64 x7.2.2.1, inlL ccells 6 x7.2.2.2.1, inlL kcells 2 x7.2.2.2.2.1, inlL scells 3 x7.2.2.2.2.2.1, inlL kcells 2 x7.2.2.2.2.2.2.1, inlL wcells 4 x7.2.2.2.2.2.2.2]) (by kernel_rfl) (OSub.cells (.cons (sub_clo rfl) (.cons (sub_clo rfl) (.cons (sub_clo rfl) (.cons (sub_clo rfl) (.cons (sub_clo rfl) (.cons (sub_clo rfl) (.cons (sub_clo rfl) (.cons (sub_clo rfl) .nil))))))))) (all_cons (o := mapC kcells mL) (by kernel_rfl) (mapC_self kcells_clo) (all_cons (o := .cells [.int .i64 x27.1, .bool x27.2.1, .int .i64 x27.2.2.1, inlL ccells 6 x27.2.2.2.1, inlL kcells 2 x27.2.2.2.2.1, inlL scells 3 x27.2.2.2.2.2.1, inlL kcells 2 x27.2.2.2.2.2.2.1, inlL wcells 4 x27.2.2.2.2.2.2.2]) (by kernel_rfl) (OSub.cells (.cons (sub_clo rfl) (.cons (sub_clo rfl) (.cons (sub_clo rfl) (.cons (sub_clo rfl) (.cons (sub_clo rfl) (.cons (sub_clo rfl) (.cons (sub_clo rfl) (.cons (sub_clo rfl) .nil))))))))) (all_none)))))⟩
                  · exact ⟨.map ⟨by decide, rfl⟩, sub_clo rfl, sub_clo rfl, sub_clo rfl, sub_clo rfl, sub_clo rfl, sub_clo rfl, trivial⟩
                  · exact ⟨by kernel_rfl, by kernel_rfl, by kernel_rfl, by kernel_rfl, by kernel_rfl, by kernel_rfl, by kernel_rfl, trivial⟩
                  · obtain ⟨k, ea⟩ : ∃ z, z = a := ⟨_, rfl⟩
                    subst ea
                    obtain ⟨g0, g1⟩ := ha
                    refine sk_seq ?_
                    refine sk_regionL Try.cfgOk hS ?_
                    refine aT (fun h29 => ?_) (fun h29 => ?_)
                    · have c30e : (decide ((((k : Nat) : Int) : Int) < ((x27.2.2.2.2.2.2.2.length : Nat) : Int))) = true := Eq.trans (by kernel_rfl) h29
                      clear h29
                      have c30 : (((k : Nat) : Int) : Int) < ((x27.2.2.2.2.2.2.2.length : Nat) : Int) := of_decide_eq_true c30e
                      clear c30e
                      refine al_nil ?_
                      refine sk_seq ?_
                      refine kT ?_
                      refine sk_skip (sk_seq (sk_block (sk_seq ?_)))
                      refine sk_regionL Try.cfgOk hS ?_
                      refine aM (indexAddrV Try.cfg 36 (inlL wcells 4 x27.2.2.2.2.2.2.2) (.int .i64 ((k : Nat) : Int))) (elt (flatL wcells x27.2.2.2.2.2.2.2) (k * 4)) (idx_inlL tokC (by kernel_rfl) (by first | omega | simp)) ?_
                      have hx31l : k < x27.2.2.2.2.2.2.2.length := by first | omega | (rw [kept_len]; omega)
                      refine Exists.elim (get_ex hx31l) fun x31 hx31 => ?_
                      clear hx31l
                      refine aM (loadV Try.cfg (St.empty 0) 45 (elt (flatL wcells x27.2.2.2.2.2.2.2) (k * 4))) (.agg #[.int .i64 x31.1, .int .i64 x31.2.1, .int .i64 x31.2.2.1, .bool x31.2.2.2]) (load_el tokC (by kernel_rfl) wcells_len hx31) ?_
                      refine aN ?_
                      refine sk_seq ?_
                      refine sk_regionL Try.cfgOk hS ?_
                      refine aK 3 ?_
                      refine aM (lookupV Try.cfg (((((St.empty 0).new (.cells [.int .i64 x7.1, .bool x7.2.1, .int .i64 x7.2.2.1, inlL ccells 6 x7.2.2.2.1, inlL kcells 2 x7.2.2.2.2.1, inlL scells 3 x7.2.2.2.2.2.1, inlL kcells 2 x7.2.2.2.2.2.2.1, inlL wcells 4 x7.2.2.2.2.2.2.2])).new (mapC kcells mL)).new (.cells [.int .i64 x27.1, .bool x27.2.1, .int .i64 x27.2.2.1, inlL ccells 6 x27.2.2.2.1, inlL kcells 2 x27.2.2.2.2.1, inlL scells 3 x27.2.2.2.2.2.1, inlL kcells 2 x27.2.2.2.2.2.2.1, inlL wcells 4 x27.2.2.2.2.2.2.2])).new (.cells [.int .i64 x31.1, .int .i64 x31.2.1, .int .i64 x31.2.2.1, .bool x31.2.2.2])) 40 (.map (some 1)) (.agg #[.int .i64 x31.1, .int .i64 x31.2.1]) false) (.int .i64 ((getC mL (x31.1, x31.2.1) : Nat) : Int)) (look_C (kt := 43) (by kernel_rfl) kcells_hk (k := (x31.1, x31.2.1)) (by kernel_rfl) (by kernel_rfl)) ?_
                      refine aT (fun h32 => ?_) (fun h32 => ?_)
                      · have c33e : ((((getC mL (x31.1, x31.2.1) : Nat) : Int) : Int) != 1) = true := Eq.trans (by kernel_rfl) h32
                        clear h32
                        have c33 : ¬ (((getC mL (x31.1, x31.2.1) : Nat) : Int) : Int) = 1 := bne_iff_ne.1 c33e
                        clear c33e
                        refine al_nil ?_
                        refine kT ?_
                        refine sk_seq ?_
                        refine kK Try.cfgOk hS ?_
                        refine sk_ret ?_
                        refine .inr ⟨_, _, (fun h => by cases h), .inr ⟨rfl, ?_, rfl, rfl⟩, ⟨by kernel_rfl, ⟨by kernel_rfl, trivial⟩, ⟨sub_clo rfl, trivial⟩, Nat.le_of_ble_eq_true (by kernel_rfl), ⟨by kernel_rfl, ((((wf_empty 0).new _).new _).new _), (selfs (all_cons (o := .cells [.int .i64 x7.1, .bool x7.2.1, .int .i64 x7.2.2.1, inlL ccells 6 x7.2.2.2.1, inlL kcells 2 x7.2.2.2.2.1, inlL scells 3 x7.2.2.2.2.2.1, inlL kcells 2 x7.2.2.2.2.2.2.1, inlL wcells 4 x7.2.2.2.2.2.2.2]) (by kernel_rfl) (OSub.cells (.cons (sub_clo rfl) (.cons (sub_clo rfl) (.cons (sub_clo rfl) (.cons (sub_clo rfl) (.cons (sub_clo rfl) (.cons (sub_clo rfl) (.cons (sub_clo rfl) (.cons (sub_clo rfl) .nil))))))))) (all_cons (o := mapC kcells mL) (by kernel_rfl) (mapC_self kcells_clo) (all_cons (o := .cells [.int .i64 x27.1, .bool x27.2.1, .int .i64 x27.2.2.1, inlL ccells 6 x27.2.2.2.1, inlL kcells 2 x27.2.2.2.2.1, inlL scells 3 x27.2.2.2.2.2.1, inlL kcells 2 x27.2.2.2.2.2.2.1, inlL wcells 4 x27.2.2.2.2.2.2.2]) (by kernel_rfl) (OSub.cells (.cons (sub_clo rfl) (.cons (sub_clo rfl) (.cons (sub_clo rfl) (.cons (sub_clo rfl) (.cons (sub_clo rfl) (.cons (sub_clo rfl) (.cons (sub_clo rfl) (.cons (sub_clo rfl) .nil))))))))) (all_none)))))⟩, mem_all (by kernel_rfl)⟩⟩
                        · have q := fin_one e1 e2 (by assumption) (by assumption); omega
                      · have c33e : ((((getC mL (x31.1, x31.2.1) : Nat) : Int) : Int) != 1) = false := Eq.trans (by kernel_rfl) h32
                        clear h32
                        have c33 : (((getC mL (x31.1, x31.2.1) : Nat) : Int) : Int) = 1 := bne_eq_false_iff_eq.1 c33e
                        clear c33e
                        refine al_nil ?_
                        refine kF ?_
                        refine sk_skip ?_
                        refine sk_regionL Try.cfgOk hS ?_
                        refine aE (v := .int .i64 (IntKind.wrap .i64 (((k : Nat) : Int) + 1))) (.int .i64 ((k + 1 : Nat) : Int)) (congrArg (Value.int .i64) (wrap_to (by omega) (by omega))) ?_
                        refine aN ?_
                        refine .inl ⟨k + 1, rfl, ⟨?_, ?_⟩, ?_, ⟨by kernel_rfl, ⟨by kernel_rfl, by kernel_rfl, by kernel_rfl, by kernel_rfl, by kernel_rfl, by kernel_rfl, by kernel_rfl, trivial⟩, ⟨.map ⟨by decide, rfl⟩, sub_clo rfl, sub_clo rfl, sub_clo rfl, sub_clo rfl, sub_clo rfl, sub_clo rfl, trivial⟩, Nat.le_of_ble_eq_true (by kernel_rfl), ⟨by kernel_rfl, ((((wf_empty 0).new _).new _).new _), (selfs (all_cons (o := .cells [.int .i64 x7.1, .bool x7.2.1, .int .i64 x7.2.2.1, inlL ccells 6 x7.2.2.2.1, inlL kcells 2 x7.2.2.2.2.1, inlL scells 3 x7.2.2.2.2.2.1, inlL kcells 2 x7.2.2.2.2.2.2.1, inlL wcells 4 x7.2.2.2.2.2.2.2]) (by kernel_rfl) (OSub.cells (.cons (sub_clo rfl) (.cons (sub_clo rfl) (.cons (sub_clo rfl) (.cons (sub_clo rfl) (.cons (sub_clo rfl) (.cons (sub_clo rfl) (.cons (sub_clo rfl) (.cons (sub_clo rfl) .nil))))))))) (all_cons (o := mapC kcells mL) (by kernel_rfl) (mapC_self kcells_clo) (all_cons (o := .cells [.int .i64 x27.1, .bool x27.2.1, .int .i64 x27.2.2.1, inlL ccells 6 x27.2.2.2.1, inlL kcells 2 x27.2.2.2.2.1, inlL scells 3 x27.2.2.2.2.2.1, inlL kcells 2 x27.2.2.2.2.2.2.1, inlL wcells 4 x27.2.2.2.2.2.2.2]) (by kernel_rfl) (OSub.cells (.cons (sub_clo rfl) (.cons (sub_clo rfl) (.cons (sub_clo rfl) (.cons (sub_clo rfl) (.cons (sub_clo rfl) (.cons (sub_clo rfl) (.cons (sub_clo rfl) (.cons (sub_clo rfl) .nil))))))))) (all_none)))))⟩, mem_all (by kernel_rfl)⟩⟩
                        · (try dsimp only); rw [rwAt_eq (by assumption)]; omega
                        · (try dsimp only); assumption
                        · first | (rw [rwAt_eq (by assumption)]; omega) | (dsimp only; rw [rwAt_eq (by assumption)]; omega)
                    · have c30e : (decide ((((k : Nat) : Int) : Int) < ((x27.2.2.2.2.2.2.2.length : Nat) : Int))) = false := Eq.trans (by kernel_rfl) h29
                      clear h29
                      have c30 : ¬ (((k : Nat) : Int) : Int) < ((x27.2.2.2.2.2.2.2.length : Nat) : Int) := of_decide_eq_false c30e
                      clear c30e
                      refine al_nil ?_
                      refine sk_seq ?_
                      refine kF ?_
                      refine sk_exit ?_
                      dsimp only
                      refine .inr ⟨_, _, (fun h => by cases h), .inl ⟨rfl, ?_, rfl, rfl⟩, ⟨by kernel_rfl, ⟨by kernel_rfl, by kernel_rfl, by kernel_rfl, by kernel_rfl, by kernel_rfl, by kernel_rfl, by kernel_rfl, trivial⟩, ⟨.map ⟨by decide, rfl⟩, sub_clo rfl, sub_clo rfl, sub_clo rfl, sub_clo rfl, sub_clo rfl, sub_clo rfl, trivial⟩, Nat.le_of_ble_eq_true (by kernel_rfl), ⟨by kernel_rfl, ((((wf_empty 0).new _).new _).new _), (selfs (all_cons (o := .cells [.int .i64 x7.1, .bool x7.2.1, .int .i64 x7.2.2.1, inlL ccells 6 x7.2.2.2.1, inlL kcells 2 x7.2.2.2.2.1, inlL scells 3 x7.2.2.2.2.2.1, inlL kcells 2 x7.2.2.2.2.2.2.1, inlL wcells 4 x7.2.2.2.2.2.2.2]) (by kernel_rfl) (OSub.cells (.cons (sub_clo rfl) (.cons (sub_clo rfl) (.cons (sub_clo rfl) (.cons (sub_clo rfl) (.cons (sub_clo rfl) (.cons (sub_clo rfl) (.cons (sub_clo rfl) (.cons (sub_clo rfl) .nil))))))))) (all_cons (o := mapC kcells mL) (by kernel_rfl) (mapC_self kcells_clo) (all_cons (o := .cells [.int .i64 x27.1, .bool x27.2.1, .int .i64 x27.2.2.1, inlL ccells 6 x27.2.2.2.1, inlL kcells 2 x27.2.2.2.2.1, inlL scells 3 x27.2.2.2.2.2.1, inlL kcells 2 x27.2.2.2.2.2.2.1, inlL wcells 4 x27.2.2.2.2.2.2.2]) (by kernel_rfl) (OSub.cells (.cons (sub_clo rfl) (.cons (sub_clo rfl) (.cons (sub_clo rfl) (.cons (sub_clo rfl) (.cons (sub_clo rfl) (.cons (sub_clo rfl) (.cons (sub_clo rfl) (.cons (sub_clo rfl) .nil))))))))) (all_none)))))⟩, mem_all (by kernel_rfl)⟩⟩
                      · trivial
                  · exact ⟨by ((try dsimp only); first | done | (exact Nat.zero_le _)), by ((try dsimp only); first | done | (rw [rwAt_eq (by assumption)]; exact (s6 _ (List.mem_of_getElem? (by assumption))).2))⟩
                  rintro o e1 s1 ⟨a, lv1, M1, m28, ha, (⟨rfl, hx, rfl, rfl⟩ | ⟨rfl, hx, rfl, rfl⟩), rfl, rfl⟩
                  ·
                    obtain ⟨k, ea⟩ : ∃ z, z = a := ⟨_, rfl⟩
                    subst ea
                    obtain ⟨g0, g1⟩ := ha
                    dsimp only
                    try rw [if_pos rfl]
                    refine sk_regionL Try.cfgOk hS ?_
                    refine aE (v := .int .i64 (IntKind.wrap .i64 (((i : Nat) : Int) + 1))) (.int .i64 ((i + 1 : Nat) : Int)) (congrArg (Value.int .i64) (wrap_to (by omega) (by omega))) ?_
                    refine aN ?_
                    refine .inl ⟨i + 1, rfl, ⟨?_, ?_, ?_⟩, ?_, ⟨by kernel_rfl, ⟨by kernel_rfl, by kernel_rfl, by kernel_rfl, by kernel_rfl, trivial⟩, ⟨.map ⟨by decide, rfl⟩, sub_clo rfl, sub_clo rfl, sub_clo rfl, trivial⟩, Nat.le_of_ble_eq_true (by kernel_rfl), ⟨by kernel_rfl, (((wf_empty 0).new _).new _), (selfs (all_cons (o := .cells [.int .i64 x7.1, .bool x7.2.1, .int .i64 x7.2.2.1, inlL ccells 6 x7.2.2.2.1, inlL kcells 2 x7.2.2.2.2.1, inlL scells 3 x7.2.2.2.2.2.1, inlL kcells 2 x7.2.2.2.2.2.2.1, inlL wcells 4 x7.2.2.2.2.2.2.2]) (by kernel_rfl) (OSub.cells (.cons (sub_clo rfl) (.cons (sub_clo rfl) (.cons (sub_clo rfl) (.cons (sub_clo rfl) (.cons (sub_clo rfl) (.cons (sub_clo rfl) (.cons (sub_clo rfl) (.cons (sub_clo rfl) .nil))))))))) (all_cons (o := mapC kcells mL) (by kernel_rfl) (mapC_self kcells_clo) (all_none))))⟩, mem_all (by kernel_rfl)⟩⟩
                    · (try dsimp only); omega
                    · (try dsimp only); assumption
                    · (try dsimp only); assumption
                    · omega
                  · exact hx.elim
                · have c26e : (decide ((((i : Nat) : Int) : Int) < ((l.length : Nat) : Int))) = false := Eq.trans (by kernel_rfl) h25
                  clear h25
                  have c26 : ¬ (((i : Nat) : Int) : Int) < ((l.length : Nat) : Int) := of_decide_eq_false c26e
                  clear c26e
                  refine al_nil ?_
                  refine sk_seq ?_
                  refine kF ?_
                  refine sk_exit ?_
                  dsimp only
                  refine .inr ⟨_, _, (fun h => by cases h), .inl ⟨rfl, ?_, rfl, rfl⟩, ⟨by kernel_rfl, ⟨by kernel_rfl, by kernel_rfl, by kernel_rfl, by kernel_rfl, trivial⟩, ⟨.map ⟨by decide, rfl⟩, sub_clo rfl, sub_clo rfl, sub_clo rfl, trivial⟩, Nat.le_of_ble_eq_true (by kernel_rfl), ⟨by kernel_rfl, (((wf_empty 0).new _).new _), (selfs (all_cons (o := .cells [.int .i64 x7.1, .bool x7.2.1, .int .i64 x7.2.2.1, inlL ccells 6 x7.2.2.2.1, inlL kcells 2 x7.2.2.2.2.1, inlL scells 3 x7.2.2.2.2.2.1, inlL kcells 2 x7.2.2.2.2.2.2.1, inlL wcells 4 x7.2.2.2.2.2.2.2]) (by kernel_rfl) (OSub.cells (.cons (sub_clo rfl) (.cons (sub_clo rfl) (.cons (sub_clo rfl) (.cons (sub_clo rfl) (.cons (sub_clo rfl) (.cons (sub_clo rfl) (.cons (sub_clo rfl) (.cons (sub_clo rfl) .nil))))))))) (all_cons (o := mapC kcells mL) (by kernel_rfl) (mapC_self kcells_clo) (all_none))))⟩, mem_all (by kernel_rfl)⟩⟩
                  · trivial
              · exact ⟨by ((try dsimp only); first | done | (omega)), by ((try dsimp only); first | done | (exact hx.1)), by ((try dsimp only); first | done | (exact hx.2))⟩
              rintro o e1 s1 ⟨a, lv1, M1, m24, ha, (⟨rfl, hx, rfl, rfl⟩ | ⟨rfl, hx, rfl, rfl⟩), rfl, rfl⟩
              ·
                obtain ⟨i, ea⟩ : ∃ z, z = a := ⟨_, rfl⟩
                subst ea
                obtain ⟨e0, e1, e2⟩ := ha
                dsimp only
                try rw [if_pos rfl]
                refine sk_seq ?_
                refine kK Try.cfgOk hS ?_
                refine sk_ret ?_
                exact ⟨[.bool true], by kernel_rfl, .same (sub_clo rfl), Nat.le_of_ble_eq_true (by kernel_rfl)⟩
              · exact hx.elim
            ·
              obtain ⟨i, mL⟩ := a
              obtain ⟨i0, i1, i2⟩ := ha
              dsimp only at hx i0 i1 i2
              dsimp only
              exact ⟨[.bool true], by kernel_rfl, .same (sub_clo rfl), Nat.le_of_ble_eq_true (by kernel_rfl)⟩
          · have c11 : ¬ (x9 = x7.2.2.2.2.2.2.2) := of_decide_eq_false h10
            clear h10
            refine dK 2 ?_
            refine ald_nil ?_
            refine kT ?_
            refine sk_seq ?_
            refine kK Try.cfgOk hS ?_
            refine sk_ret ?_
            exact ⟨[.bool false], by kernel_rfl, fs_to (fs_clo rfl) (congrArg Value.bool (by first | rfl | exact absurd (kept_len l) (by omega) | exact absurd (last_same (by assumption) (by assumption) (by assumption)) (by assumption) | exact hx.elim)), Nat.le_of_ble_eq_true (by kernel_rfl)⟩
        ·
          refine dK 12 ?_
          refine ald_nil ?_
          refine kF ?_
          refine sk_skip (sk_seq ?_)
          refine kK Try.cfgOk hS ?_
          refine sk_seq (sk_seq ?_)
          refine sk_regionL Try.cfgOk hS ?_
          refine aK 1 ?_
          refine aM (lenB Try.cfg (St.empty 0) 25 (inlL rcells 8 l)) (.int .i64 ((l.length : Nat) : Int)) (len_inl tokC (by kernel_rfl)) ?_
          refine aN ?_
          refine sk_block ?_
          refine sk_live 107 ((fun a : Nat × (List (Key × Nat)) => [(3, inlL rcells 8 l), (4, inlL wlcells 1 (keptL l)), (6, .map (some 1)), (54, inlL rcells 8 l), (55, .int .i64 ((l.length : Nat) : Int)), (56, .int .i64 ((a.1 : Nat) : Int))]) (0, ([] : List (Key × Nat)))) (by kernel_rfl) ⟨by kernel_rfl, by kernel_rfl, by kernel_rfl, by kernel_rfl, by kernel_rfl, by kernel_rfl, trivial⟩ fun m34 => ?_
          refine sk_st ((fun a : Nat × (List (Key × Nat)) => (((St.empty 0).new (.cells [.int .i64 x7.1, .bool x7.2.1, .int .i64 x7.2.2.1, inlL ccells 6 x7.2.2.2.1, inlL kcells 2 x7.2.2.2.2.1, inlL scells 3 x7.2.2.2.2.2.1, inlL kcells 2 x7.2.2.2.2.2.2.1, inlL wcells 4 x7.2.2.2.2.2.2.2])).new (mapC kcells a.2))) (0, ([] : List (Key × Nat)))) (by kernel_rfl) ?_
          refine (sk_while (k := 2) (N := 400) (live := (fun a : Nat × (List (Key × Nat)) => [(3, inlL rcells 8 l), (4, inlL wlcells 1 (keptL l)), (6, .map (some 1)), (54, inlL rcells 8 l), (55, .int .i64 ((l.length : Nat) : Int)), (56, .int .i64 ((a.1 : Nat) : Int))])) (M := (fun a : Nat × (List (Key × Nat)) => (((St.empty 0).new (.cells [.int .i64 x7.1, .bool x7.2.1, .int .i64 x7.2.2.1, inlL ccells 6 x7.2.2.2.1, inlL kcells 2 x7.2.2.2.2.1, inlL scells 3 x7.2.2.2.2.2.1, inlL kcells 2 x7.2.2.2.2.2.2.1, inlL wcells 4 x7.2.2.2.2.2.2.2])).new (mapC kcells a.2)))) (fun a : Nat × (List (Key × Nat)) => (a.1 ≤ l.length) ∧ (a.2 = countC (soFar l a.1 0)) ∧ (∀ r ∈ l.take a.1, valR r)) (fun a : Nat × (List (Key × Nat)) => l.length - a.1) (fun (a : Nat × (List (Key × Nat))) (o : Out) (lv : List (Nat × Value)) (M : St) => (o = .exit 0 ∧ (a.2 = countC (keptKeys l) ∧ ∀ r ∈ l, valR r) ∧ lv = [(3, inlL rcells 8 l), (4, inlL wlcells 1 (keptL l)), (6, .map (some 1)), (54, inlL rcells 8 l), (55, .int .i64 ((l.length : Nat) : Int)), (56, .int .i64 ((a.1 : Nat) : Int))] ∧ M = (((St.empty 0).new (.cells [.int .i64 x7.1, .bool x7.2.1, .int .i64 x7.2.2.1, inlL ccells 6 x7.2.2.2.1, inlL kcells 2 x7.2.2.2.2.1, inlL scells 3 x7.2.2.2.2.2.1, inlL kcells 2 x7.2.2.2.2.2.2.1, inlL wcells 4 x7.2.2.2.2.2.2.2])).new (mapC kcells a.2))) ∨ (o = .ret ∧ (True) ∧ lv = [(2, .bool true)] ∧ M = (((St.empty 0).new (.cells [.int .i64 x7.1, .bool x7.2.1, .int .i64 x7.2.2.1, inlL ccells 6 x7.2.2.2.1, inlL kcells 2 x7.2.2.2.2.1, inlL scells 3 x7.2.2.2.2.2.1, inlL kcells 2 x7.2.2.2.2.2.2.1, inlL wcells 4 x7.2.2.2.2.2.2.2])).new (mapC kcells a.2)))) (Nat.zero_le _) (fun a ha => ?_) (fun a ha => ?_) (fun a m ha => ?_) (fun a m ha => ?_) (0, ([] : List (Key × Nat))) m34 ?_).up ?_
          · exact ⟨by kernel_rfl, (((wf_empty 0).new _).new _), (selfs (all_cons (o := .cells [.int .i64 x7.1, .bool x7.2.1, .int .i64 x7.2.2.1, inlL ccells 6 x7.2.2.2.1, inlL kcells 2 x7.2.2.2.2.1, inlL scells 3 x7.2.2.2.2.2.1, inlL kcells 2 x7.2.2.2.2.2.2.1, inlL wcells 4 x7.2.2.2.2.2.2.2]) (by kernel_rfl) (OSub.cells (.cons (sub_clo rfl) (.cons (sub_clo rfl) (.cons (sub_clo rfl) (.cons (sub_clo rfl) (.cons (sub_clo rfl) (.cons (sub_clo rfl) (.cons (sub_clo rfl) (.cons (sub_clo rfl) .nil))))))))) (all_cons (o := mapC kcells a.2) (by kernel_rfl) (mapC_self kcells_clo) (all_none))))⟩
          · exact ⟨sub_clo rfl, sub_clo rfl, .map ⟨by decide, rfl⟩, sub_clo rfl, sub_clo rfl, sub_clo rfl, trivial⟩
          · exact ⟨by kernel_rfl, by kernel_rfl, by kernel_rfl, by kernel_rfl, by kernel_rfl, by kernel_rfl, trivial⟩
          · obtain ⟨i, mL⟩ := a
            obtain ⟨i0, i1, i2⟩ := ha
            dsimp only at i0 i1 i2
            refine sk_seq ?_
            refine sk_regionL Try.cfgOk hS ?_
            refine aT (fun h35 => ?_) (fun h35 => ?_)
            · have c36e : (decide ((((i : Nat) : Int) : Int) < ((l.length : Nat) : Int))) = true := Eq.trans (by kernel_rfl) h35
              clear h35
              have c36 : (((i : Nat) : Int) : Int) < ((l.length : Nat) : Int) := of_decide_eq_true c36e
              clear c36e
              refine al_nil ?_
              refine sk_seq ?_
              refine kT ?_
              refine sk_skip (sk_seq (sk_block (sk_seq ?_)))
              refine sk_regionL Try.cfgOk hS ?_
              refine aK 1 ?_
              refine aM (indexAddrV Try.cfg 25 (inlL rcells 8 l) (.int .i64 ((i : Nat) : Int))) (elt (flatL rcells l) (i * 8)) (idx_inlL tokC (by kernel_rfl) (by first | omega | simp)) ?_
              have hx37l : i < l.length := by first | omega | (rw [kept_len]; omega)
              refine Exists.elim (get_ex hx37l) fun x37 hx37 => ?_
              clear hx37l
              refine aM (loadV Try.cfg (St.empty 0) 38 (elt (flatL rcells l) (i * 8))) (.agg #[.int .i64 x37.1, .bool x37.2.1, .int .i64 x37.2.2.1, inlL ccells 6 x37.2.2.2.1, inlL kcells 2 x37.2.2.2.2.1, inlL scells 3 x37.2.2.2.2.2.1, inlL kcells 2 x37.2.2.2.2.2.2.1, inlL wcells 4 x37.2.2.2.2.2.2.2]) (load_el tokC (by kernel_rfl) rcells_len hx37) ?_
              refine aN ?_
              refine sk_seq (sk_seq ?_)
              refine sk_regionL Try.cfgOk hS ?_
              refine aK 1 ?_
              refine al_mapB (loadV Try.cfg ((((St.empty 0).new (.cells [.int .i64 x7.1, .bool x7.2.1, .int .i64 x7.2.2.1, inlL ccells 6 x7.2.2.2.1, inlL kcells 2 x7.2.2.2.2.1, inlL scells 3 x7.2.2.2.2.2.1, inlL kcells 2 x7.2.2.2.2.2.2.1, inlL wcells 4 x7.2.2.2.2.2.2.2])).new (mapC kcells mL)).new (.cells [.int .i64 x37.1, .bool x37.2.1, .int .i64 x37.2.2.1, inlL ccells 6 x37.2.2.2.1, inlL kcells 2 x37.2.2.2.2.1, inlL scells 3 x37.2.2.2.2.2.1, inlL kcells 2 x37.2.2.2.2.2.2.1, inlL wcells 4 x37.2.2.2.2.2.2.2])) 4 (.pointer (some ⟨2, 1, none⟩))) (x37.2.1) (by kernel_rfl) (by kernel_rfl) (by kernel_rfl) (by kernel_rfl) (fun c38 => ?_) (fun c38 => ?_)
              ·
                refine aK 3 ?_
                refine aB 9 [.agg #[.int .i64 x37.1, .bool x37.2.1, .int .i64 x37.2.2.1, inlL ccells 6 x37.2.2.2.1, inlL kcells 2 x37.2.2.2.2.1, inlL scells 3 x37.2.2.2.2.2.1, inlL kcells 2 x37.2.2.2.2.2.2.1, inlL wcells 4 x37.2.2.2.2.2.2.2]] (tf ((1 ≤ x37.1 ∧ x37.1 ≤ 281474976710655) ∧ (x37.2.2.1 = 0 ∧ x37.2.2.2.1.length = 0 ∧ x37.2.2.2.2.1.length + x37.2.2.2.2.2.1.length + x37.2.2.2.2.2.2.1.length = 0) ∧ risW x37.2.2.2.2.2.2.2)) _ rfl (hC9 _ _ _ _ (con_rgood_at x37.1 x37.2.1 x37.2.2.1 x37.2.2.2.1 x37.2.2.2.2.1 x37.2.2.2.2.2.1 x37.2.2.2.2.2.2.1 x37.2.2.2.2.2.2.2 (by first | omega | assumption | exact fun r hr => (s6 r hr).1 | (have q := s7 _ (List.mem_of_getElem? (by assumption)); omega) | (have q := (s6 _ (List.mem_of_getElem? (by assumption))).1; unfold smR at q; omega)) (by first | omega | assumption | exact fun r hr => (s6 r hr).1 | (have q := s7 _ (List.mem_of_getElem? (by assumption)); omega) | (have q := (s6 _ (List.mem_of_getElem? (by assumption))).1; unfold smR at q; omega)) (by first | omega | assumption | exact fun r hr => (s6 r hr).1 | (have q := s7 _ (List.mem_of_getElem? (by assumption)); omega) | (have q := (s6 _ (List.mem_of_getElem? (by assumption))).1; unfold smR at q; omega)) (by first | omega | assumption | exact fun r hr => (s6 r hr).1 | (have q := s7 _ (List.mem_of_getElem? (by assumption)); omega) | (have q := (s6 _ (List.mem_of_getElem? (by assumption))).1; unfold smR at q; omega)) (by first | omega | assumption | exact fun r hr => (s6 r hr).1 | (have q := s7 _ (List.mem_of_getElem? (by assumption)); omega) | (have q := (s6 _ (List.mem_of_getElem? (by assumption))).1; unfold smR at q; omega)) (by first | omega | assumption | exact fun r hr => (s6 r hr).1 | (have q := s7 _ (List.mem_of_getElem? (by assumption)); omega) | (have q := (s6 _ (List.mem_of_getElem? (by assumption))).1; unfold smR at q; omega)) _)) (fun h39 => ?_) (fun h39 => ?_)
                · have c40 : (1 ≤ x37.1 ∧ x37.1 ≤ 281474976710655) ∧ (x37.2.2.1 = 0 ∧ x37.2.2.2.1.length = 0 ∧ x37.2.2.2.2.1.length + x37.2.2.2.2.2.1.length + x37.2.2.2.2.2.2.1.length = 0) ∧ risW x37.2.2.2.2.2.2.2 := tf_t h39
                  clear h39
                  refine aN ?_
                  refine kF ?_
                  refine sk_skip (sk_seq ?_)
                  refine sk_regionL Try.cfgOk hS ?_
                  refine aK 2 ?_
                  refine aM (indexAddrV Try.cfg 27 (inlL wlcells 1 (keptL l)) (.int .i64 ((i : Nat) : Int))) (elt (flatL wlcells (keptL l)) (i * 1)) (idx_inlL tokC (by kernel_rfl) (by first | omega | simp)) ?_
                  have hx41l : i < (keptL l).length := by first | omega | (rw [kept_len]; omega)
                  refine Exists.elim (get_ex hx41l) fun x41 hx41 => ?_
                  clear hx41l
                  refine aM (loadV Try.cfg (St.empty 0) 36 (elt (flatL wlcells (keptL l)) (i * 1))) (inlL wcells 4 x41) (load_el1 (o := 0) tokC (by kernel_rfl) wlcells_len hx41 rfl) ?_
                  refine aM (lenB Try.cfg (St.empty 0) 36 (inlL wcells 4 x41)) (.int .i64 ((x41.length : Nat) : Int)) (len_inl tokC (by kernel_rfl)) ?_
                  refine aN ?_
                  refine sk_block ?_
                  refine sk_live 107 ((fun a : Nat × (List (Key × Nat)) => [(3, inlL rcells 8 l), (4, inlL wlcells 1 (keptL l)), (6, .map (some 1)), (54, inlL rcells 8 l), (55, .int .i64 ((l.length : Nat) : Int)), (56, .int .i64 ((i : Nat) : Int)), (65, .agg #[.int .i64 x37.1, .bool x37.2.1, .int .i64 x37.2.2.1, inlL ccells 6 x37.2.2.2.1, inlL kcells 2 x37.2.2.2.2.1, inlL scells 3 x37.2.2.2.2.2.1, inlL kcells 2 x37.2.2.2.2.2.2.1, inlL wcells 4 x37.2.2.2.2.2.2.2]), (66, .bool true), (67, .bool false), (72, inlL wcells 4 x41), (73, .int .i64 ((x41.length : Nat) : Int)), (74, .int .i64 ((a.1 : Nat) : Int))]) (0, mL)) (by kernel_rfl) ⟨by kernel_rfl, by kernel_rfl, by kernel_rfl, by kernel_rfl, by kernel_rfl, by kernel_rfl, by kernel_rfl, by kernel_rfl, by kernel_rfl, by kernel_rfl, by kernel_rfl, by kernel_rfl, trivial⟩ fun m42 => ?_
                  refine sk_st ((fun a : Nat × (List (Key × Nat)) => ((((St.empty 0).new (.cells [.int .i64 x7.1, .bool x7.2.1, .int .i64 x7.2.2.1, inlL ccells 6 x7.2.2.2.1, inlL kcells 2 x7.2.2.2.2.1, inlL scells 3 x7.2.2.2.2.2.1, inlL kcells 2 x7.2.2.2.2.2.2.1, inlL wcells 4 x7.2.2.2.2.2.2.2])).new (mapC kcells a.2)).new (.cells [.int .i64 x37.1, .bool x37.2.1, .int .i64 x37.2.2.1, inlL ccells 6 x37.2.2.2.1, inlL kcells 2 x37.2.2.2.2.1, inlL scells 3 x37.2.2.2.2.2.1, inlL kcells 2 x37.2.2.2.2.2.2.1, inlL wcells 4 x37.2.2.2.2.2.2.2]))) (0, mL)) (by kernel_rfl) ?_
                  refine (sk_while (k := 3) (N := 400) (live := (fun a : Nat × (List (Key × Nat)) => [(3, inlL rcells 8 l), (4, inlL wlcells 1 (keptL l)), (6, .map (some 1)), (54, inlL rcells 8 l), (55, .int .i64 ((l.length : Nat) : Int)), (56, .int .i64 ((i : Nat) : Int)), (65, .agg #[.int .i64 x37.1, .bool x37.2.1, .int .i64 x37.2.2.1, inlL ccells 6 x37.2.2.2.1, inlL kcells 2 x37.2.2.2.2.1, inlL scells 3 x37.2.2.2.2.2.1, inlL kcells 2 x37.2.2.2.2.2.2.1, inlL wcells 4 x37.2.2.2.2.2.2.2]), (66, .bool true), (67, .bool false), (72, inlL wcells 4 x41), (73, .int .i64 ((x41.length : Nat) : Int)), (74, .int .i64 ((a.1 : Nat) : Int))])) (M := (fun a : Nat × (List (Key × Nat)) => ((((St.empty 0).new (.cells [.int .i64 x7.1, .bool x7.2.1, .int .i64 x7.2.2.1, inlL ccells 6 x7.2.2.2.1, inlL kcells 2 x7.2.2.2.2.1, inlL scells 3 x7.2.2.2.2.2.1, inlL kcells 2 x7.2.2.2.2.2.2.1, inlL wcells 4 x7.2.2.2.2.2.2.2])).new (mapC kcells a.2)).new (.cells [.int .i64 x37.1, .bool x37.2.1, .int .i64 x37.2.2.1, inlL ccells 6 x37.2.2.2.1, inlL kcells 2 x37.2.2.2.2.1, inlL scells 3 x37.2.2.2.2.2.1, inlL kcells 2 x37.2.2.2.2.2.2.1, inlL wcells 4 x37.2.2.2.2.2.2.2])))) (fun a : Nat × (List (Key × Nat)) => (a.1 ≤ (kwAt l i).length) ∧ (a.2 = countC (soFar l i a.1)) ∧ ((kwAt l i).length ≤ 14)) (fun a : Nat × (List (Key × Nat)) => (kwAt l i).length - a.1) (fun (a : Nat × (List (Key × Nat))) (o : Out) (lv : List (Nat × Value)) (M : St) => (o = .exit 2 ∧ (a.2 = countC (soFar l (i + 1) 0)) ∧ lv = [(3, inlL rcells 8 l), (4, inlL wlcells 1 (keptL l)), (6, .map (some 1)), (54, inlL rcells 8 l), (55, .int .i64 ((l.length : Nat) : Int)), (56, .int .i64 ((i : Nat) : Int)), (65, .agg #[.int .i64 x37.1, .bool x37.2.1, .int .i64 x37.2.2.1, inlL ccells 6 x37.2.2.2.1, inlL kcells 2 x37.2.2.2.2.1, inlL scells 3 x37.2.2.2.2.2.1, inlL kcells 2 x37.2.2.2.2.2.2.1, inlL wcells 4 x37.2.2.2.2.2.2.2]), (66, .bool true), (67, .bool false), (72, inlL wcells 4 x41), (73, .int .i64 ((x41.length : Nat) : Int)), (74, .int .i64 ((a.1 : Nat) : Int))] ∧ M = ((((St.empty 0).new (.cells [.int .i64 x7.1, .bool x7.2.1, .int .i64 x7.2.2.1, inlL ccells 6 x7.2.2.2.1, inlL kcells 2 x7.2.2.2.2.1, inlL scells 3 x7.2.2.2.2.2.1, inlL kcells 2 x7.2.2.2.2.2.2.1, inlL wcells 4 x7.2.2.2.2.2.2.2])).new (mapC kcells a.2)).new (.cells [.int .i64 x37.1, .bool x37.2.1, .int .i64 x37.2.2.1, inlL ccells 6 x37.2.2.2.1, inlL kcells 2 x37.2.2.2.2.1, inlL scells 3 x37.2.2.2.2.2.1, inlL kcells 2 x37.2.2.2.2.2.2.1, inlL wcells 4 x37.2.2.2.2.2.2.2])))) (Nat.zero_le _) (fun a ha => ?_) (fun a ha => ?_) (fun a m ha => ?_) (fun a m ha => ?_) (0, mL) m42 ?_).up ?_
                  · exact ⟨by kernel_rfl, ((((wf_empty 0).new _).new _).new _), (selfs (all_cons (o := .cells [.int .i64 x7.1, .bool x7.2.1, .int .i64 x7.2.2.1, inlL ccells 6 x7.2.2.2.1, inlL kcells 2 x7.2.2.2.2.1, inlL scells 3 x7.2.2.2.2.2.1, inlL kcells 2 x7.2.2.2.2.2.2.1, inlL wcells 4 x7.2.2.2.2.2.2.2]) (by kernel_rfl) (OSub.cells (.cons (sub_clo rfl) (.cons (sub_clo rfl) (.cons (sub_clo rfl) (.cons (sub_clo rfl) (.cons (sub_clo rfl) (.cons (sub_clo rfl) (.cons (sub_clo rfl) (.cons (sub_clo rfl) .nil))))))))) (all_cons (o := mapC kcells a.2) (by kernel_rfl) (mapC_self kcells_clo) (all_cons (o := .cells [.int .i64 x37.1, .bool x37.2.1, .int .i64 x37.2.2.1, inlL ccells 6 x37.2.2.2.1, inlL kcells 2 x37.2.2.2.2.1, inlL scells 3 x37.2.2.2.2.2.1, inlL kcells 2 x37.2.2.2.2.2.2.1, inlL wcells 4 x37.2.2.2.2.2.2.2]) (by kernel_rfl) (OSub.cells (.cons (sub_clo rfl) (.cons (sub_clo rfl) (.cons (sub_clo rfl) (.cons (sub_clo rfl) (.cons (sub_clo rfl) (.cons (sub_clo rfl) (.cons (sub_clo rfl) (.cons (sub_clo rfl) .nil))))))))) (all_none)))))⟩
                  · exact ⟨sub_clo rfl, sub_clo rfl, .map ⟨by decide, rfl⟩, sub_clo rfl, sub_clo rfl, sub_clo rfl, .agg (.cons (sub_clo rfl) (.cons (sub_clo rfl) (.cons (sub_clo rfl) (.cons (sub_clo rfl) (.cons (sub_clo rfl) (.cons (sub_clo rfl) (.cons (sub_clo rfl) (.cons (sub_clo rfl) .nil)))))))), sub_clo rfl, sub_clo rfl, sub_clo rfl, sub_clo rfl, sub_clo rfl, trivial⟩
                  · exact ⟨by kernel_rfl, by kernel_rfl, by kernel_rfl, by kernel_rfl, by kernel_rfl, by kernel_rfl, by kernel_rfl, by kernel_rfl, by kernel_rfl, by kernel_rfl, by kernel_rfl, by kernel_rfl, trivial⟩
                  · obtain ⟨k, mM⟩ := a
                    obtain ⟨g0, g1, g2⟩ := ha
                    dsimp only at g0 g1 g2
                    refine sk_seq ?_
                    refine sk_regionL Try.cfgOk hS ?_
                    refine aT (fun h43 => ?_) (fun h43 => ?_)
                    · have c44e : (decide ((((k : Nat) : Int) : Int) < ((x41.length : Nat) : Int))) = true := Eq.trans (by kernel_rfl) h43
                      clear h43
                      have c44 : (((k : Nat) : Int) : Int) < ((x41.length : Nat) : Int) := of_decide_eq_true c44e
                      clear c44e
                      refine al_nil ?_
                      refine sk_seq ?_
                      refine kT ?_
                      refine sk_skip (sk_seq (sk_block (sk_seq ?_)))
                      refine sk_regionL Try.cfgOk hS ?_
                      refine aM (indexAddrV Try.cfg 36 (inlL wcells 4 x41) (.int .i64 ((k : Nat) : Int))) (elt (flatL wcells x41) (k * 4)) (idx_inlL tokC (by kernel_rfl) (by first | omega | simp)) ?_
                      have hx45l : k < x41.length := by first | omega | (rw [kept_len]; omega)
                      refine Exists.elim (get_ex hx45l) fun x45 hx45 => ?_
                      clear hx45l
                      refine aM (loadV Try.cfg (St.empty 0) 45 (elt (flatL wcells x41) (k * 4))) (.agg #[.int .i64 x45.1, .int .i64 x45.2.1, .int .i64 x45.2.2.1, .bool x45.2.2.2]) (load_el tokC (by kernel_rfl) wcells_len hx45) ?_
                      refine aN ?_
                      refine sk_drawL Try.cfgOk hS ?_
                      refine dK 3 ?_
                      refine dM (lookupV Try.cfg (((((St.empty 0).new (.cells [.int .i64 x7.1, .bool x7.2.1, .int .i64 x7.2.2.1, inlL ccells 6 x7.2.2.2.1, inlL kcells 2 x7.2.2.2.2.1, inlL scells 3 x7.2.2.2.2.2.1, inlL kcells 2 x7.2.2.2.2.2.2.1, inlL wcells 4 x7.2.2.2.2.2.2.2])).new (mapC kcells mM)).new (.cells [.int .i64 x37.1, .bool x37.2.1, .int .i64 x37.2.2.1, inlL ccells 6 x37.2.2.2.1, inlL kcells 2 x37.2.2.2.2.1, inlL scells 3 x37.2.2.2.2.2.1, inlL kcells 2 x37.2.2.2.2.2.2.1, inlL wcells 4 x37.2.2.2.2.2.2.2])).new (.cells [.int .i64 x45.1, .int .i64 x45.2.1, .int .i64 x45.2.2.1, .bool x45.2.2.2])) 40 (.map (some 1)) (.agg #[.int .i64 x45.1, .int .i64 x45.2.1]) false) (.int .i64 ((getC mM (x45.1, x45.2.1) : Nat) : Int)) (look_C (kt := 43) (by kernel_rfl) kcells_hk (k := (x45.1, x45.2.1)) (by kernel_rfl) (by kernel_rfl)) ?_
                      refine dE (v := .int .i64 (IntKind.wrap .i64 (((getC mM (x45.1, x45.2.1) : Nat) : Int) + 1))) (.int .i64 ((getC mM (x45.1, x45.2.1) + 1 : Nat) : Int)) (congrArg (Value.int .i64) (wrap_to (by omega) (by rw [g1]; exact Nat.lt_of_le_of_lt (Nat.add_le_add_right (Nat.le_trans (count_le_len (soFar l i k) _) (soFar_len s7 s1 i k)) 1) (by decide)))) ?_
                      refine ald_opE (d := rd0) (v := .tuple #[.int .i64 ((getC mM (x45.1, x45.2.1) : Nat) : Int), .int .i64 ((pos mM (x45.1, x45.2.1) : Nat) : Int)]) (s1 := (((((St.empty 0).new (.cells [.int .i64 x7.1, .bool x7.2.1, .int .i64 x7.2.2.1, inlL ccells 6 x7.2.2.2.1, inlL kcells 2 x7.2.2.2.2.1, inlL scells 3 x7.2.2.2.2.2.1, inlL kcells 2 x7.2.2.2.2.2.2.1, inlL wcells 4 x7.2.2.2.2.2.2.2])).new (mapC kcells mM)).new (.cells [.int .i64 x37.1, .bool x37.2.1, .int .i64 x37.2.2.1, inlL ccells 6 x37.2.2.2.1, inlL kcells 2 x37.2.2.2.2.1, inlL scells 3 x37.2.2.2.2.2.1, inlL kcells 2 x37.2.2.2.2.2.2.1, inlL wcells 4 x37.2.2.2.2.2.2.2])).new (.cells [.int .i64 x45.1, .int .i64 x45.2.1, .int .i64 x45.2.2.1, .bool x45.2.2.2])).set 1 (mapC kcells (insC mM (x45.1, x45.2.1)))) (by kernel_rfl) (by kernel_rfl) (Eq.trans (b := mapEntryV Try.cfg (((((St.empty 0).new (.cells [.int .i64 x7.1, .bool x7.2.1, .int .i64 x7.2.2.1, inlL ccells 6 x7.2.2.2.1, inlL kcells 2 x7.2.2.2.2.1, inlL scells 3 x7.2.2.2.2.2.1, inlL kcells 2 x7.2.2.2.2.2.2.1, inlL wcells 4 x7.2.2.2.2.2.2.2])).new (mapC kcells mM)).new (.cells [.int .i64 x37.1, .bool x37.2.1, .int .i64 x37.2.2.1, inlL ccells 6 x37.2.2.2.1, inlL kcells 2 x37.2.2.2.2.1, inlL scells 3 x37.2.2.2.2.2.1, inlL kcells 2 x37.2.2.2.2.2.2.1, inlL wcells 4 x37.2.2.2.2.2.2.2])).new (.cells [.int .i64 x45.1, .int .i64 x45.2.1, .int .i64 x45.2.2.1, .bool x45.2.2.2])) 40 (.map (some 1)) (.agg #[.int .i64 x45.1, .int .i64 x45.2.1])) (by kernel_rfl) (entry_C (kt := 43) (by kernel_rfl) kcells_hk (k := (x45.1, x45.2.1)) (by kernel_rfl) (by kernel_rfl))) (by kernel_rfl) (by kernel_rfl) (below_len (k := 3) (by kernel_rfl) (all3 (.inr (read_again (by kernel_rfl) (Eq.trans (b := .int .i64 (IntKind.wrap .i64 (((getC mM (x45.1, x45.2.1) : Nat) : Int) + 1))) (by kernel_rfl) (Eq.trans (b := .int .i64 ((getC mM (x45.1, x45.2.1) + 1 : Nat) : Int)) (congrArg (Value.int .i64) (wrap_to (by omega) (by rw [g1]; exact Nat.lt_of_le_of_lt (Nat.add_le_add_right (Nat.le_trans (count_le_len (soFar l i k) _) (soFar_len s7 s1 i k)) 1) (by decide)))) (by kernel_rfl))))) (.inr (look_any2 (t := 40) (kt := 43) (by kernel_rfl) kcells_hk (k := (x45.1, x45.2.1)) (by kernel_rfl) (id := 1) (L := mM) (.tmp 78) (.tmp 80) (by kernel_rfl) (by kernel_rfl) (by kernel_rfl) (by kernel_rfl) (by kernel_rfl))) (.inl (by kernel_rfl)))) ?_
                      refine dK 1 ?_
                      refine ald_opF (v := undef) (s1 := (((((St.empty 0).new (.cells [.int .i64 x7.1, .bool x7.2.1, .int .i64 x7.2.2.1, inlL ccells 6 x7.2.2.2.1, inlL kcells 2 x7.2.2.2.2.1, inlL scells 3 x7.2.2.2.2.2.1, inlL kcells 2 x7.2.2.2.2.2.2.1, inlL wcells 4 x7.2.2.2.2.2.2.2])).new (mapC kcells (insC mM (x45.1, x45.2.1)))).new (.cells [.int .i64 x37.1, .bool x37.2.1, .int .i64 x37.2.2.1, inlL ccells 6 x37.2.2.2.1, inlL kcells 2 x37.2.2.2.2.1, inlL scells 3 x37.2.2.2.2.2.1, inlL kcells 2 x37.2.2.2.2.2.2.1, inlL wcells 4 x37.2.2.2.2.2.2.2])).new (.cells [.int .i64 x45.1, .int .i64 x45.2.1, .int .i64 x45.2.2.1, .bool x45.2.2.2])).set 1 (mapC kcells (bump mM (x45.1, x45.2.1)))) (by kernel_rfl) (by kernel_rfl) (Eq.trans (b := (entryStoreV (((((St.empty 0).new (.cells [.int .i64 x7.1, .bool x7.2.1, .int .i64 x7.2.2.1, inlL ccells 6 x7.2.2.2.1, inlL kcells 2 x7.2.2.2.2.1, inlL scells 3 x7.2.2.2.2.2.1, inlL kcells 2 x7.2.2.2.2.2.2.1, inlL wcells 4 x7.2.2.2.2.2.2.2])).new (mapC kcells (insC mM (x45.1, x45.2.1)))).new (.cells [.int .i64 x37.1, .bool x37.2.1, .int .i64 x37.2.2.1, inlL ccells 6 x37.2.2.2.1, inlL kcells 2 x37.2.2.2.2.1, inlL scells 3 x37.2.2.2.2.2.1, inlL kcells 2 x37.2.2.2.2.2.2.1, inlL wcells 4 x37.2.2.2.2.2.2.2])).new (.cells [.int .i64 x45.1, .int .i64 x45.2.1, .int .i64 x45.2.2.1, .bool x45.2.2.2])) (.map (some 1)) (.int .i64 ((pos mM (x45.1, x45.2.1) : Nat) : Int)) (.int .i64 ((getC mM (x45.1, x45.2.1) + 1 : Nat) : Int))).map fun s8 => (undef, s8)) (by kernel_rfl) (congrArg (Option.map fun s8 => (undef, s8)) (store_C (kc := kcells) (L := insC mM (x45.1, x45.2.1)) (by kernel_rfl) pos_ins))) (by kernel_rfl) ?_
                      refine ald_nil ?_
                      refine sk_regionL Try.cfgOk hS ?_
                      refine aE (v := .int .i64 (IntKind.wrap .i64 (((k : Nat) : Int) + 1))) (.int .i64 ((k + 1 : Nat) : Int)) (congrArg (Value.int .i64) (wrap_to (by omega) (by omega))) ?_
                      refine aN ?_
                      refine .inl ⟨(k + 1, (bump mM (x45.1, x45.2.1))), rfl, ⟨?_, ?_, ?_⟩, ?_, ⟨by kernel_rfl, ⟨by kernel_rfl, by kernel_rfl, by kernel_rfl, by kernel_rfl, by kernel_rfl, by kernel_rfl, by kernel_rfl, by kernel_rfl, by kernel_rfl, by kernel_rfl, by kernel_rfl, by kernel_rfl, trivial⟩, ⟨sub_clo rfl, sub_clo rfl, .map ⟨by decide, rfl⟩, sub_clo rfl, sub_clo rfl, sub_clo rfl, .agg (.cons (sub_clo rfl) (.cons (sub_clo rfl) (.cons (sub_clo rfl) (.cons (sub_clo rfl) (.cons (sub_clo rfl) (.cons (sub_clo rfl) (.cons (sub_clo rfl) (.cons (sub_clo rfl) .nil)))))))), sub_clo rfl, sub_clo rfl, sub_clo rfl, sub_clo rfl, sub_clo rfl, trivial⟩, Nat.le_of_ble_eq_true (by kernel_rfl), ⟨by kernel_rfl, ((((wf_empty 0).new _).new _).new _), (selfs (all_cons (o := .cells [.int .i64 x7.1, .bool x7.2.1, .int .i64 x7.2.2.1, inlL ccells 6 x7.2.2.2.1, inlL kcells 2 x7.2.2.2.2.1, inlL scells 3 x7.2.2.2.2.2.1, inlL kcells 2 x7.2.2.2.2.2.2.1, inlL wcells 4 x7.2.2.2.2.2.2.2]) (by kernel_rfl) (OSub.cells (.cons (sub_clo rfl) (.cons (sub_clo rfl) (.cons (sub_clo rfl) (.cons (sub_clo rfl) (.cons (sub_clo rfl) (.cons (sub_clo rfl) (.cons (sub_clo rfl) (.cons (sub_clo rfl) .nil))))))))) (all_cons (o := mapC kcells (bump mM (x45.1, x45.2.1))) (by kernel_rfl) (mapC_self kcells_clo) (all_cons (o := .cells [.int .i64 x37.1, .bool x37.2.1, .int .i64 x37.2.2.1, inlL ccells 6 x37.2.2.2.1, inlL kcells 2 x37.2.2.2.2.1, inlL scells 3 x37.2.2.2.2.2.1, inlL kcells 2 x37.2.2.2.2.2.2.1, inlL wcells 4 x37.2.2.2.2.2.2.2]) (by kernel_rfl) (OSub.cells (.cons (sub_clo rfl) (.cons (sub_clo rfl) (.cons (sub_clo rfl) (.cons (sub_clo rfl) (.cons (sub_clo rfl) (.cons (sub_clo rfl) (.cons (sub_clo rfl) (.cons (sub_clo rfl) .nil))))))))) (all_none)))))⟩, mem_all (by kernel_rfl)⟩⟩
                      · (try dsimp only); rw [kwAt_eq (by assumption)]; omega
                      · (try dsimp only); rw [g1]; exact soFar_step (by assumption) (by assumption)
                      · (try dsimp only); assumption
                      · dsimp only; rw [kwAt_eq (by assumption)]; omega
                    · have c44e : (decide ((((k : Nat) : Int) : Int) < ((x41.length : Nat) : Int))) = false := Eq.trans (by kernel_rfl) h43
                      clear h43
                      have c44 : ¬ (((k : Nat) : Int) : Int) < ((x41.length : Nat) : Int) := of_decide_eq_false c44e
                      clear c44e
                      refine al_nil ?_
                      refine sk_seq ?_
                      refine kF ?_
                      refine sk_exit ?_
                      dsimp only
                      refine .inr ⟨_, _, (fun h => by cases h), ⟨rfl, ?_, rfl, rfl⟩, ⟨by kernel_rfl, ⟨by kernel_rfl, by kernel_rfl, by kernel_rfl, by kernel_rfl, by kernel_rfl, by kernel_rfl, by kernel_rfl, by kernel_rfl, by kernel_rfl, by kernel_rfl, by kernel_rfl, by kernel_rfl, trivial⟩, ⟨sub_clo rfl, sub_clo rfl, .map ⟨by decide, rfl⟩, sub_clo rfl, sub_clo rfl, sub_clo rfl, .agg (.cons (sub_clo rfl) (.cons (sub_clo rfl) (.cons (sub_clo rfl) (.cons (sub_clo rfl) (.cons (sub_clo rfl) (.cons (sub_clo rfl) (.cons (sub_clo rfl) (.cons (sub_clo rfl) .nil)))))))), sub_clo rfl, sub_clo rfl, sub_clo rfl, sub_clo rfl, sub_clo rfl, trivial⟩, Nat.le_of_ble_eq_true (by kernel_rfl), ⟨by kernel_rfl, ((((wf_empty 0).new _).new _).new _), (selfs (all_cons (o := .cells [.int .i64 x7.1, .bool x7.2.1, .int .i64 x7.2.2.1, inlL ccells 6 x7.2.2.2.1, inlL kcells 2 x7.2.2.2.2.1, inlL scells 3 x7.2.2.2.2.2.1, inlL kcells 2 x7.2.2.2.2.2.2.1, inlL wcells 4 x7.2.2.2.2.2.2.2]) (by kernel_rfl) (OSub.cells (.cons (sub_clo rfl) (.cons (sub_clo rfl) (.cons (sub_clo rfl) (.cons (sub_clo rfl) (.cons (sub_clo rfl) (.cons (sub_clo rfl) (.cons (sub_clo rfl) (.cons (sub_clo rfl) .nil))))))))) (all_cons (o := mapC kcells mM) (by kernel_rfl) (mapC_self kcells_clo) (all_cons (o := .cells [.int .i64 x37.1, .bool x37.2.1, .int .i64 x37.2.2.1, inlL ccells 6 x37.2.2.2.1, inlL kcells 2 x37.2.2.2.2.1, inlL scells 3 x37.2.2.2.2.2.1, inlL kcells 2 x37.2.2.2.2.2.2.1, inlL wcells 4 x37.2.2.2.2.2.2.2]) (by kernel_rfl) (OSub.cells (.cons (sub_clo rfl) (.cons (sub_clo rfl) (.cons (sub_clo rfl) (.cons (sub_clo rfl) (.cons (sub_clo rfl) (.cons (sub_clo rfl) (.cons (sub_clo rfl) (.cons (sub_clo rfl) .nil))))))))) (all_none)))))⟩, mem_all (by kernel_rfl)⟩⟩
                      · rw [g1, soFar_end (by assumption) (by omega)]
                  · exact ⟨by ((try dsimp only); first | done | (exact Nat.zero_le _)), by ((try dsimp only); first | done | (exact i1)), by ((try dsimp only); first | done | (rw [kwAt_eq (by assumption)]; exact s7 _ (List.mem_of_getElem? (by assumption))))⟩
                  rintro o e1 s1 ⟨a, lv1, M1, m42, ha, ⟨rfl, hx, rfl, rfl⟩, rfl, rfl⟩
                  obtain ⟨k, mM⟩ := a
                  obtain ⟨g0, g1, g2⟩ := ha
                  dsimp only at hx g0 g1 g2
                  dsimp only
                  try rw [if_pos rfl]
                  refine sk_regionL Try.cfgOk hS ?_
                  refine aE (v := .int .i64 (IntKind.wrap .i64 (((i : Nat) : Int) + 1))) (.int .i64 ((i + 1 : Nat) : Int)) (congrArg (Value.int .i64) (wrap_to (by omega) (by omega))) ?_
                  refine aN ?_
                  refine .inl ⟨(i + 1, mM), rfl, ⟨?_, ?_, ?_⟩, ?_, ⟨by kernel_rfl, ⟨by kernel_rfl, by kernel_rfl, by kernel_rfl, by kernel_rfl, by kernel_rfl, by kernel_rfl, trivial⟩, ⟨sub_clo rfl, sub_clo rfl, .map ⟨by decide, rfl⟩, sub_clo rfl, sub_clo rfl, sub_clo rfl, trivial⟩, Nat.le_of_ble_eq_true (by kernel_rfl), ⟨by kernel_rfl, (((wf_empty 0).new _).new _), (selfs (all_cons (o := .cells [.int .i64 x7.1, .bool x7.2.1, .int .i64 x7.2.2.1, inlL ccells 6 x7.2.2.2.1, inlL kcells 2 x7.2.2.2.2.1, inlL scells 3 x7.2.2.2.2.2.1, inlL kcells 2 x7.2.2.2.2.2.2.1, inlL wcells 4 x7.2.2.2.2.2.2.2]) (by kernel_rfl) (OSub.cells (.cons (sub_clo rfl) (.cons (sub_clo rfl) (.cons (sub_clo rfl) (.cons (sub_clo rfl) (.cons (sub_clo rfl) (.cons (sub_clo rfl) (.cons (sub_clo rfl) (.cons (sub_clo rfl) .nil))))))))) (all_cons (o := mapC kcells mM) (by kernel_rfl) (mapC_self kcells_clo) (all_none))))⟩, mem_all (by kernel_rfl)⟩⟩
                  · (try dsimp only); omega
                  · (try dsimp only); assumption
                  · (try dsimp only); exact val_step i2 (by assumption) (by assumption) (by assumption)
                  · dsimp only; omega
                · have c40 : ¬ ((1 ≤ x37.1 ∧ x37.1 ≤ 281474976710655) ∧ (x37.2.2.1 = 0 ∧ x37.2.2.2.1.length = 0 ∧ x37.2.2.2.2.1.length + x37.2.2.2.2.2.1.length + x37.2.2.2.2.2.2.1.length = 0) ∧ risW x37.2.2.2.2.2.2.2) := tf_f h39
                  clear h39
                  refine aN ?_
                  refine kT ?_
                  refine sk_seq ?_
                  refine kK Try.cfgOk hS ?_
                  refine sk_ret ?_
                  refine .inr ⟨_, _, (fun h => by cases h), .inr ⟨rfl, ?_, rfl, rfl⟩, ⟨by kernel_rfl, ⟨by kernel_rfl, trivial⟩, ⟨sub_clo rfl, trivial⟩, Nat.le_of_ble_eq_true (by kernel_rfl), ⟨by kernel_rfl, (((wf_empty 0).new _).new _), (selfs (all_cons (o := .cells [.int .i64 x7.1, .bool x7.2.1, .int .i64 x7.2.2.1, inlL ccells 6 x7.2.2.2.1, inlL kcells 2 x7.2.2.2.2.1, inlL scells 3 x7.2.2.2.2.2.1, inlL kcells 2 x7.2.2.2.2.2.2.1, inlL wcells 4 x7.2.2.2.2.2.2.2]) (by kernel_rfl) (OSub.cells (.cons (sub_clo rfl) (.cons (sub_clo rfl) (.cons (sub_clo rfl) (.cons (sub_clo rfl) (.cons (sub_clo rfl) (.cons (sub_clo rfl) (.cons (sub_clo rfl) (.cons (sub_clo rfl) .nil))))))))) (all_cons (o := mapC kcells mL) (by kernel_rfl) (mapC_self kcells_clo) (all_none))))⟩, mem_all (by kernel_rfl)⟩⟩
                  · trivial
              ·
                refine aN ?_
                refine kT ?_
                refine sk_seq ?_
                refine kK Try.cfgOk hS ?_
                refine sk_ret ?_
                refine .inr ⟨_, _, (fun h => by cases h), .inr ⟨rfl, ?_, rfl, rfl⟩, ⟨by kernel_rfl, ⟨by kernel_rfl, trivial⟩, ⟨sub_clo rfl, trivial⟩, Nat.le_of_ble_eq_true (by kernel_rfl), ⟨by kernel_rfl, (((wf_empty 0).new _).new _), (selfs (all_cons (o := .cells [.int .i64 x7.1, .bool x7.2.1, .int .i64 x7.2.2.1, inlL ccells 6 x7.2.2.2.1, inlL kcells 2 x7.2.2.2.2.1, inlL scells 3 x7.2.2.2.2.2.1, inlL kcells 2 x7.2.2.2.2.2.2.1, inlL wcells 4 x7.2.2.2.2.2.2.2]) (by kernel_rfl) (OSub.cells (.cons (sub_clo rfl) (.cons (sub_clo rfl) (.cons (sub_clo rfl) (.cons (sub_clo rfl) (.cons (sub_clo rfl) (.cons (sub_clo rfl) (.cons (sub_clo rfl) (.cons (sub_clo rfl) .nil))))))))) (all_cons (o := mapC kcells mL) (by kernel_rfl) (mapC_self kcells_clo) (all_none))))⟩, mem_all (by kernel_rfl)⟩⟩
                · trivial
            · have c36e : (decide ((((i : Nat) : Int) : Int) < ((l.length : Nat) : Int))) = false := Eq.trans (by kernel_rfl) h35
              clear h35
              have c36 : ¬ (((i : Nat) : Int) : Int) < ((l.length : Nat) : Int) := of_decide_eq_false c36e
              clear c36e
              refine al_nil ?_
              refine sk_seq ?_
              refine kF ?_
              refine sk_exit ?_
              dsimp only
              refine .inr ⟨_, _, (fun h => by cases h), .inl ⟨rfl, ?_, rfl, rfl⟩, ⟨by kernel_rfl, ⟨by kernel_rfl, by kernel_rfl, by kernel_rfl, by kernel_rfl, by kernel_rfl, by kernel_rfl, trivial⟩, ⟨sub_clo rfl, sub_clo rfl, .map ⟨by decide, rfl⟩, sub_clo rfl, sub_clo rfl, sub_clo rfl, trivial⟩, Nat.le_of_ble_eq_true (by kernel_rfl), ⟨by kernel_rfl, (((wf_empty 0).new _).new _), (selfs (all_cons (o := .cells [.int .i64 x7.1, .bool x7.2.1, .int .i64 x7.2.2.1, inlL ccells 6 x7.2.2.2.1, inlL kcells 2 x7.2.2.2.2.1, inlL scells 3 x7.2.2.2.2.2.1, inlL kcells 2 x7.2.2.2.2.2.2.1, inlL wcells 4 x7.2.2.2.2.2.2.2]) (by kernel_rfl) (OSub.cells (.cons (sub_clo rfl) (.cons (sub_clo rfl) (.cons (sub_clo rfl) (.cons (sub_clo rfl) (.cons (sub_clo rfl) (.cons (sub_clo rfl) (.cons (sub_clo rfl) (.cons (sub_clo rfl) .nil))))))))) (all_cons (o := mapC kcells mL) (by kernel_rfl) (mapC_self kcells_clo) (all_none))))⟩, mem_all (by kernel_rfl)⟩⟩
              · exact ⟨by rw [i1, soFar_all (by omega)], by rwa [List.take_of_length_le (by omega)] at i2⟩
          · exact ⟨by ((try dsimp only); first | done | (omega)), by ((try dsimp only); first | done | (rfl)), by ((try dsimp only); first | done | (exact fun r hr => by simp at hr))⟩
          rintro o e1 s1 ⟨a, lv1, M1, m34, ha, (⟨rfl, hx, rfl, rfl⟩ | ⟨rfl, hx, rfl, rfl⟩), rfl, rfl⟩
          ·
            obtain ⟨i, mL⟩ := a
            obtain ⟨i0, i1, i2⟩ := ha
            dsimp only at hx i0 i1 i2
            dsimp only
            try rw [if_pos rfl]
            refine sk_seq (sk_seq ?_)
            refine sk_regionL Try.cfgOk hS ?_
            refine aK 1 ?_
            refine aM (lenB Try.cfg (St.empty 0) 25 (inlL rcells 8 l)) (.int .i64 ((l.length : Nat) : Int)) (len_inl tokC (by kernel_rfl)) ?_
            refine aN ?_
            refine sk_block ?_
            refine sk_live 107 ((fun a : Nat => [(6, .map (some 1)), (87, inlL rcells 8 l), (88, .int .i64 ((l.length : Nat) : Int)), (89, .int .i64 ((a : Nat) : Int))]) 0) (by kernel_rfl) ⟨by kernel_rfl, by kernel_rfl, by kernel_rfl, by kernel_rfl, trivial⟩ fun m46 => ?_
            refine sk_st ((fun a : Nat => (((St.empty 0).new (.cells [.int .i64 x7.1, .bool x7.2.1, .int .i64 x7.2.2.1, inlL ccells 6 x7.2.2.2.1, inlL kcells 2 x7.2.2.2.2.1, inlL scells 3 x7.2.2.2.2.2.1, inlL kcells 2 x7.2.2.2.2.2.2.1, inlL wcells 4 x7.2.2.2.2.2.2.2])).new (mapC kcells mL))) 0) (by kernel_rfl) ?_
            refine (sk_while (k := 2) (N := 400) (live := (fun a : Nat => [(6, .map (some 1)), (87, inlL rcells 8 l), (88, .int .i64 ((l.length : Nat) : Int)), (89, .int .i64 ((a : Nat) : Int))])) (M := (fun a : Nat => (((St.empty 0).new (.cells [.int .i64 x7.1, .bool x7.2.1, .int .i64 x7.2.2.1, inlL ccells 6 x7.2.2.2.1, inlL kcells 2 x7.2.2.2.2.1, inlL scells 3 x7.2.2.2.2.2.1, inlL kcells 2 x7.2.2.2.2.2.2.1, inlL wcells 4 x7.2.2.2.2.2.2.2])).new (mapC kcells mL)))) (fun a : Nat => (a ≤ l.length) ∧ (mL = countC (keptKeys l)) ∧ (∀ r ∈ l, valR r)) (fun a : Nat => l.length - a) (fun (a : Nat) (o : Out) (lv : List (Nat × Value)) (M : St) => (o = .exit 4 ∧ (True) ∧ lv = [(6, .map (some 1)), (87, inlL rcells 8 l), (88, .int .i64 ((l.length : Nat) : Int)), (89, .int .i64 ((a : Nat) : Int))] ∧ M = (((St.empty 0).new (.cells [.int .i64 x7.1, .bool x7.2.1, .int .i64 x7.2.2.1, inlL ccells 6 x7.2.2.2.1, inlL kcells 2 x7.2.2.2.2.1, inlL scells 3 x7.2.2.2.2.2.1, inlL kcells 2 x7.2.2.2.2.2.2.1, inlL wcells 4 x7.2.2.2.2.2.2.2])).new (mapC kcells mL))) ∨ (o = .ret ∧ (False) ∧ lv = [(2, .bool false)] ∧ M = (((St.empty 0).new (.cells [.int .i64 x7.1, .bool x7.2.1, .int .i64 x7.2.2.1, inlL ccells 6 x7.2.2.2.1, inlL kcells 2 x7.2.2.2.2.1, inlL scells 3 x7.2.2.2.2.2.1, inlL kcells 2 x7.2.2.2.2.2.2.1, inlL wcells 4 x7.2.2.2.2.2.2.2])).new (mapC kcells mL)))) (Nat.zero_le _) (fun a ha => ?_) (fun a ha => ?_) (fun a m ha => ?_) (fun a m ha => ?_) 0 m46 ?_).up ?_
            · exact ⟨by kernel_rfl, (((wf_empty 0).new _).new _), (selfs (all_cons (o := .cells [.int .i64 x7.1, .bool x7.2.1, .int .i64 x7.2.2.1, inlL ccells 6 x7.2.2.2.1, inlL kcells 2 x7.2.2.2.2.1, inlL scells 3 x7.2.2.2.2.2.1, inlL kcells 2 x7.2.2.2.2.2.2.1, inlL wcells 4 x7.2.2.2.2.2.2.2]) (by kernel_rfl) (OSub.cells (.cons (sub_clo rfl) (.cons (sub_clo rfl) (.cons (sub_clo rfl) (.cons (sub_clo rfl) (.cons (sub_clo rfl) (.cons (sub_clo rfl) (.cons (sub_clo rfl) (.cons (sub_clo rfl) .nil))))))))) (all_cons (o := mapC kcells mL) (by kernel_rfl) (mapC_self kcells_clo) (all_none))))⟩
            · exact ⟨.map ⟨by decide, rfl⟩, sub_clo rfl, sub_clo rfl, sub_clo rfl, trivial⟩
            · exact ⟨by kernel_rfl, by kernel_rfl, by kernel_rfl, by kernel_rfl, trivial⟩
            · obtain ⟨i, ea⟩ : ∃ z, z = a := ⟨_, rfl⟩
              subst ea
              obtain ⟨e0, e1, e2⟩ := ha
              refine sk_seq ?_
              refine sk_regionL Try.cfgOk hS ?_
              refine aT (fun h47 => ?_) (fun h47 => ?_)
              · have c48e : (decide ((((i : Nat) : Int) : Int) < ((l.length : Nat) : Int))) = true := Eq.trans (by kernel_rfl) h47
                clear h47
                have c48 : (((i : Nat) : Int) : Int) < ((l.length : Nat) : Int) := of_decide_eq_true c48e
                clear c48e
                refine al_nil ?_
                refine sk_seq ?_
                refine kT ?_
                refine sk_skip (sk_seq (sk_block (sk_seq ?_)))
                refine sk_regionL Try.cfgOk hS ?_
                refine aM (indexAddrV Try.cfg 25 (inlL rcells 8 l) (.int .i64 ((i : Nat) : Int))) (elt (flatL rcells l) (i * 8)) (idx_inlL tokC (by kernel_rfl) (by first | omega | simp)) ?_
                have hx49l : i < l.length := by first | omega | (rw [kept_len]; omega)
                refine Exists.elim (get_ex hx49l) fun x49 hx49 => ?_
                clear hx49l
                refine aM (loadV Try.cfg (St.empty 0) 38 (elt (flatL rcells l) (i * 8))) (.agg #[.int .i64 x49.1, .bool x49.2.1, .int .i64 x49.2.2.1, inlL ccells 6 x49.2.2.2.1, inlL kcells 2 x49.2.2.2.2.1, inlL scells 3 x49.2.2.2.2.2.1, inlL kcells 2 x49.2.2.2.2.2.2.1, inlL wcells 4 x49.2.2.2.2.2.2.2]) (load_el tokC (by kernel_rfl) rcells_len hx49) ?_
                refine aN ?_
                refine sk_seq ?_
                refine sk_regionL Try.cfgOk hS ?_
                refine aK 2 ?_
                refine aM (lenB Try.cfg (St.empty 0) 36 (inlL wcells 4 x49.2.2.2.2.2.2.2)) (.int .i64 ((x49.2.2.2.2.2.2.2.length : Nat) : Int)) (len_inl tokC (by kernel_rfl)) ?_
                refine aN ?_
                refine sk_block ?_
                refine sk_live 107 ((fun a : Nat => [(6, .map (some 1)), (87, inlL rcells 8 l), (88, .int .i64 ((l.length : Nat) : Int)), (89, .int .i64 ((i : Nat) : Int)), (94, inlL wcells 4 x49.2.2.2.2.2.2.2), (95, .int .i64 ((x49.2.2.2.2.2.2.2.length : Nat) : Int)), (96, .int .i64 ((a : Nat) : Int))]) 0) (by kernel_rfl) ⟨by kernel_rfl, by kernel_rfl, by kernel_rfl, by kernel_rfl, by kernel_rfl, by kernel_rfl, by kernel_rfl, trivial⟩ fun m50 => ?_
                refine sk_st ((fun a : Nat => ((((St.empty 0).new (.cells [.int .i64 x7.1, .bool x7.2.1, .int .i64 x7.2.2.1, inlL ccells 6 x7.2.2.2.1, inlL kcells 2 x7.2.2.2.2.1, inlL scells 3 x7.2.2.2.2.2.1, inlL kcells 2 x7.2.2.2.2.2.2.1, inlL wcells 4 x7.2.2.2.2.2.2.2])).new (mapC kcells mL)).new (.cells [.int .i64 x49.1, .bool x49.2.1, .int .i64 x49.2.2.1, inlL ccells 6 x49.2.2.2.1, inlL kcells 2 x49.2.2.2.2.1, inlL scells 3 x49.2.2.2.2.2.1, inlL kcells 2 x49.2.2.2.2.2.2.1, inlL wcells 4 x49.2.2.2.2.2.2.2]))) 0) (by kernel_rfl) ?_
                refine (sk_while (k := 3) (N := 400) (live := (fun a : Nat => [(6, .map (some 1)), (87, inlL rcells 8 l), (88, .int .i64 ((l.length : Nat) : Int)), (89, .int .i64 ((i : Nat) : Int)), (94, inlL wcells 4 x49.2.2.2.2.2.2.2), (95, .int .i64 ((x49.2.2.2.2.2.2.2.length : Nat) : Int)), (96, .int .i64 ((a : Nat) : Int))])) (M := (fun a : Nat => ((((St.empty 0).new (.cells [.int .i64 x7.1, .bool x7.2.1, .int .i64 x7.2.2.1, inlL ccells 6 x7.2.2.2.1, inlL kcells 2 x7.2.2.2.2.1, inlL scells 3 x7.2.2.2.2.2.1, inlL kcells 2 x7.2.2.2.2.2.2.1, inlL wcells 4 x7.2.2.2.2.2.2.2])).new (mapC kcells mL)).new (.cells [.int .i64 x49.1, .bool x49.2.1, .int .i64 x49.2.2.1, inlL ccells 6 x49.2.2.2.1, inlL kcells 2 x49.2.2.2.2.1, inlL scells 3 x49.2.2.2.2.2.1, inlL kcells 2 x49.2.2.2.2.2.2.1, inlL wcells 4 x49.2.2.2.2.2.2.2])))) (fun a : Nat => (a ≤ (rwAt l i).length) ∧ ((rwAt l i).length ≤ 14)) (fun a : Nat => (rwAt l i).length - a) (fun (a : Nat) (o : Out) (lv : List (Nat × Value)) (M : St) => (o = .exit 6 ∧ (True) ∧ lv = [(6, .map (some 1)), (87, inlL rcells 8 l), (88, .int .i64 ((l.length : Nat) : Int)), (89, .int .i64 ((i : Nat) : Int)), (94, inlL wcells 4 x49.2.2.2.2.2.2.2), (95, .int .i64 ((x49.2.2.2.2.2.2.2.length : Nat) : Int)), (96, .int .i64 ((a : Nat) : Int))] ∧ M = ((((St.empty 0).new (.cells [.int .i64 x7.1, .bool x7.2.1, .int .i64 x7.2.2.1, inlL ccells 6 x7.2.2.2.1, inlL kcells 2 x7.2.2.2.2.1, inlL scells 3 x7.2.2.2.2.2.1, inlL kcells 2 x7.2.2.2.2.2.2.1, inlL wcells 4 x7.2.2.2.2.2.2.2])).new (mapC kcells mL)).new (.cells [.int .i64 x49.1, .bool x49.2.1, .int .i64 x49.2.2.1, inlL ccells 6 x49.2.2.2.1, inlL kcells 2 x49.2.2.2.2.1, inlL scells 3 x49.2.2.2.2.2.1, inlL kcells 2 x49.2.2.2.2.2.2.1, inlL wcells 4 x49.2.2.2.2.2.2.2]))) ∨ (o = .ret ∧ (False) ∧ lv = [(2, .bool false)] ∧ M = ((((St.empty 0).new (.cells [.int .i64 x7.1, .bool x7.2.1, .int .i64 x7.2.2.1, inlL ccells 6 x7.2.2.2.1, inlL kcells 2 x7.2.2.2.2.1, inlL scells 3 x7.2.2.2.2.2.1, inlL kcells 2 x7.2.2.2.2.2.2.1, inlL wcells 4 x7.2.2.2.2.2.2.2])).new (mapC kcells mL)).new (.cells [.int .i64 x49.1, .bool x49.2.1, .int .i64 x49.2.2.1, inlL ccells 6 x49.2.2.2.1, inlL kcells 2 x49.2.2.2.2.1, inlL scells 3 x49.2.2.2.2.2.1, inlL kcells 2 x49.2.2.2.2.2.2.1, inlL wcells 4 x49.2.2.2.2.2.2.2])))) (Nat.zero_le _) (fun a ha => ?_) (fun a ha => ?_) (fun a m ha => ?_) (fun a m ha => ?_) 0 m50 ?_).up ?_
                · exact ⟨by kernel_rfl, ((((wf_empty 0).new _).new _).new _), (selfs (all_cons (o := .cells [.int .i64 x7.1, .bool x7.2.1, .int .i64 x7.2.2.1, inlL ccells 6 x7.2.2.2.1, inlL kcells 2 x7.2.2.2.2.1, inlL scells 3 x7.2.2.2.2.2.1, inlL kcells 2 x7.2.2.2.2.2.2.1, inlL wcells 4 x7.2.2.2.2.2.2.2]) (by kernel_rfl) (OSub.cells (.cons (sub_clo rfl) (.cons (sub_clo rfl) (.cons (sub_clo rfl) (.cons (sub_clo rfl) (.cons (sub_clo rfl) (.cons (sub_clo rfl) (.cons (sub_clo rfl) (.cons (sub_clo rfl) .nil))))))))) (all_cons (o := mapC kcells mL) (by kernel_rfl) (mapC_self kcells_clo) (all_cons (o := .cells [.int .i64 x49.1, .bool x49.2.1, .int .i64 x49.2.2.1, inlL ccells 6 x49.2.2.2.1, inlL kcells 2 x49.2.2.2.2.1, inlL scells 3 x49.2.2.2.2.2.1, inlL kcells 2 x49.2.2.2.2.2.2.1, inlL wcells 4 x49.2.2.2.2.2.2.2]) (by kernel_rfl) (OSub.cells (.cons (sub_clo rfl) (.cons (sub_clo rfl) (.cons (sub_clo rfl) (.cons (sub_clo rfl) (.cons (sub_clo rfl) (.cons (sub_clo rfl) (.cons (sub_clo rfl) (.cons (sub_clo rfl) .nil))))))))) (all_none)))))⟩
                · exact ⟨.map ⟨by decide, rfl⟩, sub_clo rfl, sub_clo rfl, sub_clo rfl, sub_clo rfl, sub_clo rfl, sub_clo rfl, trivial⟩
                · exact ⟨by kernel_rfl, by kernel_rfl, by kernel_rfl, by kernel_rfl, by kernel_rfl, by kernel_rfl, by kernel_rfl, trivial⟩
                · obtain ⟨k, ea⟩ : ∃ z, z = a := ⟨_, rfl⟩
                  subst ea
                  obtain ⟨g0, g1⟩ := ha
                  refine sk_seq ?_
                  refine sk_regionL Try.cfgOk hS ?_
                  refine aT (fun h51 => ?_) (fun h51 => ?_)
                  · have c52e : (decide ((((k : Nat) : Int) : Int) < ((x49.2.2.2.2.2.2.2.length : Nat) : Int))) = true := Eq.trans (by kernel_rfl) h51
                    clear h51
                    have c52 : (((k : Nat) : Int) : Int) < ((x49.2.2.2.2.2.2.2.length : Nat) : Int) := of_decide_eq_true c52e
                    clear c52e
                    refine al_nil ?_
                    refine sk_seq ?_
                    refine kT ?_
                    refine sk_skip (sk_seq (sk_block (sk_seq ?_)))
                    refine sk_regionL Try.cfgOk hS ?_
                    refine aM (indexAddrV Try.cfg 36 (inlL wcells 4 x49.2.2.2.2.2.2.2) (.int .i64 ((k : Nat) : Int))) (elt (flatL wcells x49.2.2.2.2.2.2.2) (k * 4)) (idx_inlL tokC (by kernel_rfl) (by first | omega | simp)) ?_
                    have hx53l : k < x49.2.2.2.2.2.2.2.length := by first | omega | (rw [kept_len]; omega)
                    refine Exists.elim (get_ex hx53l) fun x53 hx53 => ?_
                    clear hx53l
                    refine aM (loadV Try.cfg (St.empty 0) 45 (elt (flatL wcells x49.2.2.2.2.2.2.2) (k * 4))) (.agg #[.int .i64 x53.1, .int .i64 x53.2.1, .int .i64 x53.2.2.1, .bool x53.2.2.2]) (load_el tokC (by kernel_rfl) wcells_len hx53) ?_
                    refine aN ?_
                    refine sk_seq ?_
                    refine sk_regionL Try.cfgOk hS ?_
                    refine aK 3 ?_
                    refine aM (lookupV Try.cfg (((((St.empty 0).new (.cells [.int .i64 x7.1, .bool x7.2.1, .int .i64 x7.2.2.1, inlL ccells 6 x7.2.2.2.1, inlL kcells 2 x7.2.2.2.2.1, inlL scells 3 x7.2.2.2.2.2.1, inlL kcells 2 x7.2.2.2.2.2.2.1, inlL wcells 4 x7.2.2.2.2.2.2.2])).new (mapC kcells mL)).new (.cells [.int .i64 x49.1, .bool x49.2.1, .int .i64 x49.2.2.1, inlL ccells 6 x49.2.2.2.1, inlL kcells 2 x49.2.2.2.2.1, inlL scells 3 x49.2.2.2.2.2.1, inlL kcells 2 x49.2.2.2.2.2.2.1, inlL wcells 4 x49.2.2.2.2.2.2.2])).new (.cells [.int .i64 x53.1, .int .i64 x53.2.1, .int .i64 x53.2.2.1, .bool x53.2.2.2])) 40 (.map (some 1)) (.agg #[.int .i64 x53.1, .int .i64 x53.2.1]) false) (.int .i64 ((getC mL (x53.1, x53.2.1) : Nat) : Int)) (look_C (kt := 43) (by kernel_rfl) kcells_hk (k := (x53.1, x53.2.1)) (by kernel_rfl) (by kernel_rfl)) ?_
                    refine aT (fun h54 => ?_) (fun h54 => ?_)
                    · have c55e : ((((getC mL (x53.1, x53.2.1) : Nat) : Int) : Int) != 1) = true := Eq.trans (by kernel_rfl) h54
                      clear h54
                      have c55 : ¬ (((getC mL (x53.1, x53.2.1) : Nat) : Int) : Int) = 1 := bne_iff_ne.1 c55e
                      clear c55e
                      refine al_nil ?_
                      refine kT ?_
                      refine sk_seq ?_
                      refine kK Try.cfgOk hS ?_
                      refine sk_ret ?_
                      refine .inr ⟨_, _, (fun h => by cases h), .inr ⟨rfl, ?_, rfl, rfl⟩, ⟨by kernel_rfl, ⟨by kernel_rfl, trivial⟩, ⟨sub_clo rfl, trivial⟩, Nat.le_of_ble_eq_true (by kernel_rfl), ⟨by kernel_rfl, ((((wf_empty 0).new _).new _).new _), (selfs (all_cons (o := .cells [.int .i64 x7.1, .bool x7.2.1, .int .i64 x7.2.2.1, inlL ccells 6 x7.2.2.2.1, inlL kcells 2 x7.2.2.2.2.1, inlL scells 3 x7.2.2.2.2.2.1, inlL kcells 2 x7.2.2.2.2.2.2.1, inlL wcells 4 x7.2.2.2.2.2.2.2]) (by kernel_rfl) (OSub.cells (.cons (sub_clo rfl) (.cons (sub_clo rfl) (.cons (sub_clo rfl) (.cons (sub_clo rfl) (.cons (sub_clo rfl) (.cons (sub_clo rfl) (.cons (sub_clo rfl) (.cons (sub_clo rfl) .nil))))))))) (all_cons (o := mapC kcells mL) (by kernel_rfl) (mapC_self kcells_clo) (all_cons (o := .cells [.int .i64 x49.1, .bool x49.2.1, .int .i64 x49.2.2.1, inlL ccells 6 x49.2.2.2.1, inlL kcells 2 x49.2.2.2.2.1, inlL scells 3 x49.2.2.2.2.2.1, inlL kcells 2 x49.2.2.2.2.2.2.1, inlL wcells 4 x49.2.2.2.2.2.2.2]) (by kernel_rfl) (OSub.cells (.cons (sub_clo rfl) (.cons (sub_clo rfl) (.cons (sub_clo rfl) (.cons (sub_clo rfl) (.cons (sub_clo rfl) (.cons (sub_clo rfl) (.cons (sub_clo rfl) (.cons (sub_clo rfl) .nil))))))))) (all_none)))))⟩, mem_all (by kernel_rfl)⟩⟩
                      · have q := fin_one e1 e2 (by assumption) (by assumption); omega
                    · have c55e : ((((getC mL (x53.1, x53.2.1) : Nat) : Int) : Int) != 1) = false := Eq.trans (by kernel_rfl) h54
                      clear h54
                      have c55 : (((getC mL (x53.1, x53.2.1) : Nat) : Int) : Int) = 1 := bne_eq_false_iff_eq.1 c55e
                      clear c55e
                      refine al_nil ?_
                      refine kF ?_
                      refine sk_skip ?_
                      refine sk_regionL Try.cfgOk hS ?_
                      refine aE (v := .int .i64 (IntKind.wrap .i64 (((k : Nat) : Int) + 1))) (.int .i64 ((k + 1 : Nat) : Int)) (congrArg (Value.int .i64) (wrap_to (by omega) (by omega))) ?_
                      refine aN ?_
                      refine .inl ⟨k + 1, rfl, ⟨?_, ?_⟩, ?_, ⟨by kernel_rfl, ⟨by kernel_rfl, by kernel_rfl, by kernel_rfl, by kernel_rfl, by kernel_rfl, by kernel_rfl, by kernel_rfl, trivial⟩, ⟨.map ⟨by decide, rfl⟩, sub_clo rfl, sub_clo rfl, sub_clo rfl, sub_clo rfl, sub_clo rfl, sub_clo rfl, trivial⟩, Nat.le_of_ble_eq_true (by kernel_rfl), ⟨by kernel_rfl, ((((wf_empty 0).new _).new _).new _), (selfs (all_cons (o := .cells [.int .i64 x7.1, .bool x7.2.1, .int .i64 x7.2.2.1, inlL ccells 6 x7.2.2.2.1, inlL kcells 2 x7.2.2.2.2.1, inlL scells 3 x7.2.2.2.2.2.1, inlL kcells 2 x7.2.2.2.2.2.2.1, inlL wcells 4 x7.2.2.2.2.2.2.2]) (by kernel_rfl) (OSub.cells (.cons (sub_clo rfl) (.cons (sub_clo rfl) (.cons (sub_clo rfl) (.cons (sub_clo rfl) (.cons (sub_clo rfl) (.cons (sub_clo rfl) (.cons (sub_clo rfl) (.cons (sub_clo rfl) .nil))))))))) (all_cons (o := mapC kcells mL) (by kernel_rfl) (mapC_self kcells_clo) (all_cons (o := .cells [.int .i64 x49.1, .bool x49.2.1, .int .i64 x49.2.2.1, inlL ccells 6 x49.2.2.2.1, inlL kcells 2 x49.2.2.2.2.1, inlL scells 3 x49.2.2.2.2.2.1, inlL kcells 2 x49.2.2.2.2.2.2.1, inlL wcells 4 x49.2.2.2.2.2.2.2]) (by kernel_rfl) (OSub.cells (.cons (sub_clo rfl) (.cons (sub_clo rfl) (.cons (sub_clo rfl) (.cons (sub_clo rfl) (.cons (sub_clo rfl) (.cons (sub_clo rfl) (.cons (sub_clo rfl) (.cons (sub_clo rfl) .nil))))))))) (all_none)))))⟩, mem_all (by kernel_rfl)⟩⟩
                      · (try dsimp only); rw [rwAt_eq (by assumption)]; omega
                      · (try dsimp only); assumption
                      · first | (rw [rwAt_eq (by assumption)]; omega) | (dsimp only; rw [rwAt_eq (by assumption)]; omega)
                  · have c52e : (decide ((((k : Nat) : Int) : Int) < ((x49.2.2.2.2.2.2.2.length : Nat) : Int))) = false := Eq.trans (by kernel_rfl) h51
                    clear h51
                    have c52 : ¬ (((k : Nat) : Int) : Int) < ((x49.2.2.2.2.2.2.2.length : Nat) : Int) := of_decide_eq_false c52e
                    clear c52e
                    refine al_nil ?_
                    refine sk_seq ?_
                    refine kF ?_
                    refine sk_exit ?_
                    dsimp only
                    refine .inr ⟨_, _, (fun h => by cases h), .inl ⟨rfl, ?_, rfl, rfl⟩, ⟨by kernel_rfl, ⟨by kernel_rfl, by kernel_rfl, by kernel_rfl, by kernel_rfl, by kernel_rfl, by kernel_rfl, by kernel_rfl, trivial⟩, ⟨.map ⟨by decide, rfl⟩, sub_clo rfl, sub_clo rfl, sub_clo rfl, sub_clo rfl, sub_clo rfl, sub_clo rfl, trivial⟩, Nat.le_of_ble_eq_true (by kernel_rfl), ⟨by kernel_rfl, ((((wf_empty 0).new _).new _).new _), (selfs (all_cons (o := .cells [.int .i64 x7.1, .bool x7.2.1, .int .i64 x7.2.2.1, inlL ccells 6 x7.2.2.2.1, inlL kcells 2 x7.2.2.2.2.1, inlL scells 3 x7.2.2.2.2.2.1, inlL kcells 2 x7.2.2.2.2.2.2.1, inlL wcells 4 x7.2.2.2.2.2.2.2]) (by kernel_rfl) (OSub.cells (.cons (sub_clo rfl) (.cons (sub_clo rfl) (.cons (sub_clo rfl) (.cons (sub_clo rfl) (.cons (sub_clo rfl) (.cons (sub_clo rfl) (.cons (sub_clo rfl) (.cons (sub_clo rfl) .nil))))))))) (all_cons (o := mapC kcells mL) (by kernel_rfl) (mapC_self kcells_clo) (all_cons (o := .cells [.int .i64 x49.1, .bool x49.2.1, .int .i64 x49.2.2.1, inlL ccells 6 x49.2.2.2.1, inlL kcells 2 x49.2.2.2.2.1, inlL scells 3 x49.2.2.2.2.2.1, inlL kcells 2 x49.2.2.2.2.2.2.1, inlL wcells 4 x49.2.2.2.2.2.2.2]) (by kernel_rfl) (OSub.cells (.cons (sub_clo rfl) (.cons (sub_clo rfl) (.cons (sub_clo rfl) (.cons (sub_clo rfl) (.cons (sub_clo rfl) (.cons (sub_clo rfl) (.cons (sub_clo rfl) (.cons (sub_clo rfl) .nil))))))))) (all_none)))))⟩, mem_all (by kernel_rfl)⟩⟩
                    · trivial
                · exact ⟨by ((try dsimp only); first | done | (exact Nat.zero_le _)), by ((try dsimp only); first | done | (rw [rwAt_eq (by assumption)]; exact (s6 _ (List.mem_of_getElem? (by assumption))).2))⟩
                rintro o e1 s1 ⟨a, lv1, M1, m50, ha, (⟨rfl, hx, rfl, rfl⟩ | ⟨rfl, hx, rfl, rfl⟩), rfl, rfl⟩
                ·
                  obtain ⟨k, ea⟩ : ∃ z, z = a := ⟨_, rfl⟩
                  subst ea
                  obtain ⟨g0, g1⟩ := ha
                  dsimp only
                  try rw [if_pos rfl]
                  refine sk_regionL Try.cfgOk hS ?_
                  refine aE (v := .int .i64 (IntKind.wrap .i64 (((i : Nat) : Int) + 1))) (.int .i64 ((i + 1 : Nat) : Int)) (congrArg (Value.int .i64) (wrap_to (by omega) (by omega))) ?_
                  refine aN ?_
                  refine .inl ⟨i + 1, rfl, ⟨?_, ?_, ?_⟩, ?_, ⟨by kernel_rfl, ⟨by kernel_rfl, by kernel_rfl, by kernel_rfl, by kernel_rfl, trivial⟩, ⟨.map ⟨by decide, rfl⟩, sub_clo rfl, sub_clo rfl, sub_clo rfl, trivial⟩, Nat.le_of_ble_eq_true (by kernel_rfl), ⟨by kernel_rfl, (((wf_empty 0).new _).new _), (selfs (all_cons (o := .cells [.int .i64 x7.1, .bool x7.2.1, .int .i64 x7.2.2.1, inlL ccells 6 x7.2.2.2.1, inlL kcells 2 x7.2.2.2.2.1, inlL scells 3 x7.2.2.2.2.2.1, inlL kcells 2 x7.2.2.2.2.2.2.1, inlL wcells 4 x7.2.2.2.2.2.2.2]) (by kernel_rfl) (OSub.cells (.cons (sub_clo rfl) (.cons (sub_clo rfl) (.cons (sub_clo rfl) (.cons (sub_clo rfl) (.cons (sub_clo rfl) (.cons (sub_clo rfl) (.cons (sub_clo rfl) (.cons (sub_clo rfl) .nil))))))))) (all_cons (o := mapC kcells mL) (by kernel_rfl) (mapC_self kcells_clo) (all_none))))⟩, mem_all (by kernel_rfl)⟩⟩
                  · (try dsimp only); omega
                  · (try dsimp only); assumption
                  · (try dsimp only); assumption
                  · omega
                · exact hx.elim
              · have c48e : (decide ((((i : Nat) : Int) : Int) < ((l.length : Nat) : Int))) = false := Eq.trans (by kernel_rfl) h47
                clear h47
                have c48 : ¬ (((i : Nat) : Int) : Int) < ((l.length : Nat) : Int) := of_decide_eq_false c48e
                clear c48e
                refine al_nil ?_
                refine sk_seq ?_
                refine kF ?_
                refine sk_exit ?_
                dsimp only
                refine .inr ⟨_, _, (fun h => by cases h), .inl ⟨rfl, ?_, rfl, rfl⟩, ⟨by kernel_rfl, ⟨by kernel_rfl, by kernel_rfl, by kernel_rfl, by kernel_rfl, trivial⟩, ⟨.map ⟨by decide, rfl⟩, sub_clo rfl, sub_clo rfl, sub_clo rfl, trivial⟩, Nat.le_of_ble_eq_true (by kernel_rfl), ⟨by kernel_rfl, (((wf_empty 0).new _).new _), (selfs (all_cons (o := .cells [.int .i64 x7.1, .bool x7.2.1, .int .i64 x7.2.2.1, inlL ccells 6 x7.2.2.2.1, inlL kcells 2 x7.2.2.2.2.1, inlL scells 3 x7.2.2.2.2.2.1, inlL kcells 2 x7.2.2.2.2.2.2.1, inlL wcells 4 x7.2.2.2.2.2.2.2]) (by kernel_rfl) (OSub.cells (.cons (sub_clo rfl) (.cons (sub_clo rfl) (.cons (sub_clo rfl) (.cons (sub_clo rfl) (.cons (sub_clo rfl) (.cons (sub_clo rfl) (.cons (sub_clo rfl) (.cons (sub_clo rfl) .nil))))))))) (all_cons (o := mapC kcells mL) (by kernel_rfl) (mapC_self kcells_clo) (all_none))))⟩, mem_all (by kernel_rfl)⟩⟩
                · trivial
            · exact ⟨by ((try dsimp only); first | done | (omega)), by ((try dsimp only); first | done | (exact hx.1)), by ((try dsimp only); first | done | (exact hx.2))⟩
            rintro o e1 s1 ⟨a, lv1, M1, m46, ha, (⟨rfl, hx, rfl, rfl⟩ | ⟨rfl, hx, rfl, rfl⟩), rfl, rfl⟩
            ·
              obtain ⟨i, ea⟩ : ∃ z, z = a := ⟨_, rfl⟩
              subst ea
              obtain ⟨e0, e1, e2⟩ := ha
              dsimp only
              try rw [if_pos rfl]
              refine sk_seq ?_
              refine kK Try.cfgOk hS ?_
              refine sk_ret ?_
              exact ⟨[.bool true], by kernel_rfl, .same (sub_clo rfl), Nat.le_of_ble_eq_true (by kernel_rfl)⟩
            · exact hx.elim
          ·
            obtain ⟨i, mL⟩ := a
            obtain ⟨i0, i1, i2⟩ := ha
            dsimp only at hx i0 i1 i2
            dsimp only
            exact ⟨[.bool true], by kernel_rfl, .same (sub_clo rfl), Nat.le_of_ble_eq_true (by kernel_rfl)⟩
end Go.Proofs.Ytfpkfcdeoiofiaa