/- The document: words, fields, figures, lines. -/
import Derived.Test.YtgplkbfjlidinaaDoorCode
import Derived.Test.YtgplkbfjlidinaaDoorAiComp
set_option linter.unusedVariables false
set_option linter.unusedSimpArgs false
set_option linter.unnecessarySimpa false
namespace Go.Proofs.YtgplkbfjlidinaaDoor
open Go.Ai
theorem shp_at2 {op k : Int} {l : List UInt8} (h : op = k) (e : shp k = l) : l = shp op := by subst h; rw [e]
theorem shp_arith {op : Int} (h : 2 ≤ op ∧ op ≤ 6) : [97, 98, 99] = shp op := by
  rcases (by omega : op = 2 ∨ op = 3 ∨ op = 4 ∨ op = 5 ∨ op = 6) with rfl | rfl | rfl | rfl | rfl <;> rfl
theorem rshape_fn : Tryd.cfg.fn 20 = some Tryd.f20 := by kernel_rfl
set_option maxHeartbeats 4000000 in
set_option maxRecDepth 100000 in
theorem rshape_sc (op : Int)  : SC Tryd.prog 1001 20 [.int .i64 op] (St.empty 0) fun v s' => v = .string (bstr (shp op)) ∧ s'.n ≤ 400 := by
  have hS := sound_run Tryd.cfgOk 300
  refine sc_ice0 (N := 400) (v2 := .string (bstr (shp op))) (Q := fun v s' => FS 0 s' v (.string (bstr (shp op))) ∧ s'.n ≤ 400) ?_ (fun _ _ h => h)
  refine sc_body Tryd.cfgOk rshape_fn rfl ?_
  refine sk_seq ?_
  refine kK Tryd.cfgOk hS ?_
  refine sk_seq (sk_seq ?_)
  refine sk_regionL Tryd.cfgOk hS ?_
  refine aK 1 ?_
  refine aT (fun h1 => ?_) (fun h1 => ?_)
  · have c2e : ((op : Int) == 0) = true := Eq.trans (by kernel_rfl) h1
    clear h1
    have c2 : (op : Int) = 0 := eq_of_beq c2e
    clear c2e
    refine al_nil ?_
    refine kT ?_
    refine sk_seq ?_
    refine kK Tryd.cfgOk hS ?_
    refine sk_ret ?_
    exact ⟨[.string (bstr [97, 110])], by kernel_rfl, fs_to (fs_clo rfl) (congrArg Value.string (by first | exact congrArg bstr (shp_arith (by omega)) | (refine congrArg bstr (shp_at2 (k := _) (by assumption) ?_); rfl) | (rw [shp_none (by omega)]))), Nat.le_of_ble_eq_true (by kernel_rfl)⟩
  · have c2e : ((op : Int) == 0) = false := Eq.trans (by kernel_rfl) h1
    clear h1
    have c2 : ¬ (op : Int) = 0 := ne_of_beq_false c2e
    clear c2e
    refine al_nil ?_
    refine kF ?_
    refine sk_skip (sk_seq (sk_seq ?_))
    refine sk_regionL Tryd.cfgOk hS ?_
    refine aK 1 ?_
    refine aT (fun h3 => ?_) (fun h3 => ?_)
    · have c4e : ((op : Int) == 1) = true := Eq.trans (by kernel_rfl) h3
      clear h3
      have c4 : (op : Int) = 1 := eq_of_beq c4e
      clear c4e
      refine al_nil ?_
      refine kT ?_
      refine sk_seq ?_
      refine kK Tryd.cfgOk hS ?_
      refine sk_ret ?_
      exact ⟨[.string (bstr [97, 98])], by kernel_rfl, fs_to (fs_clo rfl) (congrArg Value.string (by first | exact congrArg bstr (shp_arith (by omega)) | (refine congrArg bstr (shp_at2 (k := _) (by assumption) ?_); rfl) | (rw [shp_none (by omega)]))), Nat.le_of_ble_eq_true (by kernel_rfl)⟩
    · have c4e : ((op : Int) == 1) = false := Eq.trans (by kernel_rfl) h3
      clear h3
      have c4 : ¬ (op : Int) = 1 := ne_of_beq_false c4e
      clear c4e
      refine al_nil ?_
      refine kF ?_
      refine sk_skip (sk_seq (sk_seq ?_))
      refine sk_regionL Tryd.cfgOk hS ?_
      refine aK 1 ?_
      refine aT (fun h5 => ?_) (fun h5 => ?_)
      · have c6e : (decide ((op : Int) ≥ 2)) = true := Eq.trans (by kernel_rfl) h5
        clear h5
        have c6 : (op : Int) ≥ 2 := of_decide_eq_true c6e
        clear c6e
        refine aK 2 ?_
        refine aT (fun h7 => ?_) (fun h7 => ?_)
        · have c8e : (decide ((op : Int) ≤ 6)) = true := Eq.trans (by kernel_rfl) h7
          clear h7
          have c8 : (op : Int) ≤ 6 := of_decide_eq_true c8e
          clear c8e
          refine aN ?_
          refine kT ?_
          refine sk_seq ?_
          refine kK Tryd.cfgOk hS ?_
          refine sk_ret ?_
          exact ⟨[.string (bstr [97, 98, 99])], by kernel_rfl, fs_to (fs_clo rfl) (congrArg Value.string (by first | exact congrArg bstr (shp_arith (by omega)) | (refine congrArg bstr (shp_at2 (k := _) (by assumption) ?_); rfl) | (rw [shp_none (by omega)]))), Nat.le_of_ble_eq_true (by kernel_rfl)⟩
        · have c8e : (decide ((op : Int) ≤ 6)) = false := Eq.trans (by kernel_rfl) h7
          clear h7
          have c8 : ¬ (op : Int) ≤ 6 := of_decide_eq_false c8e
          clear c8e
          refine aN ?_
          refine kF ?_
          refine sk_skip (sk_seq (sk_seq ?_))
          refine sk_regionL Tryd.cfgOk hS ?_
          refine aK 1 ?_
          refine aT (fun h9 => ?_) (fun h9 => ?_)
          · have c10e : ((op : Int) == 7) = true := Eq.trans (by kernel_rfl) h9
            clear h9
            have c10 : (op : Int) = 7 := eq_of_beq c10e
            clear c10e
            refine aN ?_
            refine kT ?_
            refine sk_seq ?_
            refine kK Tryd.cfgOk hS ?_
            refine sk_ret ?_
            exact ⟨[.string (bstr [97, 116, 98])], by kernel_rfl, fs_to (fs_clo rfl) (congrArg Value.string (by first | exact congrArg bstr (shp_arith (by omega)) | (refine congrArg bstr (shp_at2 (k := _) (by assumption) ?_); rfl) | (rw [shp_none (by omega)]))), Nat.le_of_ble_eq_true (by kernel_rfl)⟩
          · have c10e : ((op : Int) == 7) = false := Eq.trans (by kernel_rfl) h9
            clear h9
            have c10 : ¬ (op : Int) = 7 := ne_of_beq_false c10e
            clear c10e
            refine aK 2 ?_
            refine aT (fun h11 => ?_) (fun h11 => ?_)
            · have c12e : ((op : Int) == 8) = true := Eq.trans (by kernel_rfl) h11
              clear h11
              have c12 : (op : Int) = 8 := eq_of_beq c12e
              clear c12e
              refine aN ?_
              refine kT ?_
              refine sk_seq ?_
              refine kK Tryd.cfgOk hS ?_
              refine sk_ret ?_
              exact ⟨[.string (bstr [97, 116, 98])], by kernel_rfl, fs_to (fs_clo rfl) (congrArg Value.string (by first | exact congrArg bstr (shp_arith (by omega)) | (refine congrArg bstr (shp_at2 (k := _) (by assumption) ?_); rfl) | (rw [shp_none (by omega)]))), Nat.le_of_ble_eq_true (by kernel_rfl)⟩
            · have c12e : ((op : Int) == 8) = false := Eq.trans (by kernel_rfl) h11
              clear h11
              have c12 : ¬ (op : Int) = 8 := ne_of_beq_false c12e
              clear c12e
              refine aN ?_
              refine kF ?_
              refine sk_skip (sk_seq (sk_seq ?_))
              refine sk_regionL Tryd.cfgOk hS ?_
              refine aK 1 ?_
              refine aT (fun h13 => ?_) (fun h13 => ?_)
              · have c14e : ((op : Int) == 9) = true := Eq.trans (by kernel_rfl) h13
                clear h13
                have c14 : (op : Int) = 9 := eq_of_beq c14e
                clear c14e
                refine al_nil ?_
                refine kT ?_
                refine sk_seq ?_
                refine kK Tryd.cfgOk hS ?_
                refine sk_ret ?_
                exact ⟨[.string (bstr [116, 98, 97])], by kernel_rfl, fs_to (fs_clo rfl) (congrArg Value.string (by first | exact congrArg bstr (shp_arith (by omega)) | (refine congrArg bstr (shp_at2 (k := _) (by assumption) ?_); rfl) | (rw [shp_none (by omega)]))), Nat.le_of_ble_eq_true (by kernel_rfl)⟩
              · have c14e : ((op : Int) == 9) = false := Eq.trans (by kernel_rfl) h13
                clear h13
                have c14 : ¬ (op : Int) = 9 := ne_of_beq_false c14e
                clear c14e
                refine al_nil ?_
                refine kF ?_
                refine sk_skip (sk_seq (sk_seq ?_))
                refine sk_regionL Tryd.cfgOk hS ?_
                refine aK 1 ?_
                refine aT (fun h15 => ?_) (fun h15 => ?_)
                · have c16e : ((op : Int) == 10) = true := Eq.trans (by kernel_rfl) h15
                  clear h15
                  have c16 : (op : Int) = 10 := eq_of_beq c16e
                  clear c16e
                  refine al_nil ?_
                  refine kT ?_
                  refine sk_seq ?_
                  refine kK Tryd.cfgOk hS ?_
                  refine sk_ret ?_
                  exact ⟨[.string (bstr [116, 98])], by kernel_rfl, fs_to (fs_clo rfl) (congrArg Value.string (by first | exact congrArg bstr (shp_arith (by omega)) | (refine congrArg bstr (shp_at2 (k := _) (by assumption) ?_); rfl) | (rw [shp_none (by omega)]))), Nat.le_of_ble_eq_true (by kernel_rfl)⟩
                · have c16e : ((op : Int) == 10) = false := Eq.trans (by kernel_rfl) h15
                  clear h15
                  have c16 : ¬ (op : Int) = 10 := ne_of_beq_false c16e
                  clear c16e
                  refine al_nil ?_
                  refine kF ?_
                  refine sk_skip (sk_seq (sk_seq ?_))
                  refine sk_regionL Tryd.cfgOk hS ?_
                  refine aK 1 ?_
                  refine aT (fun h17 => ?_) (fun h17 => ?_)
                  · have c18e : ((op : Int) == 11) = true := Eq.trans (by kernel_rfl) h17
                    clear h17
                    have c18 : (op : Int) = 11 := eq_of_beq c18e
                    clear c18e
                    refine aN ?_
                    refine kT ?_
                    refine sk_seq ?_
                    refine kK Tryd.cfgOk hS ?_
                    refine sk_ret ?_
                    exact ⟨[.string (bstr [97, 116, 98, 99, 107])], by kernel_rfl, fs_to (fs_clo rfl) (congrArg Value.string (by first | exact congrArg bstr (shp_arith (by omega)) | (refine congrArg bstr (shp_at2 (k := _) (by assumption) ?_); rfl) | (rw [shp_none (by omega)]))), Nat.le_of_ble_eq_true (by kernel_rfl)⟩
                  · have c18e : ((op : Int) == 11) = false := Eq.trans (by kernel_rfl) h17
                    clear h17
                    have c18 : ¬ (op : Int) = 11 := ne_of_beq_false c18e
                    clear c18e
                    refine aK 2 ?_
                    refine aT (fun h19 => ?_) (fun h19 => ?_)
                    · have c20e : ((op : Int) == 12) = true := Eq.trans (by kernel_rfl) h19
                      clear h19
                      have c20 : (op : Int) = 12 := eq_of_beq c20e
                      clear c20e
                      refine aN ?_
                      refine kT ?_
                      refine sk_seq ?_
                      refine kK Tryd.cfgOk hS ?_
                      refine sk_ret ?_
                      exact ⟨[.string (bstr [97, 116, 98, 99, 107])], by kernel_rfl, fs_to (fs_clo rfl) (congrArg Value.string (by first | exact congrArg bstr (shp_arith (by omega)) | (refine congrArg bstr (shp_at2 (k := _) (by assumption) ?_); rfl) | (rw [shp_none (by omega)]))), Nat.le_of_ble_eq_true (by kernel_rfl)⟩
                    · have c20e : ((op : Int) == 12) = false := Eq.trans (by kernel_rfl) h19
                      clear h19
                      have c20 : ¬ (op : Int) = 12 := ne_of_beq_false c20e
                      clear c20e
                      refine aN ?_
                      refine kF ?_
                      refine sk_skip (sk_seq (sk_seq ?_))
                      refine sk_regionL Tryd.cfgOk hS ?_
                      refine aK 1 ?_
                      refine aT (fun h21 => ?_) (fun h21 => ?_)
                      · have c22e : ((op : Int) == 13) = true := Eq.trans (by kernel_rfl) h21
                        clear h21
                        have c22 : (op : Int) = 13 := eq_of_beq c22e
                        clear c22e
                        refine al_nil ?_
                        refine kT ?_
                        refine sk_seq ?_
                        refine kK Tryd.cfgOk hS ?_
                        refine sk_ret ?_
                        exact ⟨[.string (bstr [115, 98, 106, 99])], by kernel_rfl, fs_to (fs_clo rfl) (congrArg Value.string (by first | exact congrArg bstr (shp_arith (by omega)) | (refine congrArg bstr (shp_at2 (k := _) (by assumption) ?_); rfl) | (rw [shp_none (by omega)]))), Nat.le_of_ble_eq_true (by kernel_rfl)⟩
                      · have c22e : ((op : Int) == 13) = false := Eq.trans (by kernel_rfl) h21
                        clear h21
                        have c22 : ¬ (op : Int) = 13 := ne_of_beq_false c22e
                        clear c22e
                        refine al_nil ?_
                        refine kF ?_
                        refine sk_skip (sk_seq (sk_seq ?_))
                        refine sk_regionL Tryd.cfgOk hS ?_
                        refine aK 1 ?_
                        refine aT (fun h23 => ?_) (fun h23 => ?_)
                        · have c24e : ((op : Int) == 14) = true := Eq.trans (by kernel_rfl) h23
                          clear h23
                          have c24 : (op : Int) = 14 := eq_of_beq c24e
                          clear c24e
                          refine al_nil ?_
                          refine kT ?_
                          refine sk_seq ?_
                          refine kK Tryd.cfgOk hS ?_
                          refine sk_ret ?_
                          exact ⟨[.string (bstr [98, 106, 99])], by kernel_rfl, fs_to (fs_clo rfl) (congrArg Value.string (by first | exact congrArg bstr (shp_arith (by omega)) | (refine congrArg bstr (shp_at2 (k := _) (by assumption) ?_); rfl) | (rw [shp_none (by omega)]))), Nat.le_of_ble_eq_true (by kernel_rfl)⟩
                        · have c24e : ((op : Int) == 14) = false := Eq.trans (by kernel_rfl) h23
                          clear h23
                          have c24 : ¬ (op : Int) = 14 := ne_of_beq_false c24e
                          clear c24e
                          refine al_nil ?_
                          refine kF ?_
                          refine sk_skip (sk_seq (sk_seq ?_))
                          refine sk_regionL Tryd.cfgOk hS ?_
                          refine aK 1 ?_
                          refine aT (fun h25 => ?_) (fun h25 => ?_)
                          · have c26e : ((op : Int) == 15) = true := Eq.trans (by kernel_rfl) h25
                            clear h25
                            have c26 : (op : Int) = 15 := eq_of_beq c26e
                            clear c26e
                            refine al_nil ?_
                            refine kT ?_
                            refine sk_seq ?_
                            refine kK Tryd.cfgOk hS ?_
                            refine sk_ret ?_
                            exact ⟨[.string (bstr [97])], by kernel_rfl, fs_to (fs_clo rfl) (congrArg Value.string (by first | exact congrArg bstr (shp_arith (by omega)) | (refine congrArg bstr (shp_at2 (k := _) (by assumption) ?_); rfl) | (rw [shp_none (by omega)]))), Nat.le_of_ble_eq_true (by kernel_rfl)⟩
                          · have c26e : ((op : Int) == 15) = false := Eq.trans (by kernel_rfl) h25
                            clear h25
                            have c26 : ¬ (op : Int) = 15 := ne_of_beq_false c26e
                            clear c26e
                            refine al_nil ?_
                            refine kF ?_
                            refine sk_skip (sk_seq ?_)
                            refine kK Tryd.cfgOk hS ?_
                            refine sk_ret ?_
                            exact ⟨[.string (bstr [])], by kernel_rfl, fs_to (fs_clo rfl) (congrArg Value.string (by first | exact congrArg bstr (shp_arith (by omega)) | (refine congrArg bstr (shp_at2 (k := _) (by assumption) ?_); rfl) | (rw [shp_none (by omega)]))), Nat.le_of_ble_eq_true (by kernel_rfl)⟩
      · have c6e : (decide ((op : Int) ≥ 2)) = false := Eq.trans (by kernel_rfl) h5
        clear h5
        have c6 : ¬ (op : Int) ≥ 2 := of_decide_eq_false c6e
        clear c6e
        refine aN ?_
        refine kF ?_
        refine sk_skip (sk_seq (sk_seq ?_))
        refine sk_regionL Tryd.cfgOk hS ?_
        refine aK 1 ?_
        refine aT (fun h27 => ?_) (fun h27 => ?_)
        · have c28e : ((op : Int) == 7) = true := Eq.trans (by kernel_rfl) h27
          clear h27
          have c28 : (op : Int) = 7 := eq_of_beq c28e
          clear c28e
          refine aN ?_
          refine kT ?_
          refine sk_seq ?_
          refine kK Tryd.cfgOk hS ?_
          refine sk_ret ?_
          exact ⟨[.string (bstr [97, 116, 98])], by kernel_rfl, fs_to (fs_clo rfl) (congrArg Value.string (by first | exact congrArg bstr (shp_arith (by omega)) | (refine congrArg bstr (shp_at2 (k := _) (by assumption) ?_); rfl) | (rw [shp_none (by omega)]))), Nat.le_of_ble_eq_true (by kernel_rfl)⟩
        · have c28e : ((op : Int) == 7) = false := Eq.trans (by kernel_rfl) h27
          clear h27
          have c28 : ¬ (op : Int) = 7 := ne_of_beq_false c28e
          clear c28e
          refine aK 2 ?_
          refine aT (fun h29 => ?_) (fun h29 => ?_)
          · have c30e : ((op : Int) == 8) = true := Eq.trans (by kernel_rfl) h29
            clear h29
            have c30 : (op : Int) = 8 := eq_of_beq c30e
            clear c30e
            refine aN ?_
            refine kT ?_
            refine sk_seq ?_
            refine kK Tryd.cfgOk hS ?_
            refine sk_ret ?_
            exact ⟨[.string (bstr [97, 116, 98])], by kernel_rfl, fs_to (fs_clo rfl) (congrArg Value.string (by first | exact congrArg bstr (shp_arith (by omega)) | (refine congrArg bstr (shp_at2 (k := _) (by assumption) ?_); rfl) | (rw [shp_none (by omega)]))), Nat.le_of_ble_eq_true (by kernel_rfl)⟩
          · have c30e : ((op : Int) == 8) = false := Eq.trans (by kernel_rfl) h29
            clear h29
            have c30 : ¬ (op : Int) = 8 := ne_of_beq_false c30e
            clear c30e
            refine aN ?_
            refine kF ?_
            refine sk_skip (sk_seq (sk_seq ?_))
            refine sk_regionL Tryd.cfgOk hS ?_
            refine aK 1 ?_
            refine aT (fun h31 => ?_) (fun h31 => ?_)
            · have c32e : ((op : Int) == 9) = true := Eq.trans (by kernel_rfl) h31
              clear h31
              have c32 : (op : Int) = 9 := eq_of_beq c32e
              clear c32e
              refine al_nil ?_
              refine kT ?_
              refine sk_seq ?_
              refine kK Tryd.cfgOk hS ?_
              refine sk_ret ?_
              exact ⟨[.string (bstr [116, 98, 97])], by kernel_rfl, fs_to (fs_clo rfl) (congrArg Value.string (by first | exact congrArg bstr (shp_arith (by omega)) | (refine congrArg bstr (shp_at2 (k := _) (by assumption) ?_); rfl) | (rw [shp_none (by omega)]))), Nat.le_of_ble_eq_true (by kernel_rfl)⟩
            · have c32e : ((op : Int) == 9) = false := Eq.trans (by kernel_rfl) h31
              clear h31
              have c32 : ¬ (op : Int) = 9 := ne_of_beq_false c32e
              clear c32e
              refine al_nil ?_
              refine kF ?_
              refine sk_skip (sk_seq (sk_seq ?_))
              refine sk_regionL Tryd.cfgOk hS ?_
              refine aK 1 ?_
              refine aT (fun h33 => ?_) (fun h33 => ?_)
              · have c34e : ((op : Int) == 10) = true := Eq.trans (by kernel_rfl) h33
                clear h33
                have c34 : (op : Int) = 10 := eq_of_beq c34e
                clear c34e
                refine al_nil ?_
                refine kT ?_
                refine sk_seq ?_
                refine kK Tryd.cfgOk hS ?_
                refine sk_ret ?_
                exact ⟨[.string (bstr [116, 98])], by kernel_rfl, fs_to (fs_clo rfl) (congrArg Value.string (by first | exact congrArg bstr (shp_arith (by omega)) | (refine congrArg bstr (shp_at2 (k := _) (by assumption) ?_); rfl) | (rw [shp_none (by omega)]))), Nat.le_of_ble_eq_true (by kernel_rfl)⟩
              · have c34e : ((op : Int) == 10) = false := Eq.trans (by kernel_rfl) h33
                clear h33
                have c34 : ¬ (op : Int) = 10 := ne_of_beq_false c34e
                clear c34e
                refine al_nil ?_
                refine kF ?_
                refine sk_skip (sk_seq (sk_seq ?_))
                refine sk_regionL Tryd.cfgOk hS ?_
                refine aK 1 ?_
                refine aT (fun h35 => ?_) (fun h35 => ?_)
                · have c36e : ((op : Int) == 11) = true := Eq.trans (by kernel_rfl) h35
                  clear h35
                  have c36 : (op : Int) = 11 := eq_of_beq c36e
                  clear c36e
                  refine aN ?_
                  refine kT ?_
                  refine sk_seq ?_
                  refine kK Tryd.cfgOk hS ?_
                  refine sk_ret ?_
                  exact ⟨[.string (bstr [97, 116, 98, 99, 107])], by kernel_rfl, fs_to (fs_clo rfl) (congrArg Value.string (by first | exact congrArg bstr (shp_arith (by omega)) | (refine congrArg bstr (shp_at2 (k := _) (by assumption) ?_); rfl) | (rw [shp_none (by omega)]))), Nat.le_of_ble_eq_true (by kernel_rfl)⟩
                · have c36e : ((op : Int) == 11) = false := Eq.trans (by kernel_rfl) h35
                  clear h35
                  have c36 : ¬ (op : Int) = 11 := ne_of_beq_false c36e
                  clear c36e
                  refine aK 2 ?_
                  refine aT (fun h37 => ?_) (fun h37 => ?_)
                  · have c38e : ((op : Int) == 12) = true := Eq.trans (by kernel_rfl) h37
                    clear h37
                    have c38 : (op : Int) = 12 := eq_of_beq c38e
                    clear c38e
                    refine aN ?_
                    refine kT ?_
                    refine sk_seq ?_
                    refine kK Tryd.cfgOk hS ?_
                    refine sk_ret ?_
                    exact ⟨[.string (bstr [97, 116, 98, 99, 107])], by kernel_rfl, fs_to (fs_clo rfl) (congrArg Value.string (by first | exact congrArg bstr (shp_arith (by omega)) | (refine congrArg bstr (shp_at2 (k := _) (by assumption) ?_); rfl) | (rw [shp_none (by omega)]))), Nat.le_of_ble_eq_true (by kernel_rfl)⟩
                  · have c38e : ((op : Int) == 12) = false := Eq.trans (by kernel_rfl) h37
                    clear h37
                    have c38 : ¬ (op : Int) = 12 := ne_of_beq_false c38e
                    clear c38e
                    refine aN ?_
                    refine kF ?_
                    refine sk_skip (sk_seq (sk_seq ?_))
                    refine sk_regionL Tryd.cfgOk hS ?_
                    refine aK 1 ?_
                    refine aT (fun h39 => ?_) (fun h39 => ?_)
                    · have c40e : ((op : Int) == 13) = true := Eq.trans (by kernel_rfl) h39
                      clear h39
                      have c40 : (op : Int) = 13 := eq_of_beq c40e
                      clear c40e
                      refine al_nil ?_
                      refine kT ?_
                      refine sk_seq ?_
                      refine kK Tryd.cfgOk hS ?_
                      refine sk_ret ?_
                      exact ⟨[.string (bstr [115, 98, 106, 99])], by kernel_rfl, fs_to (fs_clo rfl) (congrArg Value.string (by first | exact congrArg bstr (shp_arith (by omega)) | (refine congrArg bstr (shp_at2 (k := _) (by assumption) ?_); rfl) | (rw [shp_none (by omega)]))), Nat.le_of_ble_eq_true (by kernel_rfl)⟩
                    · have c40e : ((op : Int) == 13) = false := Eq.trans (by kernel_rfl) h39
                      clear h39
                      have c40 : ¬ (op : Int) = 13 := ne_of_beq_false c40e
                      clear c40e
                      refine al_nil ?_
                      refine kF ?_
                      refine sk_skip (sk_seq (sk_seq ?_))
                      refine sk_regionL Tryd.cfgOk hS ?_
                      refine aK 1 ?_
                      refine aT (fun h41 => ?_) (fun h41 => ?_)
                      · have c42e : ((op : Int) == 14) = true := Eq.trans (by kernel_rfl) h41
                        clear h41
                        have c42 : (op : Int) = 14 := eq_of_beq c42e
                        clear c42e
                        refine al_nil ?_
                        refine kT ?_
                        refine sk_seq ?_
                        refine kK Tryd.cfgOk hS ?_
                        refine sk_ret ?_
                        exact ⟨[.string (bstr [98, 106, 99])], by kernel_rfl, fs_to (fs_clo rfl) (congrArg Value.string (by first | exact congrArg bstr (shp_arith (by omega)) | (refine congrArg bstr (shp_at2 (k := _) (by assumption) ?_); rfl) | (rw [shp_none (by omega)]))), Nat.le_of_ble_eq_true (by kernel_rfl)⟩
                      · have c42e : ((op : Int) == 14) = false := Eq.trans (by kernel_rfl) h41
                        clear h41
                        have c42 : ¬ (op : Int) = 14 := ne_of_beq_false c42e
                        clear c42e
                        refine al_nil ?_
                        refine kF ?_
                        refine sk_skip (sk_seq (sk_seq ?_))
                        refine sk_regionL Tryd.cfgOk hS ?_
                        refine aK 1 ?_
                        refine aT (fun h43 => ?_) (fun h43 => ?_)
                        · have c44e : ((op : Int) == 15) = true := Eq.trans (by kernel_rfl) h43
                          clear h43
                          have c44 : (op : Int) = 15 := eq_of_beq c44e
                          clear c44e
                          refine al_nil ?_
                          refine kT ?_
                          refine sk_seq ?_
                          refine kK Tryd.cfgOk hS ?_
                          refine sk_ret ?_
                          exact ⟨[.string (bstr [97])], by kernel_rfl, fs_to (fs_clo rfl) (congrArg Value.string (by first | exact congrArg bstr (shp_arith (by omega)) | (refine congrArg bstr (shp_at2 (k := _) (by assumption) ?_); rfl) | (rw [shp_none (by omega)]))), Nat.le_of_ble_eq_true (by kernel_rfl)⟩
                        · have c44e : ((op : Int) == 15) = false := Eq.trans (by kernel_rfl) h43
                          clear h43
                          have c44 : ¬ (op : Int) = 15 := ne_of_beq_false c44e
                          clear c44e
                          refine al_nil ?_
                          refine kF ?_
                          refine sk_skip (sk_seq ?_)
                          refine kK Tryd.cfgOk hS ?_
                          refine sk_ret ?_
                          exact ⟨[.string (bstr [])], by kernel_rfl, fs_to (fs_clo rfl) (congrArg Value.string (by first | exact congrArg bstr (shp_arith (by omega)) | (refine congrArg bstr (shp_at2 (k := _) (by assumption) ?_); rfl) | (rw [shp_none (by omega)]))), Nat.le_of_ble_eq_true (by kernel_rfl)⟩
noncomputable def con_rshape : Con Tryd.prog 1001 := Con.pure (α := Int) 20 (fun z9 => [.int .i64 z9]) (fun z9 => .string (bstr (shp z9))) (fun z9 => True) (by
  intro x y h
  simp only [List.cons.injEq, and_true, Int.natCast_inj, UInt8.toNat_inj, Value.int.injEq, Value.bool.injEq, Value.string.injEq, Value.agg.injEq, Array.mk.injEq, true_and] at h
  first | exact h | (simp only [Prod.ext_iff, h, and_self, and_true, true_and]; done) | simp_all [Prod.ext_iff]) (fun _ => rfl) (fun _ => rfl) 400 (by
  rintro x _
  exact rshape_sc x )
theorem con_rshape_at (op : Int)  (s : St) : con_rshape.rel [.int .i64 op] s (.string (bstr (shp op))) s := con_pure op trivial s
theorem value_fn : Tryd.cfg.fn 21 = some Tryd.f21 := by kernel_rfl
set_option maxHeartbeats 4000000 in
set_option maxRecDepth 100000 in
theorem value_sc (x : UInt8) (op : Int) (qa : Int) (qb : Int) (qc : Int) (qt : Int) (qn : Int)  : SC Tryd.prog 1001 21 [.agg #[.int .i64 op, .int .i64 qa, .int .i64 qb, .int .i64 qc, .int .i64 qt, .int .i64 qn], .int .u8 ((x.toNat : Nat) : Int)] (St.empty 0) fun v s' => v = .int .i64 (fld x (op, qa, qb, qc, qt, qn)) ∧ s'.n ≤ 400 := by
  have hS := sound_run Tryd.cfgOk 300
  refine sc_ice0 (N := 400) (v2 := .int .i64 (fld x (op, qa, qb, qc, qt, qn))) (Q := fun v s' => FS 0 s' v (.int .i64 (fld x (op, qa, qb, qc, qt, qn))) ∧ s'.n ≤ 400) ?_ (fun _ _ h => h)
  refine sc_body Tryd.cfgOk value_fn rfl ?_
  refine sk_seq ?_
  refine kK Tryd.cfgOk hS ?_
  refine sk_seq (sk_seq ?_)
  refine sk_regionL Tryd.cfgOk hS ?_
  refine aK 1 ?_
  refine aT (fun h1 => ?_) (fun h1 => ?_)
  · have c2e : ((((x.toNat : Nat) : Int) : Int) == 97) = true := Eq.trans (by kernel_rfl) h1
    clear h1
    have c2 : (((x.toNat : Nat) : Int) : Int) = 97 := eq_of_beq c2e
    clear c2e
    refine aN ?_
    refine kT ?_
    refine sk_seq ?_
    refine kK Tryd.cfgOk hS ?_
    refine sk_ret ?_
    exact ⟨[.int .i64 qa], by kernel_rfl, fs_to (fs_clo rfl) (congrArg (Value.int .i64) (by unfold fld; first | (rw [if_pos (by omega)]; done) | (rw [if_neg (by omega), if_pos (by omega)]; done) | (rw [if_neg (by omega), if_neg (by omega), if_pos (by omega)]; done) | (rw [if_neg (by omega), if_neg (by omega), if_neg (by omega), if_pos (by omega)]; done) | (rw [if_neg (by omega), if_neg (by omega), if_neg (by omega), if_neg (by omega)]))), Nat.le_of_ble_eq_true (by kernel_rfl)⟩
  · have c2e : ((((x.toNat : Nat) : Int) : Int) == 97) = false := Eq.trans (by kernel_rfl) h1
    clear h1
    have c2 : ¬ (((x.toNat : Nat) : Int) : Int) = 97 := ne_of_beq_false c2e
    clear c2e
    refine aK 2 ?_
    refine aT (fun h3 => ?_) (fun h3 => ?_)
    · have c4e : ((((x.toNat : Nat) : Int) : Int) == 115) = true := Eq.trans (by kernel_rfl) h3
      clear h3
      have c4 : (((x.toNat : Nat) : Int) : Int) = 115 := eq_of_beq c4e
      clear c4e
      refine aN ?_
      refine kT ?_
      refine sk_seq ?_
      refine kK Tryd.cfgOk hS ?_
      refine sk_ret ?_
      exact ⟨[.int .i64 qa], by kernel_rfl, fs_to (fs_clo rfl) (congrArg (Value.int .i64) (by unfold fld; first | (rw [if_pos (by omega)]; done) | (rw [if_neg (by omega), if_pos (by omega)]; done) | (rw [if_neg (by omega), if_neg (by omega), if_pos (by omega)]; done) | (rw [if_neg (by omega), if_neg (by omega), if_neg (by omega), if_pos (by omega)]; done) | (rw [if_neg (by omega), if_neg (by omega), if_neg (by omega), if_neg (by omega)]))), Nat.le_of_ble_eq_true (by kernel_rfl)⟩
    · have c4e : ((((x.toNat : Nat) : Int) : Int) == 115) = false := Eq.trans (by kernel_rfl) h3
      clear h3
      have c4 : ¬ (((x.toNat : Nat) : Int) : Int) = 115 := ne_of_beq_false c4e
      clear c4e
      refine aN ?_
      refine kF ?_
      refine sk_skip (sk_seq (sk_seq ?_))
      refine sk_regionL Tryd.cfgOk hS ?_
      refine aK 1 ?_
      refine aT (fun h5 => ?_) (fun h5 => ?_)
      · have c6e : ((((x.toNat : Nat) : Int) : Int) == 98) = true := Eq.trans (by kernel_rfl) h5
        clear h5
        have c6 : (((x.toNat : Nat) : Int) : Int) = 98 := eq_of_beq c6e
        clear c6e
        refine al_nil ?_
        refine kT ?_
        refine sk_seq ?_
        refine kK Tryd.cfgOk hS ?_
        refine sk_ret ?_
        exact ⟨[.int .i64 qb], by kernel_rfl, fs_to (fs_clo rfl) (congrArg (Value.int .i64) (by unfold fld; first | (rw [if_pos (by omega)]; done) | (rw [if_neg (by omega), if_pos (by omega)]; done) | (rw [if_neg (by omega), if_neg (by omega), if_pos (by omega)]; done) | (rw [if_neg (by omega), if_neg (by omega), if_neg (by omega), if_pos (by omega)]; done) | (rw [if_neg (by omega), if_neg (by omega), if_neg (by omega), if_neg (by omega)]))), Nat.le_of_ble_eq_true (by kernel_rfl)⟩
      · have c6e : ((((x.toNat : Nat) : Int) : Int) == 98) = false := Eq.trans (by kernel_rfl) h5
        clear h5
        have c6 : ¬ (((x.toNat : Nat) : Int) : Int) = 98 := ne_of_beq_false c6e
        clear c6e
        refine al_nil ?_
        refine kF ?_
        refine sk_skip (sk_seq (sk_seq ?_))
        refine sk_regionL Tryd.cfgOk hS ?_
        refine aK 1 ?_
        refine aT (fun h7 => ?_) (fun h7 => ?_)
        · have c8e : ((((x.toNat : Nat) : Int) : Int) == 99) = true := Eq.trans (by kernel_rfl) h7
          clear h7
          have c8 : (((x.toNat : Nat) : Int) : Int) = 99 := eq_of_beq c8e
          clear c8e
          refine al_nil ?_
          refine kT ?_
          refine sk_seq ?_
          refine kK Tryd.cfgOk hS ?_
          refine sk_ret ?_
          exact ⟨[.int .i64 qc], by kernel_rfl, fs_to (fs_clo rfl) (congrArg (Value.int .i64) (by unfold fld; first | (rw [if_pos (by omega)]; done) | (rw [if_neg (by omega), if_pos (by omega)]; done) | (rw [if_neg (by omega), if_neg (by omega), if_pos (by omega)]; done) | (rw [if_neg (by omega), if_neg (by omega), if_neg (by omega), if_pos (by omega)]; done) | (rw [if_neg (by omega), if_neg (by omega), if_neg (by omega), if_neg (by omega)]))), Nat.le_of_ble_eq_true (by kernel_rfl)⟩
        · have c8e : ((((x.toNat : Nat) : Int) : Int) == 99) = false := Eq.trans (by kernel_rfl) h7
          clear h7
          have c8 : ¬ (((x.toNat : Nat) : Int) : Int) = 99 := ne_of_beq_false c8e
          clear c8e
          refine al_nil ?_
          refine kF ?_
          refine sk_skip (sk_seq (sk_seq ?_))
          refine sk_regionL Tryd.cfgOk hS ?_
          refine aK 1 ?_
          refine aT (fun h9 => ?_) (fun h9 => ?_)
          · have c10e : ((((x.toNat : Nat) : Int) : Int) == 116) = true := Eq.trans (by kernel_rfl) h9
            clear h9
            have c10 : (((x.toNat : Nat) : Int) : Int) = 116 := eq_of_beq c10e
            clear c10e
            refine al_nil ?_
            refine kT ?_
            refine sk_seq ?_
            refine kK Tryd.cfgOk hS ?_
            refine sk_ret ?_
            exact ⟨[.int .i64 qt], by kernel_rfl, fs_to (fs_clo rfl) (congrArg (Value.int .i64) (by unfold fld; first | (rw [if_pos (by omega)]; done) | (rw [if_neg (by omega), if_pos (by omega)]; done) | (rw [if_neg (by omega), if_neg (by omega), if_pos (by omega)]; done) | (rw [if_neg (by omega), if_neg (by omega), if_neg (by omega), if_pos (by omega)]; done) | (rw [if_neg (by omega), if_neg (by omega), if_neg (by omega), if_neg (by omega)]))), Nat.le_of_ble_eq_true (by kernel_rfl)⟩
          · have c10e : ((((x.toNat : Nat) : Int) : Int) == 116) = false := Eq.trans (by kernel_rfl) h9
            clear h9
            have c10 : ¬ (((x.toNat : Nat) : Int) : Int) = 116 := ne_of_beq_false c10e
            clear c10e
            refine al_nil ?_
            refine kF ?_
            refine sk_skip (sk_seq ?_)
            refine kK Tryd.cfgOk hS ?_
            refine sk_ret ?_
            exact ⟨[.int .i64 qn], by kernel_rfl, fs_to (fs_clo rfl) (congrArg (Value.int .i64) (by unfold fld; first | (rw [if_pos (by omega)]; done) | (rw [if_neg (by omega), if_pos (by omega)]; done) | (rw [if_neg (by omega), if_neg (by omega), if_pos (by omega)]; done) | (rw [if_neg (by omega), if_neg (by omega), if_neg (by omega), if_pos (by omega)]; done) | (rw [if_neg (by omega), if_neg (by omega), if_neg (by omega), if_neg (by omega)]))), Nat.le_of_ble_eq_true (by kernel_rfl)⟩
noncomputable def con_value : Con Tryd.prog 1001 := Con.pure (α := UInt8 × Int × Int × Int × Int × Int × Int) 21 (fun z9 => [.agg #[.int .i64 z9.2.1, .int .i64 z9.2.2.1, .int .i64 z9.2.2.2.1, .int .i64 z9.2.2.2.2.1, .int .i64 z9.2.2.2.2.2.1, .int .i64 z9.2.2.2.2.2.2], .int .u8 ((z9.1.toNat : Nat) : Int)]) (fun z9 => .int .i64 (fld z9.1 (z9.2.1, z9.2.2.1, z9.2.2.2.1, z9.2.2.2.2.1, z9.2.2.2.2.2.1, z9.2.2.2.2.2.2))) (fun z9 => True) (by
  rintro ⟨a0, a1, a2, a3, a4, a5, a6⟩ ⟨b0, b1, b2, b3, b4, b5, b6⟩ h
  simp only [List.cons.injEq, and_true, Int.natCast_inj, UInt8.toNat_inj, Value.int.injEq, Value.bool.injEq, Value.string.injEq, Value.agg.injEq, Array.mk.injEq, true_and] at h
  first | exact h | (simp only [Prod.ext_iff, h, and_self, and_true, true_and]; done) | simp_all [Prod.ext_iff]) (fun _ => rfl) (fun _ => rfl) 400 (by
  rintro ⟨a0, a1, a2, a3, a4, a5, a6⟩ _
  exact value_sc a0 a1 a2 a3 a4 a5 a6 )
theorem con_value_at (x : UInt8) (op : Int) (qa : Int) (qb : Int) (qc : Int) (qt : Int) (qn : Int)  (s : St) : con_value.rel [.agg #[.int .i64 op, .int .i64 qa, .int .i64 qb, .int .i64 qc, .int .i64 qt, .int .i64 qn], .int .u8 ((x.toNat : Nat) : Int)] s (.int .i64 (fld x (op, qa, qb, qc, qt, qn))) s := con_pure (x, op, qa, qb, qc, qt, qn) trivial s
theorem wordsL_len : wordsL.length = 16 := rfl
theorem rword_fn : Tryd.cfg.fn 8 = some Tryd.f8 := by kernel_rfl
set_option maxHeartbeats 4000000 in
set_option maxRecDepth 100000 in
theorem rword_sc (op : Int)  : SC Tryd.prog 1001 8 [.int .i64 op] (St.empty 0) fun v s' => v = .string (bstr (wordB op)) ∧ s'.n ≤ 400 := by
  have hS := sound_run Tryd.cfgOk 300
  refine sc_ice0 (N := 400) (v2 := .string (bstr (wordB op))) (Q := fun v s' => FS 0 s' v (.string (bstr (wordB op))) ∧ s'.n ≤ 400) ?_ (fun _ _ h => h)
  refine sc_body Tryd.cfgOk rword_fn rfl ?_
  refine sk_seq ?_
  refine kK Tryd.cfgOk hS ?_
  refine sk_seq ?_
  refine kK Tryd.cfgOk hS ?_
  refine sk_seq (sk_seq ?_)
  refine sk_regionL Tryd.cfgOk hS ?_
  refine aK 1 ?_
  refine aT (fun h1 => ?_) (fun h1 => ?_)
  · have c2e : (decide ((op : Int) < 0)) = true := Eq.trans (by kernel_rfl) h1
    clear h1
    have c2 : (op : Int) < 0 := of_decide_eq_true c2e
    clear c2e
    refine aN ?_
    refine kT ?_
    refine sk_seq ?_
    refine kK Tryd.cfgOk hS ?_
    refine sk_ret ?_
    exact ⟨[.string (bstr [])], by kernel_rfl, fs_to (fs_clo rfl) (congrArg Value.string (by first | (rw [wordB_no (by omega)]; done) | (rw [wordB_no (by have := wordsL_len; omega)]; done) | (rw [wordB_at (by omega) (by assumption)]))), Nat.le_of_ble_eq_true (by kernel_rfl)⟩
  · have c2e : (decide ((op : Int) < 0)) = false := Eq.trans (by kernel_rfl) h1
    clear h1
    have c2 : ¬ (op : Int) < 0 := of_decide_eq_false c2e
    clear c2e
    refine aK 4 ?_
    refine aT (fun h3 => ?_) (fun h3 => ?_)
    · have c4e : (decide ((op : Int) ≥ ((wordsL.length : Nat) : Int))) = true := Eq.trans (by kernel_rfl) h3
      clear h3
      have c4 : (op : Int) ≥ ((wordsL.length : Nat) : Int) := of_decide_eq_true c4e
      clear c4e
      refine aN ?_
      refine kT ?_
      refine sk_seq ?_
      refine kK Tryd.cfgOk hS ?_
      refine sk_ret ?_
      exact ⟨[.string (bstr [])], by kernel_rfl, fs_to (fs_clo rfl) (congrArg Value.string (by first | (rw [wordB_no (by omega)]; done) | (rw [wordB_no (by have := wordsL_len; omega)]; done) | (rw [wordB_at (by omega) (by assumption)]))), Nat.le_of_ble_eq_true (by kernel_rfl)⟩
    · have c4e : (decide ((op : Int) ≥ ((wordsL.length : Nat) : Int))) = false := Eq.trans (by kernel_rfl) h3
      clear h3
      have c4 : ¬ (op : Int) ≥ ((wordsL.length : Nat) : Int) := of_decide_eq_false c4e
      clear c4e
      refine aN ?_
      refine kF ?_
      refine sk_skip (sk_seq ?_)
      refine sk_regionL Tryd.cfgOk hS ?_
      refine aK 2 ?_
      refine aM (indexAddrV Tryd.cfg 43 (slL 0 1 wordsL.length) (.int .i64 op)) (.pointer (some ⟨0, op.toNat * 1, some (wordsL.length * 1)⟩)) (idx_rowI (by kernel_rfl) (by omega) (by have := wordsL_len; omega)) ?_
      have hx5l : op.toNat < wordsL.length := by have := wordsL_len; omega
      refine Exists.elim (get_ex hx5l) fun x5 hx5 => ?_
      clear hx5l
      refine aM (loadV Tryd.cfg ((St.empty 0).new (rowL tcells wordsL)) 9 (.pointer (some ⟨0, op.toNat * 1, some (wordsL.length * 1)⟩))) (.string (bstr x5)) (load_rowL1 (o := 0) (l := wordsL) (by kernel_rfl) tcells_len (by kernel_rfl) hx5 rfl) ?_
      refine aN ?_
      refine sk_ret ?_
      exact ⟨[.string (bstr x5)], by kernel_rfl, fs_to (fs_clo rfl) (congrArg Value.string (by first | (rw [wordB_no (by omega)]; done) | (rw [wordB_no (by have := wordsL_len; omega)]; done) | (rw [wordB_at (by omega) (by assumption)]))), Nat.le_of_ble_eq_true (by kernel_rfl)⟩
noncomputable def con_rword : Con Tryd.prog 1001 := Con.pure (α := Int) 8 (fun z9 => [.int .i64 z9]) (fun z9 => .string (bstr (wordB z9))) (fun z9 => True) (by
  intro x y h
  simp only [List.cons.injEq, and_true, Int.natCast_inj, UInt8.toNat_inj, Value.int.injEq, Value.bool.injEq, Value.string.injEq, Value.agg.injEq, Array.mk.injEq, true_and] at h
  first | exact h | (simp only [Prod.ext_iff, h, and_self, and_true, true_and]; done) | simp_all [Prod.ext_iff]) (fun _ => rfl) (fun _ => rfl) 400 (by
  rintro x _
  exact rword_sc x )
theorem con_rword_at (op : Int)  (s : St) : con_rword.rel [.int .i64 op] s (.string (bstr (wordB op))) s := con_pure op trivial s
end Go.Proofs.YtgplkbfjlidinaaDoor