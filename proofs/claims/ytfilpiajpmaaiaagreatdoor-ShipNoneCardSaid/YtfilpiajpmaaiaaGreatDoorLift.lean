/- ShipNone at whatever input. -/
import Derived.Test.YtfilpiajpmaaiaaGreatDoorLaw
import Derived.OpenShut
import Derived.LaidMore
import Derived.Lay
import Derived.SevenTiedAt
import Derived.Stop.Joined
set_option linter.unusedVariables false
set_option linter.unusedSimpArgs false
set_option linter.unnecessarySimpa false
namespace Go.Proofs.YtfilpiajpmaaiaaGreatDoor
open Go.ChangeShapes Go.WideShapes Go.ChangeAt Go.RowKit Go.Ai
theorem Tryz.own : ownKnob Tryz.prog.godebug = none := by kernel_rfl
theorem Tryz.laidOut : laidOutB Tryz.prog = true := by kernel_rfl
theorem rep_byte {P : Program} {n : Nat} {t : TypeId} (hu : P.underlying t = some (.int .u8)) : Rep P (n + 1) t bcells (fun _ => True) := fun xs h => by
  obtain ⟨x, rfl, h1, h2⟩ := rep_int hu xs h
  have g1 : 0 ≤ x := h1
  have g2 : x ≤ 255 := h2
  refine ⟨UInt8.ofNat x.toNat, ?_, trivial⟩
  show [Value.int .u8 x] = [Value.int .u8 ((UInt8.ofNat x.toNat).toNat : Int)]
  rw [UInt8.toNat_ofNat', Nat.mod_eq_of_lt (by omega), Int.toNat_of_nonneg g1]
theorem rep_key : Rep Tryz.prog 3 27 kcells (fun _ : Key => True) :=
  (rep_struct Tryz.underlying27 (repF_cons (rep_int Tryz.underlying3) (repF_one (rep_int Tryz.underlying3)))).map (fun x => x) (fun _ => rfl) fun _ _ => trivial
theorem rep_span : Rep Tryz.prog 3 305 scells (fun _ : Span => True) :=
  (rep_struct Tryz.underlying305 (repF_cons (rep_int Tryz.underlying3) (repF_cons (rep_int Tryz.underlying3) (repF_one (rep_int Tryz.underlying3))))).map (fun x => x) (fun _ => rfl) fun _ _ => trivial
theorem rep_code : Rep Tryz.prog 3 252 ccells (fun _ : Code => True) :=
  (rep_struct Tryz.underlying252 (repF_cons (rep_int Tryz.underlying3) (repF_cons (rep_int Tryz.underlying3) (repF_cons (rep_int Tryz.underlying3) (repF_cons (rep_int Tryz.underlying3) (repF_cons (rep_int Tryz.underlying3) (repF_one (rep_int Tryz.underlying3)))))))).map (fun x => x) (fun _ => rfl) fun _ _ => trivial
theorem rep_write : Rep Tryz.prog 4 237 wcells (fun _ : Wr => True) :=
  (rep_struct Tryz.underlying237 (repF_cons rep_key (repF_cons (rep_int Tryz.underlying3) (repF_one (rep_bool Tryz.underlying4))))).map (fun x => (x.1.1, x.1.2, x.2.1, x.2.2)) (fun _ => rfl) fun _ _ => trivial
theorem rep_rec : Rep Tryz.prog 6 67 rcells (fun _ : Rec8 => True) :=
  (rep_struct Tryz.underlying67 (repF_cons (rep_int Tryz.underlying3) (repF_cons (rep_bool Tryz.underlying4)
    (repF_cons (rep_struct Tryz.underlying60 (repF_cons (rep_int Tryz.underlying3) (repF_one (rep_slice Tryz.underlying58 (by kernel_rfl) rep_code))))
      (repF_cons (rep_struct Tryz.underlying64 (repF_cons (rep_slice Tryz.underlying61 (by kernel_rfl) rep_key) (repF_cons (rep_slice Tryz.underlying62 (by kernel_rfl) rep_span) (repF_one (rep_slice Tryz.underlying61 (by kernel_rfl) rep_key)))))
        (repF_one (rep_slice Tryz.underlying65 (by kernel_rfl) rep_write))))))).map (fun x => (x.1, x.2.1, x.2.2.1.1, x.2.2.1.2, x.2.2.2.1.1, x.2.2.2.1.2.1, x.2.2.2.1.2.2, x.2.2.2.2)) (fun _ => rfl)
    fun _ _ => trivial
noncomputable def pcells (x : Int × List UInt8 × List Rec8) : List Value := [.int .i64 x.1, inlL bcells 1 x.2.1, inlL rcells 8 x.2.2]
theorem rep_parcel : Rep Tryz.prog 8 25 pcells (fun x => x.2.1.length ≤ 9223372036854775807 ∧ x.2.2.length ≤ 9223372036854775807) :=
  (rep_struct Tryz.underlying25 (repF_cons (rep_int Tryz.underlying3) (repF_cons (rep_slice Tryz.underlying22 (by kernel_rfl) (rep_byte Tryz.underlying5)) (repF_one (rep_slice Tryz.underlying23 (by kernel_rfl) rep_rec))))).map (fun x => x) (fun _ => rfl)
    fun _ h => ⟨h.2.1.1, h.2.2.1⟩
abbrev shipLaid : List (String × DataW Unit) := [("sluiceway/exec.errAbort", Rows.laid_sluiceway_exec_errAbort), ("sluiceway/exec.errFuel", Rows.laid_sluiceway_exec_errFuel), ("sluiceway/engine.errNoRoom", Rows.laid_sluiceway_engine_errNoRoom)]
set_option maxRecDepth 100000 in
theorem err458 : ∀ u, Tryz.prog.typeName? 3 u = some "*errors.errorString" → u = 458 := errType (by kernel_rfl) (by kernel_rfl)
set_option maxRecDepth 100000 in
theorem laid_errs {W : World} (h : laidMetH Tryz.prog shipLaid W) : ∀ g, g < 3 → ErrAt W 458 g := by
  rw [MakeChecks.laidMetH_plain _ _ _ (by kernel_rfl)] at h
  obtain ⟨ps, hv, _, hcell⟩ := h
  obtain ⟨g1, t1, cs1, f1, p1, q1, a1, b1, c1, d1, ⟨g2, t2, cs2, f2, p2, q2, a2, b2, c2, d2, ⟨g3, t3, cs3, f3, p3, q3, a3, b3, c3, d3, rfl, rfl⟩, rfl⟩, rfl⟩ := hv
  obtain rfl : (1 : Nat) = g1 := Option.some.inj (Eq.trans (by kernel_rfl) a1)
  obtain rfl : (2 : Nat) = g2 := Option.some.inj (Eq.trans (by kernel_rfl) a2)
  obtain rfl : (0 : Nat) = g3 := Option.some.inj (Eq.trans (by kernel_rfl) a3)
  obtain rfl : (37 : Nat) = t1 := Option.some.inj (Eq.trans (by kernel_rfl) b1)
  obtain rfl : (37 : Nat) = t2 := Option.some.inj (Eq.trans (by kernel_rfl) b2)
  obtain rfl : (37 : Nat) = t3 := Option.some.inj (Eq.trans (by kernel_rfl) b3)
  intro g hg
  rcases (by omega : g = 0 ∨ g = 1 ∨ g = 2) with rfl | rfl | rfl
  · exact sent_at (q := []) err458 Tryz.underlying458 Tryz.underlying37 a3 c3 d3 fun b off hm => (hcell b off (by simp only [List.mem_append, List.append_nil] at hm ⊢; exact .inr (.inr (.inl hm)))).2
  · exact sent_at (q := []) err458 Tryz.underlying458 Tryz.underlying37 a1 c1 d1 fun b off hm => (hcell b off (by simp only [List.mem_append, List.append_nil] at hm ⊢; exact .inl (.inl hm))).2
  · exact sent_at (q := []) err458 Tryz.underlying458 Tryz.underlying37 a2 c2 d2 fun b off hm => (hcell b off (by simp only [List.mem_append, List.append_nil] at hm ⊢; exact .inr (.inl (.inl hm)))).2
set_option maxRecDepth 100000 in
theorem shipNone_lifted (os : Os) (started : os.Started) (H : Type) (enc : TypeId × Value → H) :
    ReturnsInHanded {} Tryz.checked os 3 .any (fun w args => (Rows.shipNoneSpec.pre enc Tryz.prog Tryz.f3 Rows.shipNoneRow.domain false w args ∧ laidMetH Tryz.prog shipLaid w) ∧ sizedMet enc Tryz.prog Tryz.f3 (OpenSpec.ofChange Rows.shipNoneSpec) false w args)
      (Rows.shipNoneSpec.post enc Tryz.prog Tryz.f3 false true false false) := by
  refine returnsInHanded_of_change_and (C := Tryz.checked) (X := fun w _ => laidMetH Tryz.prog shipLaid w) (fun _ _ _ hh h => h.of_heap hh) Tryz.own started (by kernel_rfl) Tryz.func3
    (ChangeSpec.witness_shaped (enc := enc) (C := Tryz.checked) (os := os) (X := fun w _ => laidMetH Tryz.prog shipLaid w) false (World.laidAll Tryz.prog os shipLaid) #[.agg #[.int .i64 0, .slice none 0 0, .slice none 0 0], .agg #[.int .i64 0, .int .i64 0]] 8 (World.laidAll_os _ _ _)
      (World.shaped_of_ZipB (by kernel_rfl) (by kernel_rfl)) (by kernel_rfl) (by kernel_rfl) (by kernel_rfl)
      (by rw [MakeChecks.laidMetH_plain _ _ _ (by kernel_rfl)]; exact laidMet_laidAll _ (by kernel_rfl) (by kernel_rfl))) ?_
  intro W base args ds gs before hval0 hW _ _ hlaid _
  have hval : ∀ (j : Nat) t v, Tryz.f3.params[j]? = some t → args[j]? = some v → Value.okWide Tryz.prog W .any base t v := hval0
  have hW' := hW
  obtain ⟨p, q, hA0, hV, rfl, hfz, hnd⟩ := hW
  have hA : DataW.TrodAll enc Tryz.prog W 0 (fun _ => true) true Tryz.f3.params.toList args.toList ds p := hA0
  rw [Tryz.params3] at hA hval
  obtain ⟨v0, v1, d0, d1, p0, p1, rfl, rfl, rfl, h0, h1⟩ := trodAll_two hA
  obtain ⟨rfl, rfl⟩ := trodVars_none hV
  obtain ⟨⟨bs, tx, l⟩, ⟨k1, k2⟩, ra⟩ := arg_struct Tryz.underlying25 (hval 0 25 v0 rfl rfl) (by kernel_rfl) rep_parcel h0
  obtain ⟨⟨ka, kb⟩, _, rb⟩ := arg_struct Tryz.underlying27 (hval 1 27 v1 rfl rfl) (by kernel_rfl) rep_key h1
  have hcalls := calls_scG (G := 3) (args' := #[v0, v1]) (sr_lay3 (laid_errs hlaid)) glob_lay3 (glob3_wf 458) shut_lay3 (.cons (ra.mono lay_le3) (.cons (rb.mono lay_le3) .nil)) (law_sc bs tx l ka kb k1 k2)
  refine hcalls.mono fun e W' ⟨he, hw⟩ => ?_
  subst he
  exact ⟨_, rfl, post_true (tb := 4) hW' rfl hw Tryz.laidOut (by kernel_rfl) (by kernel_rfl) (by kernel_rfl) rfl rfl rfl⟩
end Go.Proofs.YtfilpiajpmaaiaaGreatDoor