/- The tables of the program; cells of elements. -/
import Derived.Test.YtfpkfcdeoiofiaaAiComp
import Derived.Test.YtfpkfcdeoiofiaaRows
set_option linter.unusedVariables false
set_option linter.unusedSimpArgs false
set_option linter.unnecessarySimpa false
namespace Go.Proofs.Ytfpkfcdeoiofiaa
open Go.ChangeShapes Go.WideShapes Go.ChangeAt Go.RowKit Go.Ai
noncomputable def Try.ft : T Func := T.ofList Try.prog.funcs.toList
noncomputable def Try.tt : T (Option Ty) := T.ofList ((List.range 145).map (tyRow Try.prog))
noncomputable def Try.pt : T (Option (List CK)) := T.ofList ((List.range 145).map (peqOf Try.prog 20))
noncomputable def Try.cfg : Cfg := cfgP Try.prog 0 Try.ft Try.tt Try.pt
theorem Try.cfgOk : CfgOk Try.prog Try.cfg (okK 0) := cfgP_ok 0 145 (by kernel_rfl)
theorem tokC : TokC Try.cfg := ⟨rfl, rfl⟩
/-- keys, spans, feet, writes, instructions, records -/
abbrev Key := Int × Int
abbrev Span := Int × Int × Int
abbrev Foot := List Key × List Span × List Key
abbrev Wr := Int × Int × Int × Bool
abbrev Code := Int × Int × Int × Int × Int × Int
abbrev Rec8 := Int × Bool × Int × List Code × List Key × List Span × List Key × List Wr
def kcells (x : Key) : List Value := [.int .i64 x.1, .int .i64 x.2]
theorem kcells_len (x : Key) : (kcells x).length = 2 := rfl
theorem kcells_clo (x : Key) : clo.cloL (kcells x) = true := rfl
theorem kcells_one (x : Key) : (kcells x).all one = true := rfl
theorem kcells_iff {a b : List (Key)} : inlL kcells 2 a = inlL kcells 2 b ↔ a = b :=
  ⟨inlL_inj kcells_len fun x y h => by simp only [kcells, List.cons.injEq, Value.int.injEq, true_and, and_true] at h; exact Prod.ext h.1 (h.2), fun h => by rw [h]⟩
theorem kcells_row {a b : List (Key)} : rowL kcells a = rowL kcells b ↔ a = b := row_iff (by decide) kcells_len kcells_iff
def scells (x : Span) : List Value := [.int .i64 x.1, .int .i64 x.2.1, .int .i64 x.2.2]
theorem scells_len (x : Span) : (scells x).length = 3 := rfl
theorem scells_clo (x : Span) : clo.cloL (scells x) = true := rfl
theorem scells_one (x : Span) : (scells x).all one = true := rfl
theorem scells_iff {a b : List (Span)} : inlL scells 3 a = inlL scells 3 b ↔ a = b :=
  ⟨inlL_inj scells_len fun x y h => by simp only [scells, List.cons.injEq, Value.int.injEq, true_and, and_true] at h; exact Prod.ext h.1 (Prod.ext h.2.1 (h.2.2)), fun h => by rw [h]⟩
theorem scells_row {a b : List (Span)} : rowL scells a = rowL scells b ↔ a = b := row_iff (by decide) scells_len scells_iff
def wcells (x : Wr) : List Value := [.int .i64 x.1, .int .i64 x.2.1, .int .i64 x.2.2.1, .bool x.2.2.2]
theorem wcells_len (x : Wr) : (wcells x).length = 4 := rfl
theorem wcells_clo (x : Wr) : clo.cloL (wcells x) = true := rfl
theorem wcells_one (x : Wr) : (wcells x).all one = true := rfl
theorem wcells_iff {a b : List (Wr)} : inlL wcells 4 a = inlL wcells 4 b ↔ a = b :=
  ⟨inlL_inj wcells_len fun x y h => by simp only [wcells, List.cons.injEq, Value.int.injEq, Value.bool.injEq, true_and, and_true] at h; exact Prod.ext h.1 (Prod.ext h.2.1 (Prod.ext h.2.2.1 (h.2.2.2))), fun h => by rw [h]⟩
def ccells (x : Code) : List Value := [.int .i64 x.1, .int .i64 x.2.1, .int .i64 x.2.2.1, .int .i64 x.2.2.2.1, .int .i64 x.2.2.2.2.1, .int .i64 x.2.2.2.2.2]
theorem ccells_len (x : Code) : (ccells x).length = 6 := rfl
theorem ccells_clo (x : Code) : clo.cloL (ccells x) = true := rfl
theorem ccells_one (x : Code) : (ccells x).all one = true := rfl
theorem ccells_iff {a b : List (Code)} : inlL ccells 6 a = inlL ccells 6 b ↔ a = b :=
  ⟨inlL_inj ccells_len fun x y h => by simp only [ccells, List.cons.injEq, Value.int.injEq, true_and, and_true] at h; exact Prod.ext h.1 (Prod.ext h.2.1 (Prod.ext h.2.2.1 (Prod.ext h.2.2.2.1 (Prod.ext h.2.2.2.2.1 (h.2.2.2.2.2))))), fun h => by rw [h]⟩
noncomputable def fcells (x : Foot) : List Value := [inlL kcells 2 x.1, inlL scells 3 x.2.1, inlL kcells 2 x.2.2]
theorem fcells_len (x : Foot) : (fcells x).length = 3 := rfl
theorem fcells_clo (x : Foot) : clo.cloL (fcells x) = true := rfl
theorem fcells_one (x : Foot) : (fcells x).all one = true := rfl
theorem fcells_iff {a b : List (Foot)} : inlL fcells 3 a = inlL fcells 3 b ↔ a = b :=
  ⟨inlL_inj fcells_len fun x y h => by simp only [fcells, List.cons.injEq, kcells_iff, scells_iff, true_and, and_true] at h; exact Prod.ext h.1 (Prod.ext h.2.1 (h.2.2)), fun h => by rw [h]⟩
theorem fcells_row {a b : List (Foot)} : rowL fcells a = rowL fcells b ↔ a = b := row_iff (by decide) fcells_len fcells_iff
def icells (x : Int) : List Value := [.int .i64 x]
theorem icells_len (x : Int) : (icells x).length = 1 := rfl
theorem icells_clo (x : Int) : clo.cloL (icells x) = true := rfl
theorem icells_iff {a b : List (Int)} : inlL icells 1 a = inlL icells 1 b ↔ a = b :=
  ⟨inlL_inj icells_len fun x y h => by simp only [icells, List.cons.injEq, Value.int.injEq, true_and, and_true] at h; exact h, fun h => by rw [h]⟩
theorem icells_row {a b : List (Int)} : rowL icells a = rowL icells b ↔ a = b := row_iff (by decide) icells_len icells_iff
noncomputable def rcells (x : Rec8) : List Value := [.int .i64 x.1, .bool x.2.1, .int .i64 x.2.2.1, inlL ccells 6 x.2.2.2.1, inlL kcells 2 x.2.2.2.2.1, inlL scells 3 x.2.2.2.2.2.1, inlL kcells 2 x.2.2.2.2.2.2.1, inlL wcells 4 x.2.2.2.2.2.2.2]
theorem rcells_len (x : Rec8) : (rcells x).length = 8 := rfl
theorem rcells_clo (x : Rec8) : clo.cloL (rcells x) = true := rfl
theorem rcells_one (x : Rec8) : (rcells x).all one = true := rfl
theorem rcells_iff {a b : List (Rec8)} : inlL rcells 8 a = inlL rcells 8 b ↔ a = b :=
  ⟨inlL_inj rcells_len fun x y h => by simp only [rcells, List.cons.injEq, Value.int.injEq, Value.bool.injEq, ccells_iff, kcells_iff, scells_iff, wcells_iff, true_and, and_true] at h; exact Prod.ext h.1 (Prod.ext h.2.1 (Prod.ext h.2.2.1 (Prod.ext h.2.2.2.1 (Prod.ext h.2.2.2.2.1 (Prod.ext h.2.2.2.2.2.1 (Prod.ext h.2.2.2.2.2.2.1 (h.2.2.2.2.2.2.2))))))), fun h => by rw [h]⟩
noncomputable def wlcells (x : List Wr) : List Value := [inlL wcells 4 x]
theorem wlcells_len (x : List Wr) : (wlcells x).length = 1 := rfl
theorem wlcells_clo (x : List Wr) : clo.cloL (wlcells x) = true := rfl
theorem wlcells_one (x : List Wr) : (wlcells x).all one = true := rfl
theorem kcells_rowm {m n : Nat} {a b : List Key} : rowM kcells m a = rowM kcells n b ↔ m = n ∧ a = b := rowm_iff kcells_len fun _ _ => kcells_row
end Go.Proofs.Ytfpkfcdeoiofiaa