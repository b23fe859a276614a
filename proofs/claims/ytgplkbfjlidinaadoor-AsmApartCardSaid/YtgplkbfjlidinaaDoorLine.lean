/- The document: the line of an instruction. -/
import Derived.Test.YtgplkbfjlidinaaDoorFigs
set_option linter.unusedVariables false
set_option linter.unusedSimpArgs false
set_option linter.unnecessarySimpa false
namespace Go.Proofs.YtgplkbfjlidinaaDoor
open Go.Ai
/-- what stands behind a line's first word -/
def tailB (l : List UInt8) (c : Code) : List UInt8 := (l.map fun x => 32 :: wordP x (fld x c)).flatten
def lineR (c : Code) : List UInt8 := wordB c.1 ++ tailB (shp c.1) c
theorem tail_len {c : Code} (h : inC c) : ∀ l : List UInt8, (tailB l c).length ≤ l.length * 23
  | [] => by simp [tailB]
  | x :: l => by
    have := tail_len h l
    have q := wordP_len (x := x) (fld_in (x := x) h)
    have e : tailB (x :: l) c = (32 :: wordP x (fld x c)) ++ tailB l c := by simp [tailB]
    rw [e, List.length_append, List.length_cons, List.length_cons]
    omega
theorem line_len {c : Code} {o : List UInt8} {i : Nat} (h : inC c) (ho : o = wordB c.1 ++ tailB ((shp c.1).take i) c) : o.length ≤ 200 := by
  have q := tail_len h ((shp c.1).take i)
  have q2 := shp_len c.1
  have q3 := wordB_len c.1
  have q4 : ((shp c.1).take i).length ≤ 5 := by rw [List.length_take]; omega
  rw [ho, List.length_append]
  omega
end Go.Proofs.YtgplkbfjlidinaaDoor