/- Of the text TkIa only what this claim needs (shake.py, this repo's). -/
import Derived.Test.YtkfjlkpickeobaaDoorZTmD
set_option linter.unusedVariables false
set_option linter.unusedSimpArgs false
namespace Go.Proofs.YtkfjlkpickeobaaDoor
open Go.RowKit
open Go.Proofs.YtkfjlkpickeobaaDoorW.PrintWords (Kd Drawn0 Kept rd rdOf ReadsRow)
open Go.Proofs.YtkfjlkpickeobaaDoor.PTaskRuns
set_option maxRecDepth 100000

noncomputable def newF (p : Int) : Tk × Int := if 0 ≤ p ∧ p ≤ 31 then (⟨p, [], 0, 0, 0, 0, 0, 0⟩, 0) else (zT, 2)
theorem tnew_c (p : Int) (w : World) : Calls Tryd.prog 21 #[.int .i64 p] w fun e w' => ∃ v, e = .returned (.tuple #[(newF p).1.v v, errV (newF p).2]) ∧ kJ.R 28 w' w.heap.size (fun _ => True) v (newF p).1.js ∧ Below w.heap.size w w' := by
  unfold newF
  by_cases h : 0 ≤ p ∧ p ≤ 31
  · rw [if_pos h]; exact new_yes p w h
  · rw [if_neg h]; exact new_no p w h
def valF (T : Tk) : Int := if T.okB = true then 0 else 270
theorem tvalid_e (T : Tk) (v : Value) (w : World) (h : TR w v T.js) (hl : T.js.length ≤ 9223372036854775800) : Calls Tryd.prog 23 #[T.v v] w fun e w' => e = .returned (errV (valF T)) ∧ Below w.heap.size w w' := by
  unfold valF
  by_cases hk : T.okB = true
  · rw [if_pos hk]; exact tvalid_yes T v w h hk
  · rw [if_neg hk]; exact tvalid_no T v w h hl (by simpa using hk)

end Go.Proofs.YtkfjlkpickeobaaDoor
