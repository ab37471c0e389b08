/- Of the text TkU0 only what this claim needs (shake.py, this repo's). -/
import Derived.Test.YtkfjlkpickeobaaDoorZTkN0
import Derived.Test.YtkfjlkpickeobaaDoorZTkAp
import Derived.Test.YtkfjlkpickeobaaDoorZTkAq
set_option linter.unusedVariables false
set_option linter.unusedSimpArgs false
namespace Go.Proofs.YtkfjlkpickeobaaDoor
open Go.RowKit
open Go.Proofs.YtkfjlkpickeobaaDoorW.PrintWords (Kd Drawn0 Kept rd rdOf ReadsRow)
open Go.Proofs.YtkfjlkpickeobaaDoorW.PrintWords (mn)
open Go.Proofs.YtkfjlkpickeobaaDoor.PTaskRuns
set_option maxRecDepth 100000

/-- The task in the printed form. -/
abbrev Tk.s (T : Tk) : S26 := ⟨T.p, T.js, ⟨T.g, T.o, T.l, T.d, T.c, T.t⟩⟩
def needF (x : Jb) : Int := if x.f1 > 0 ∧ x.f1 < x.f0 then x.f1 else x.f0
def wkF : Int → List Jb → Int
  | s, [] => s
  | s, x :: r => wkF (wrap64 (s + needF x)) r
def workF (T : Tk) : Int := if T.okB = true then wkF 0 T.js else 0
theorem twork_l0 (js : List Jb) (hl : js.length ≤ 9223372036854775800) : ∀ (m i k : Nat) (s : Int), i + m = js.length → m < k → task_Work.l0 k s js (js.length : Int) (i : Int) = some (wkF s (js.drop i)) := by
  intro m
  induction m with
  | zero =>
    intro i k s hi hk
    obtain ⟨k, rfl⟩ : ∃ c, k = c + 1 := ⟨k - 1, by omega⟩
    simp only [task_Work.l0]
    rw [if_neg (by omega), List.drop_of_length_le (by omega)]
    rfl
  | succ m ih =>
    intro i k s hi hk
    obtain ⟨k, rfl⟩ : ∃ c, k = c + 1 := ⟨k - 1, by omega⟩
    have hlt : i < js.length := by omega
    have ih' := fun s => ih (i + 1) k s (by omega) (by omega)
    simp only [task_Work.l0]
    rw [if_pos (by omega), if_pos (by omega), if_pos (by omega)]
    have hd : js.drop i = js[i] :: js.drop (i + 1) := List.drop_eq_getElem_cons hlt
    rw [wrap_i (by omega), rdJ hlt, hd]
    simp only [ih', wkF, needF, mn]
    by_cases h1 : js[i].f1 > 0 <;> by_cases h2 : js[i].f1 < js[i].f0 <;> simp [h1, h2]
theorem twork_c (T : Tk) (v : Value) (w : World) (h : TR w v T.js) (hl : T.js.length ≤ 9223372036854775800) : Calls Tryd.prog 22 #[T.v v] w fun e w' => e = .returned (.int .i64 (workF T)) ∧ Below w.heap.size w w' := by
  obtain ⟨A, c, rfl, h1, h2⟩ := h
  refine task_Work.calls (T.js.length + 1 + 2) T.p A c T.js T.g T.o T.l T.d T.c T.t _ w h2 h1 ?_
  unfold task_Work.f workF
  rw [tvalid_f T hl (T.js.length + 1) (by omega)]
  cases T.okB with
  | false => simp
  | true =>
    have := twork_l0 T.js hl T.js.length 0 (T.js.length + 1 + 2) 0 (by omega) (by omega)
    simpa using this
abbrev Tk.drop (T : Tk) : Tk := ⟨T.p, [], T.g, T.o, T.l, T.d, T.c, T.t⟩
end Go.Proofs.YtkfjlkpickeobaaDoor
