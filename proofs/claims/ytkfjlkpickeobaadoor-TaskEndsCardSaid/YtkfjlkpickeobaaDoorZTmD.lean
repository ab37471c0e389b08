/- Of the text TmD only what this claim needs (shake.py, this repo's). -/
import Derived.Test.YtkfjlkpickeobaaDoorZTmC
import Derived.Test.YtkfjlkpickeobaaDoorZRd
import Derived.Test.YtkfjlkpickeobaaDoorZPTaskRunsx3
import Derived.Test.YtkfjlkpickeobaaDoorZPTaskRunsx5
import Derived.Test.YtkfjlkpickeobaaDoorZPTaskRunsx12
import Derived.Test.YtkfjlkpickeobaaDoorZPTaskRunsx13
import Derived.Test.YtkfjlkpickeobaaDoorZTmB
set_option linter.unusedVariables false
set_option linter.unusedSimpArgs false
namespace Go.Proofs.YtkfjlkpickeobaaDoor
open Go.RowKit
open Go.Proofs.YtkfjlkpickeobaaDoorW.PrintWords (Kd Drawn0 Kept rd rdOf ReadsRow)
open Go.Proofs.YtkfjlkpickeobaaDoor.PTaskRuns
set_option maxRecDepth 100000

theorem TR.of_cells {w : World} {b o n c : Nat} {js : List Jb} (hl : js.length = n) (hc : n ≤ c) (hm : n ≤ 9223372036854775807) (h : ∀ i x, js[i]? = some x → JAt w b o i x) : TR w (.slice (some ⟨b, o, none⟩) n c) js := by
  subst hl
  refine ⟨some ⟨b, o, none⟩, c, rfl, hc, ⟨rfl, hm, fun _ => ⟨_, rfl, fun j x hx => ?_⟩⟩⟩
  obtain ⟨c0, c1, c2, c3⟩ := h j x hx
  refine ⟨cJ x, rfl, k28_mk w x, fun i u hu => ?_⟩
  show w.cell? ((⟨b, o, none⟩ : Addr).add (j * 4 + i)) = some u
  rw [Go.WideShapes.add_plain]
  match i, hu with
  | 0, hu => obtain rfl := Option.some.inj hu; exact c0
  | 1, hu => obtain rfl := Option.some.inj hu; exact c1
  | 2, hu => obtain rfl := Option.some.inj hu; exact c2
  | 3, hu => obtain rfl := Option.some.inj hu; exact c3
theorem jobs_of {w : World} {b o : Nat} : ∀ n : Nat, (∀ i, i < n → ∃ x : Jb, JAt w b o i x) → ∃ js : List Jb, js.length = n ∧ ∀ i x, js[i]? = some x → JAt w b o i x
  | 0, _ => ⟨[], rfl, fun i x h => by simp at h⟩
  | n + 1, h => by
    obtain ⟨js, h1, h2⟩ := jobs_of n (fun i hi => h i (by omega))
    obtain ⟨x, hx0⟩ := h n (by omega)
    refine ⟨js ++ [x], by simp [h1], ?_⟩
    intro i y hy
    rcases Nat.lt_or_ge i n with hi | hi
    · rw [List.getElem?_append_left (by omega)] at hy
      exact h2 i y hy
    · rw [List.getElem?_append_right (by omega)] at hy
      have hi2 : i - js.length = 0 := by
        have := (List.getElem?_eq_some_iff.1 hy).1
        simp at this
        omega
      rw [hi2] at hy
      obtain rfl : x = y := by simpa using hy
      obtain rfl : i = n := by omega
      exact hx0
/-- A job as an argument. -/
theorem job_of_rd {w : World} {cs : List Value} (h : Rd28 w cs) : ∃ x : Jb, cs = cJ x := by
  obtain ⟨c0, c1, c2, c3, rfl, ⟨z0, rfl, _⟩, ⟨z1, rfl, _⟩, ⟨z2, rfl, _⟩, ⟨z3, rfl, _⟩⟩ := h
  exact ⟨⟨z0, z1, z2, z3⟩, rfl⟩
theorem jobs_of_rd {w : World} {cs : List Value} (h : Rd22 w cs) : ∃ (v : Value) (js : List Jb), cs = [v] ∧ TR w v js ∧ js.length * 32 ≤ 140737488351232 := by
  obtain ⟨a, n, c, rfl, hnc, hcm, hb, h0 | ⟨b, o, rfl, hel⟩⟩ := h
  · subst h0
    exact ⟨_, [], rfl, ⟨a, c, rfl, Nat.zero_le _, ⟨rfl, by simp, fun h => absurd h (Nat.lt_irrefl 0)⟩⟩, by simp⟩
  · obtain ⟨js, h1, h2⟩ := jobs_of (w := w) (b := b) (o := o) n (fun i hi => by
      obtain ⟨ce, hl, hc, hr⟩ := hel i hi
      obtain ⟨x, rfl⟩ := job_of_rd hr
      exact ⟨x, by simpa using hc 0 (by decide), by simpa using hc 1 (by decide), by simpa using hc 2 (by decide), by simpa using hc 3 (by decide)⟩)
    unfold maxLen at hcm
    exact ⟨_, js, rfl, TR.of_cells h1 hnc (by omega) h2, by rw [h1]; exact hb⟩
theorem new_yes (p : Int) (w : World) (h : 0 ≤ p ∧ p ≤ 31) : Calls Tryd.prog 21 #[.int .i64 p] w fun e w' => ∃ v, e = .returned (.tuple #[Tk.v ⟨p, [], 0, 0, 0, 0, 0, 0⟩ v, .nilIface]) ∧ kJ.R 28 w' w.heap.size (fun _ => True) v [] ∧ Below w.heap.size w w' := by
  refine (task_New.calls p p [] 0 0 0 0 0 0 none w ?_).mono (fun e w' h => h)
  unfold task_New.f
  rw [is_f]
  simp [h.1, h.2]
theorem new_no (p : Int) (w : World) (h : ¬ (0 ≤ p ∧ p ≤ 31)) : Calls Tryd.prog 21 #[.int .i64 p] w fun e w' => ∃ v, e = .returned (.tuple #[zT.v v, .iface 61 (.int .i64 2)]) ∧ kJ.R 28 w' w.heap.size (fun _ => True) v [] ∧ Below w.heap.size w w' := by
  refine (task_New.calls p 0 [] 0 0 0 0 0 0 (some 2) w ?_).mono (fun e w' h => h)
  unfold task_New.f
  rw [is_f]
  simp [h]

theorem assertErrno (n : Int) (w : World) : Sem.run Tryd.prog (Instr.typeAssert (.iface 61 (.int .i64 n)) 31 61 true) w = .ok (.tuple #[.int .i64 n, .bool true]) w := by
  simp [Instr.typeAssert, run_underlying Tryd.underlying61]
attribute [local go_sem high] assertErrno
theorem num_errno (n : Int) (w : World) : Calls Tryd.prog 14 #[.iface 61 (.int .i64 n)] w fun e w' => e = .returned (.int .i64 n) ∧ w = w' := by
  go_enter Tryd.func14, Tryd.ntmps14
  go_wp2_with fail
  go_ret
  exact ⟨rfl, rfl⟩
end Go.Proofs.YtkfjlkpickeobaaDoor

set_option linter.unusedVariables false
set_option linter.unusedSimpArgs false
namespace Go.Proofs.YtkfjlkpickeobaaDoor
open Go.RowKit
open Go.Proofs.YtkfjlkpickeobaaDoorW.PrintWords (Kd Drawn0 Kept rd rdOf ReadsRow)
open Go.Proofs.YtkfjlkpickeobaaDoor.PTaskRuns
set_option maxRecDepth 100000

/-- A task lies in a block of its own. -/
structure TX (W : World) (b : Nat) (T : Tk) (v : Value) : Prop where
  blk : W.heap[b]? = some (.cells (T.cs v).1 26 (0, 0))
  tr : TR W v T.js
section
variable {W W' : World} {b : Nat} {T : Tk} {v : Value} {x : Jb}
theorem TX.lt (h : TX W b T v) : b < W.heap.size := (Array.getElem?_eq_some_iff.1 h.blk).1
theorem TX.below (h : TX W b T v) (hb : Below W.heap.size W W') : TX W' b T v := ⟨(hb.block b h.lt).trans h.blk, h.tr.below hb⟩
theorem TX.alloc (h : TX W b T v) (o : Obj) : TX (W.alloc o) b T v := h.below ((Below.refl _ W).alloc (Nat.le_refl _) o)
theorem TX.new (h : TR W v T.js) : TX (W.alloc (.cells (T.cs v).1 26)) W.heap.size T v := ⟨alloc_new W _, h.below ((Below.refl _ W).alloc (Nat.le_refl _) _)⟩
theorem TX.t8 (h : TX W b T v) : W.cell? ⟨b, 0, none⟩ = some (.int .i64 T.p) ∧ W.cell? ⟨b, 1, none⟩ = some v ∧ W.cell? ⟨b, 2, none⟩ = some (.int .i64 T.g) ∧ W.cell? ⟨b, 3, none⟩ = some (.int .i64 T.o) ∧ W.cell? ⟨b, 4, none⟩ = some (.int .i64 T.l) ∧ W.cell? ⟨b, 5, none⟩ = some (.int .i64 T.d) ∧ W.cell? ⟨b, 6, none⟩ = some (.int .i64 T.c) ∧ W.cell? ⟨b, 7, none⟩ = some (.int .i64 T.t) := by
  have := h.blk
  refine ⟨?_, ?_, ?_, ?_, ?_, ?_, ?_, ?_⟩ <;> simp [World.cell?, this]
end

end Go.Proofs.YtkfjlkpickeobaaDoor

set_option linter.unusedVariables false
set_option linter.unusedSimpArgs false
namespace Go.Proofs.YtkfjlkpickeobaaDoor
open Go.RowKit
open Go.Proofs.YtkfjlkpickeobaaDoorW.PrintWords (Kd Drawn0 Kept rd rdOf)
open Go.Proofs.YtkfjlkpickeobaaDoor.PTaskRuns
set_option maxRecDepth 100000

end Go.Proofs.YtkfjlkpickeobaaDoor
