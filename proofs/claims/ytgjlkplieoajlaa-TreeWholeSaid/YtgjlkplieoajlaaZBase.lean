/- Of the text Base only what this claim needs (shake.py, this repo's). -/
import Derived.Test.YtgjlkplieoajlaaProg
import Derived.WalkKit
import Derived.Lib.Hide
import Derived.Deep.QuietTactic
import Derived.BigQuiet
import Derived.IntWalk
import Derived.Deep.RegionHeld3
set_option linter.unusedVariables false
namespace Go.Proofs.Ytgjlkplieoajlaa
open Go.RowKit

/-- A cell that is there stays there behind a callee. -/
theorem keep {W w1 : World} (hb : Below W.heap.size W w1) {b o : Nat} {v : Value} (h : W.cell? ⟨b, o, none⟩ = some v) : w1.cell? ⟨b, o, none⟩ = some v := by
  rw [hb.cell (p := ⟨b, o, none⟩)]
  · exact h
  · rcases Nat.lt_or_ge b W.heap.size with k | k
    · exact k
    · simp [World.cell?, Array.getElem?_eq_none k] at h

theorem below_alloc {B : Nat} {a w : World} (h : Below B a w) (hB : B ≤ a.heap.size) (o : Obj) : Below B a (w.alloc o) := h.alloc (Nat.le_trans hB h.size) o

theorem below_call {B : Nat} {a w w' : World} (h : Below B a w) (hB : B ≤ a.heap.size) (k : Below w.heap.size w w') : Below B a w' := h.trans (k.mono (Nat.le_trans hB h.size))

theorem below_drewN' {B : Nat} {a w : World} (h : Below B a w) (n : Nat) : Below B a (w.drewN n) := ⟨h.os, h.tape, h.output, h.size, h.block⟩

/-- May a reservation be? -/
def Vld (q p : Int) : Prop := 1 ≤ q ∧ p ≤ 1048576 ∧ q ≤ p
theorem Vld.lo {q p : Int} (h : Vld q p) : 1 ≤ q := h.1
theorem Vld.top {q p : Int} (h : Vld q p) : p ≤ 1048576 := h.2.1
theorem Vld.le {q p : Int} (h : Vld q p) : q ≤ p := h.2.2
instance (q p : Int) : Decidable (Vld q p) := by unfold Vld; infer_instance
theorem Vld.c1 {q p : Int} (h : Vld q p) : decide (q < 1) = false := by have := h.lo; simp; omega
theorem Vld.c2 {q p : Int} (h : Vld q p) : decide (1048576 < p) = false := by have := h.top; simp; omega
theorem Vld.c3 {q p : Int} (h : Vld q p) : decide (p < q) = false := by have := h.le; simp; omega

end Go.Proofs.Ytgjlkplieoajlaa
